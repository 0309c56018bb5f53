/- The texts SRf256, SSameG, SSame, MSum, MExpand, UBytes, UKeys, UPlain, UAll, PKeep, UKeep, RRefSplit, PlainL, CRfQuarter, CRfBlock, CRfXor, merged into one. -/
import Derived.Test.YtmbepikkgkcgkaaGreatDoorUK6
namespace Go.Proofs.YtmbepikkgkcgkaaGreatDoor
open Go.RowKit
def rf256_L13_S (tx : List (BitVec 8)) (j5 : Nat) (j9 : Nat) (X6 : List (BitVec 32)) (j13 : Nat) : List (BitVec 32) := put X6 j9 (((nth X6 j9) <<< 8) ||| ((nth (rfPad tx) (((64 * j5) + (4 * j9)) + j13)).setWidth 32))
def rf256_L13 (tx : List (BitVec 8)) (j5 : Nat) (X4 : List (BitVec 32)) (j9 : Nat) : Nat → List (BitVec 32)
  | 0 => X4
  | j13 + 1 => rf256_L13_S tx j5 j9 (rf256_L13 tx j5 X4 j9 j13) j13
theorem rf256_L13_len (tx : List (BitVec 8)) (j5 : Nat) (X4 : List (BitVec 32)) (j9 : Nat) (hX4 : X4.length = 64) (j13 : Nat) : (rf256_L13 tx j5 X4 j9 j13).length = 64 := by
  induction j13 with
  | zero => first | (simp [rf256_L13, *]; done) | (simp [rf256_L13, *]; omega)
  | succ j13 ih => rw [rf256_L13.eq_2, rf256_L13_S]; first | (simp [ih]; done) | (simp [ih]; omega) | (simp [*]; done) | (simp [*]; omega) | (split <;> first | (simp [ih]; done) | (simp [ih]; omega) | (simp [*]; done))
def rf256_L9_S (tx : List (BitVec 8)) (j5 : Nat) (X4 : List (BitVec 32)) (j9 : Nat) : List (BitVec 32) := if j9 < 16 then (rf256_L13 tx j5 X4 j9 4) else put X4 j9 ((((nth X4 (j9 - 16)) + (nth X4 (j9 - 7))) + (((rfRot32 (nth X4 (j9 - 15)) 7) ^^^ (rfRot32 (nth X4 (j9 - 15)) 18)) ^^^ ((nth X4 (j9 - 15)) >>> 3))) + (((rfRot32 (nth X4 (j9 - 2)) 17) ^^^ (rfRot32 (nth X4 (j9 - 2)) 19)) ^^^ ((nth X4 (j9 - 2)) >>> 10)))
def rf256_L9 (tx : List (BitVec 8)) (j5 : Nat) : Nat → List (BitVec 32)
  | 0 => zer32 64
  | j9 + 1 => rf256_L9_S tx j5 (rf256_L9 tx j5 j9) j9
@[simp] theorem rf256_L9_len (tx : List (BitVec 8)) (j5 : Nat) (j9 : Nat) : (rf256_L9 tx j5 j9).length = 64 := by
  induction j9 with
  | zero => first | (simp [rf256_L9, *]; done) | (simp [rf256_L9, *]; omega)
  | succ j9 ih => rw [rf256_L9.eq_2, rf256_L9_S]; first | (simp [ih]; done) | (simp [ih]; omega) | (simp [rf256_L13_len, *]; done) | (simp [rf256_L13_len, *]; omega) | (split <;> first | (simp [ih]; done) | (simp [ih]; omega) | (simp [rf256_L13_len, *]; done))
def rf256_L20_S (Y5 : List (BitVec 32)) (X6 : List (BitVec 32)) (j20 : Nat) : List (BitVec 32) := [(((((nth X6 7) + (((rfRot32 (nth X6 4) 6) ^^^ (rfRot32 (nth X6 4) 11)) ^^^ (rfRot32 (nth X6 4) 25))) + (((nth X6 4) &&& (nth X6 5)) ^^^ ((~~~(nth X6 4)) &&& (nth X6 6)))) + (nth rfK256 j20)) + (nth Y5 j20)) + ((((rfRot32 (nth X6 0) 2) ^^^ (rfRot32 (nth X6 0) 13)) ^^^ (rfRot32 (nth X6 0) 22)) + ((((nth X6 0) &&& (nth X6 1)) ^^^ ((nth X6 0) &&& (nth X6 2))) ^^^ ((nth X6 1) &&& (nth X6 2)))), nth X6 0, nth X6 1, nth X6 2, (nth X6 3) + (((((nth X6 7) + (((rfRot32 (nth X6 4) 6) ^^^ (rfRot32 (nth X6 4) 11)) ^^^ (rfRot32 (nth X6 4) 25))) + (((nth X6 4) &&& (nth X6 5)) ^^^ ((~~~(nth X6 4)) &&& (nth X6 6)))) + (nth rfK256 j20)) + (nth Y5 j20)), nth X6 4, nth X6 5, nth X6 6]
def rf256_L20 (X3 : List (BitVec 32)) (Y5 : List (BitVec 32)) : Nat → List (BitVec 32)
  | 0 => X3
  | j20 + 1 => rf256_L20_S Y5 (rf256_L20 X3 Y5 j20) j20
theorem rf256_L20_len (X3 : List (BitVec 32)) (Y5 : List (BitVec 32)) (hX3 : X3.length = 8) (_hY5 : Y5.length = 64) (j20 : Nat) : (rf256_L20 X3 Y5 j20).length = 8 := by
  induction j20 with
  | zero => first | (simp [rf256_L20, *]; done) | (simp [rf256_L20, *]; omega)
  | succ j20 ih => rw [rf256_L20.eq_2, rf256_L20_S]; first | (simp; done) | (simp [ih]; omega) | (simp [rf256_L13_len, rf256_L9_len, *]; done) | (simp [rf256_L13_len, rf256_L9_len, *]; omega) | (split <;> first | (simp [ih]; done) | (simp [ih]; omega) | (simp [rf256_L13_len, rf256_L9_len, *]; done))
def rf256_L27_S (Y7 : List (BitVec 32)) (X8 : List (BitVec 32)) (j27 : Nat) : List (BitVec 32) := put X8 j27 ((nth X8 j27) + (nth Y7 j27))
def rf256_L27 (X3 : List (BitVec 32)) (Y7 : List (BitVec 32)) : Nat → List (BitVec 32)
  | 0 => X3
  | j27 + 1 => rf256_L27_S Y7 (rf256_L27 X3 Y7 j27) j27
theorem rf256_L27_len (X3 : List (BitVec 32)) (Y7 : List (BitVec 32)) (hX3 : X3.length = 8) (j27 : Nat) : (rf256_L27 X3 Y7 j27).length = 8 := by
  induction j27 with
  | zero => first | (simp [rf256_L27, *]; done) | (simp [rf256_L27, *]; omega)
  | succ j27 ih => rw [rf256_L27.eq_2, rf256_L27_S]; first | (simp [ih]; done) | (simp [ih]; omega) | (simp [rf256_L13_len, rf256_L9_len, rf256_L20_len, *]; done) | (simp [rf256_L13_len, rf256_L9_len, rf256_L20_len, *]; omega) | (split <;> first | (simp [ih]; done) | (simp [ih]; omega) | (simp [rf256_L13_len, rf256_L9_len, rf256_L20_len, *]; done))
def rf256_L5_S (tx : List (BitVec 8)) (X3 : List (BitVec 32)) (j5 : Nat) : List (BitVec 32) := (rf256_L27 X3 (rf256_L20 X3 (rf256_L9 tx j5 64) 64) 8)
def rf256_L5 (tx : List (BitVec 8)) : Nat → List (BitVec 32)
  | 0 => [1779033703#32, 3144134277#32, 1013904242#32, 2773480762#32, 1359893119#32, 2600822924#32, 528734635#32, 1541459225#32]
  | j5 + 1 => rf256_L5_S tx (rf256_L5 tx j5) j5
@[simp] theorem rf256_L5_len (tx : List (BitVec 8)) (j5 : Nat) : (rf256_L5 tx j5).length = 8 := by
  induction j5 with
  | zero => first | (simp [rf256_L5, *]; done) | (simp [rf256_L5, *]; omega)
  | succ j5 ih => rw [rf256_L5.eq_2, rf256_L5_S]; first | (simp [ih]; done) | (simp [ih]; omega) | (simp [rf256_L27_len, *]; done) | (simp [rf256_L13_len, rf256_L9_len, rf256_L20_len, rf256_L27_len, *]; omega) | (split <;> first | (simp [ih]; done) | (simp [ih]; omega) | (simp [rf256_L13_len, rf256_L9_len, rf256_L20_len, rf256_L27_len, *]; done))
def rf256_L32_S (Y13 : List (BitVec 32)) (X14 : List (BitVec 8)) (j32 : Nat) : List (BitVec 8) := put X14 j32 (((nth Y13 (j32 / 4)) >>> (BitVec.ofNat 64 (24 - (8 * (j32 % 4)))).toNat).setWidth 8)
def rf256_L32 (Y13 : List (BitVec 32)) : Nat → List (BitVec 8)
  | 0 => zer8 32
  | j32 + 1 => rf256_L32_S Y13 (rf256_L32 Y13 j32) j32
@[simp] theorem rf256_L32_len (Y13 : List (BitVec 32)) (j32 : Nat) : (rf256_L32 Y13 j32).length = 32 := by
  induction j32 with
  | zero => first | (simp [rf256_L32, *]; done) | (simp [rf256_L32, *]; omega)
  | succ j32 ih => rw [rf256_L32.eq_2, rf256_L32_S]; first | (simp [ih]; done) | (simp [ih]; omega) | (simp [rf256_L13_len, rf256_L9_len, rf256_L20_len, rf256_L27_len, rf256_L5_len, *]; done) | (simp [rf256_L13_len, rf256_L9_len, rf256_L20_len, rf256_L27_len, rf256_L5_len, *]; omega) | (split <;> first | (simp [ih]; done) | (simp [ih]; omega) | (simp [rf256_L13_len, rf256_L9_len, rf256_L20_len, rf256_L27_len, rf256_L5_len, *]; done))
def rf256 (tx : List (BitVec 8)) : List (BitVec 8) := (rf256_L32 (rf256_L5 tx (((((tx.length + 1) + (120 - (tx.length + 1) % 64) % 64) + 8) + 63) / 64)) 32)
@[simp] theorem rf256_len (tx : List (BitVec 8)) : (rf256 tx).length = 32 := by
  unfold rf256
  first | (simp [rf256_L32_len, *]; done) | (simp [rf256_L13_len, rf256_L9_len, rf256_L20_len, rf256_L27_len, rf256_L5_len, rf256_L32_len, *]; omega)
attribute [irreducible] rf256
end Go.Proofs.YtmbepikkgkcgkaaGreatDoor
namespace Go.Proofs.YtmbepikkgkcgkaaGreatDoor
open Go.RowKit
end Go.Proofs.YtmbepikkgkcgkaaGreatDoor
namespace Go.Proofs.YtmbepikkgkcgkaaGreatDoor
open Go.RowKit
end Go.Proofs.YtmbepikkgkcgkaaGreatDoor
namespace Go.Proofs.YtmbepikkgkcgkaaGreatDoor
open Go.RowKit
def macSumS_L8_S (X3 : List (BitVec 8)) (X4 : List (BitVec 8)) (j8 : Nat) : List (BitVec 8) × List (BitVec 8) := (put X3 j8 ((nth X3 j8) ^^^ 54#8), put X4 j8 ((nth X4 j8) ^^^ 92#8))
def macSumS_L8 (key : List (BitVec 8)) : Nat → List (BitVec 8) × List (BitVec 8)
  | 0 => (over (zer8 64) 0 (cut key 0 (min key.length 64)), over (zer8 64) 0 (cut key 0 (min key.length 64)))
  | j8 + 1 => macSumS_L8_S (macSumS_L8 key j8).1 (macSumS_L8 key j8).2 j8
@[simp] theorem macSumS_L8_len0 (key : List (BitVec 8)) (j8 : Nat) : (macSumS_L8 key j8).1.length = 64 := by
  induction j8 with
  | zero => first | (simp [macSumS_L8, *]; done) | (simp [macSumS_L8, *]; omega)
  | succ j8 ih => rw [macSumS_L8.eq_2, macSumS_L8_S]; first | (simp [ih]; done) | (simp [ih]; omega) | (simp [*]; done) | (split <;> first | (simp [ih]; done) | (simp [ih]; omega) | (simp [*]; done))
@[simp] theorem macSumS_L8_len1 (key : List (BitVec 8)) (j8 : Nat) : (macSumS_L8 key j8).2.length = 64 := by
  induction j8 with
  | zero => first | (simp [macSumS_L8, *]; done) | (simp [macSumS_L8, *]; omega)
  | succ j8 ih => rw [macSumS_L8.eq_2, macSumS_L8_S]; first | (simp [ih]; done) | (simp [ih]; omega) | (simp [*]; done) | (split <;> first | (simp [ih]; done) | (simp [ih]; omega) | (simp [*]; done))
def macSumS (key : List (BitVec 8)) (b : List (BitVec 8)) : List (BitVec 8) := sha256 (((macSumS_L8 key 64).2) ++ (sha256 (((macSumS_L8 key 64).1) ++ b)))
set_option maxRecDepth 100000 in
set_option maxHeartbeats 2000000 in
theorem macSumS_ev (key : List (BitVec 8)) (kn : Nat) (kcap : Nat) (b : List (BitVec 8)) (n : Nat) (cap : Nat) (hkey : key.length = kn) (hkn : kn ≤ 1099511627776) (hb : b.length = n) (hn : n ≤ 1099511627776) (hshort : kn ≤ 64) : Ev Tryz.prog (.call 116 [.c (.sl 0 0 kn kcap 1), .c (.sl 1 0 n cap 1)] [.row false (.a8 (key)), .row false (.a8 (b))]) (.val (.agg (.a8 (macSumS key b))) [.row false (.a8 (key)), .row false (.a8 (b))]) := by
  have hP : Hid (macSumS key b = sha256 (((macSumS_L8 key 64).2) ++ (sha256 (((macSumS_L8 key 64).1) ++ b)))) := ⟨rfl⟩
  subst hkey
  subst hb
  refine c_call Tryz.func116 rfl Tryz.ntmps116 rfl LEN_ ?_
  refine S_ ?_
  refine c_region ?_
  refine s_memN (m_alloc al_37 LEN_) APP_ rfl ?_
  refine s_nil ?_
  refine S_ ?_
  refine c_region ?_
  refine s_val (v_moveC rfl) rfl ?_
  refine s_val (v_lenS rfl Tryz.underlying23) rfl ?_
  refine s_val (v_gtrN (b := 64) rfl rfl) rfl ?_
  refine s_nil ?_
  refine Q_ ?_
  refine c_condF rfl (decide_eq_false (by omega)) ?_
  refine S_ ?_
  refine c_draw 4 mixed (by kernel_rfl) rfl rfl rfl ?_
  refine h_memN (m_make8 (a := 64) (b := 64) Tryz.underlying23 rfl rfl el_5 rep_5 (by omega) (by omega) (by omega) LEN_) APP_ rfl ?_
  refine h_memN (m_make8 (a := 64) (b := 64) Tryz.underlying23 rfl rfl el_5 rep_5 (by omega) (by omega) (by omega) LEN_) APP_ rfl ?_
  refine h_val (v_assignC rfl) rfl ?_
  refine h_val (v_assignC rfl) rfl ?_
  refine h_nil ?_
  refine s_nil ?_
  refine S_ ?_
  refine c_region ?_
  refine s_val (v_moveC rfl) rfl ?_
  refine s_val (v_moveC rfl) rfl ?_
  refine s_copy8 rfl rfl rfl rfl Tryz.underlying23 sz_5 LE_ LE_ MN_ SET_ rfl ?_
  refine s_nil ?_
  have hQ1 : (over (zer8 64) 0 (cut key 0 (min key.length 64))).length = 64 := LQ_
  refine S_ ?_
  refine c_region ?_
  refine s_val (v_moveC rfl) rfl ?_
  refine s_val (v_moveC rfl) rfl ?_
  refine s_copy8 rfl rfl rfl rfl Tryz.underlying23 sz_5 LE_ LE_ MN_ SET_ rfl ?_
  refine s_nil ?_
  have hQ2 : (over (zer8 64) 0 (cut key 0 (min key.length 64))).length = 64 := LQ_
  refine S_ ?_
  refine c_region ?_
  refine s_val (v_moveC rfl) rfl ?_
  refine s_val (v_lenS rfl Tryz.underlying23) rfl ?_
  refine s_val (v_moveC rfl) rfl ?_
  refine s_nil ?_
  refine S_ ?_
  refine c_loopC [1, 4, 6, 7, 25, 26] (fun (zz : Nat × List (BitVec 8) × List (BitVec 8)) => ⟨50, keepT [1, 4, 6, 7, 25, 26] [.c (.sl 1 0 b.length cap 1), .c (.ptr 2 0), .c (.sl 3 0 64 64 1), .c (.sl 4 0 64 64 1), .c (.val (.int .i64 (((64 : Nat) : Int)))), .c (.val (.int .i64 (((zz.1 : Nat) : Int))))], [.row false (.a8 (key)), .row false (.a8 (b)), .row true (.a8 (zer8 32)), .row true (.a8 (zz.2.1)), .row true (.a8 (zz.2.2))]⟩) (fun j8 => (j8, macSumS_L8 key j8)) (64) (by kernel_rfl) ?_ ?_
  · intro j8 hj8
    try dsimp only
    have hX3 : (macSumS_L8 key j8).1.length = 64 := by rw [macSumS_L8_len0 key _]; try omega
    have hX4 : (macSumS_L8 key j8).2.length = 64 := by rw [macSumS_L8_len1 key _]; try omega
    rw [macSumS_L8.eq_2, macSumS_L8_S]
    generalize macSumS_L8 key j8 = Z5 at *
    obtain ⟨X3, X4⟩ := Z5
    try dsimp only at *
    refine S_ ?_
    refine c_region ?_
    refine s_val (v_lssN (b := 64) rfl rfl) rfl ?_
    refine s_nil ?_
    refine S_ ?_
    refine c_region ?_
    refine s_val (v_moveC rfl) rfl ?_
    refine s_val (v_assignC rfl) rfl ?_
    refine s_nil ?_
    refine S_ ?_
    refine c_region ?_
    refine s_val (v_moveC rfl) rfl ?_
    refine s_val (v_moveC rfl) rfl ?_
    refine s_val (v_idxS1 rfl rfl Tryz.underlying23 sz_5 (by omega)) rfl ?_
    refine s_val (v_load8 rfl rfl row_5 LT_) rfl ?_
    refine s_val (v_xor8 (b := 54#8) rfl rfl) rfl ?_
    refine s_val (v_idxS1 rfl rfl Tryz.underlying23 sz_5 (by omega)) rfl ?_
    refine s_store8 rfl rfl rfl sz_5 LT_ SET_ ?_
    refine s_nil ?_
    refine S_ ?_
    refine c_region ?_
    refine s_val (v_moveC rfl) rfl ?_
    refine s_val (v_moveC rfl) rfl ?_
    refine s_val (v_idxS1 rfl rfl Tryz.underlying23 sz_5 (by omega)) rfl ?_
    refine s_val (v_load8 rfl rfl row_5 LT_) rfl ?_
    refine s_val (v_xor8 (b := 92#8) rfl rfl) rfl ?_
    refine s_val (v_idxS1 rfl rfl Tryz.underlying23 sz_5 (by omega)) rfl ?_
    refine s_store8 rfl rfl rfl sz_5 LT_ SET_ ?_
    refine s_nil ?_
    refine S_ ?_
    refine c_region ?_
    refine s_val (v_addN (b := 1) rfl rfl (by omega)) rfl ?_
    refine s_val (v_moveC rfl) rfl ?_
    refine s_nil ?_
    exact ⟨(j8 + 1, _), by kernel_rfl, rfl⟩
  · try dsimp only
    have hY6 : (macSumS_L8 key 64).1.length = 64 := by rw [macSumS_L8_len0 key _]; try omega
    have hY7 : (macSumS_L8 key 64).2.length = 64 := by rw [macSumS_L8_len1 key _]; try omega
    generalize macSumS_L8 key 64 = Z8 at *
    obtain ⟨Y6, Y7⟩ := Z8
    try dsimp only at *
    refine S_ ?_
    refine c_region ?_
    refine s_val (v_lssN (a := 64) (b := 64) rfl rfl) rfl ?_
    refine s_nil ?_
    refine S_ ?_
    refine c_region ?_
    refine s_val (v_moveC rfl) rfl ?_
    refine s_val (v_moveC rfl) rfl ?_
    refine s_app8 rfl rfl rfl rfl Tryz.underlying23 Tryz.underlying23 el_5 EQL_ EQL_ (by omega) LEN_ KILL_ rfl ?_
    refine s_evN (e_callR (bs := [5]) (sha256_evS (Y6 ++ b) (64 + b.length) (64 + b.length) HYP_ HYP_) ok_38 (by kernel_rfl) (by kernel_rfl) rfl VAL_) APP_ rfl ?_
    refine s_memN (m_alloc al_37 LEN_) APP_ rfl ?_
    refine s_storeR rfl rfl rfl rfl sz_37 EQ_ EQ_ SET_ ?_
    refine s_nil ?_
    have hQ9 : (sha256 (Y6 ++ b)).length = 32 := LQ_
    refine S_ ?_
    refine c_region ?_
    refine s_val (v_moveC rfl) rfl ?_
    refine s_val (v_slA1 (l := 0) (h := 32) (len := 32) (cp := 32) rfl Tryz.underlying37 sz_5 rfl rfl rfl (by omega) (by omega) FIT_ rfl rfl) rfl ?_
    refine s_app8 rfl rfl rfl rfl Tryz.underlying23 Tryz.underlying23 el_5 EQL_ EQL_ (by omega) LEN_ KILL_ rfl ?_
    refine s_evN (e_callR (bs := [7]) (sha256_evS (Y7 ++ (sha256 (Y6 ++ b))) 96 96 HYP_ HYP_) ok_38 (by kernel_rfl) (by kernel_rfl) rfl VAL_) APP_ rfl ?_
    refine s_storeR rfl rfl rfl rfl sz_37 EQ_ EQ_ SET_ ?_
    refine s_nil ?_
    have hQ10 : (sha256 (Y7 ++ (sha256 (Y6 ++ b)))).length = 32 := LQ_
    refine S_ ?_
    rw [hP.out]
    exact k_1 (r_row rfl rfl row_37 sz_37 EQ_ (by decide)) (by first | kernel_rfl | rfl)
@[simp] theorem macSumS_len (key : List (BitVec 8)) (b : List (BitVec 8)) : (macSumS key b).length = 32 := by
  unfold macSumS
  first | (simp [*]; done) | (simp [macSumS_L8_len0, macSumS_L8_len1, *]; omega)
attribute [irreducible] macSumS
def macSumL_L8_S (X4 : List (BitVec 8)) (X5 : List (BitVec 8)) (j8 : Nat) : List (BitVec 8) × List (BitVec 8) := (put X4 j8 ((nth X4 j8) ^^^ 54#8), put X5 j8 ((nth X5 j8) ^^^ 92#8))
def macSumL_L8 (key : List (BitVec 8)) : Nat → List (BitVec 8) × List (BitVec 8)
  | 0 => (over (zer8 64) 0 (sha256 key), over (zer8 64) 0 (sha256 key))
  | j8 + 1 => macSumL_L8_S (macSumL_L8 key j8).1 (macSumL_L8 key j8).2 j8
@[simp] theorem macSumL_L8_len0 (key : List (BitVec 8)) (j8 : Nat) : (macSumL_L8 key j8).1.length = 64 := by
  induction j8 with
  | zero => first | (simp [macSumL_L8, *]; done) | (simp [macSumL_L8, *]; omega)
  | succ j8 ih => rw [macSumL_L8.eq_2, macSumL_L8_S]; first | (simp [ih]; done) | (simp [ih]; omega) | (simp [*]; done) | (split <;> first | (simp [ih]; done) | (simp [ih]; omega) | (simp [*]; done))
@[simp] theorem macSumL_L8_len1 (key : List (BitVec 8)) (j8 : Nat) : (macSumL_L8 key j8).2.length = 64 := by
  induction j8 with
  | zero => first | (simp [macSumL_L8, *]; done) | (simp [macSumL_L8, *]; omega)
  | succ j8 ih => rw [macSumL_L8.eq_2, macSumL_L8_S]; first | (simp [ih]; done) | (simp [ih]; omega) | (simp [*]; done) | (split <;> first | (simp [ih]; done) | (simp [ih]; omega) | (simp [*]; done))
def macSumL (key : List (BitVec 8)) (b : List (BitVec 8)) : List (BitVec 8) := sha256 (((macSumL_L8 key 64).2) ++ (sha256 (((macSumL_L8 key 64).1) ++ b)))
set_option maxRecDepth 100000 in
set_option maxHeartbeats 2000000 in
theorem macSumL_ev (key : List (BitVec 8)) (kn : Nat) (kcap : Nat) (b : List (BitVec 8)) (n : Nat) (cap : Nat) (hkey : key.length = kn) (hkn : kn ≤ 1099511627776) (hb : b.length = n) (hn : n ≤ 1099511627776) (hlong : 64 < kn) : Ev Tryz.prog (.call 116 [.c (.sl 0 0 kn kcap 1), .c (.sl 1 0 n cap 1)] [.row false (.a8 (key)), .row false (.a8 (b))]) (.val (.agg (.a8 (macSumL key b))) [.row false (.a8 (key)), .row false (.a8 (b))]) := by
  have hP : Hid (macSumL key b = sha256 (((macSumL_L8 key 64).2) ++ (sha256 (((macSumL_L8 key 64).1) ++ b)))) := ⟨rfl⟩
  subst hkey
  subst hb
  refine c_call Tryz.func116 rfl Tryz.ntmps116 rfl LEN_ ?_
  refine S_ ?_
  refine c_region ?_
  refine s_memN (m_alloc al_37 LEN_) APP_ rfl ?_
  refine s_nil ?_
  refine S_ ?_
  refine c_region ?_
  refine s_val (v_moveC rfl) rfl ?_
  refine s_val (v_lenS rfl Tryz.underlying23) rfl ?_
  refine s_val (v_gtrN (b := 64) rfl rfl) rfl ?_
  refine s_nil ?_
  refine Q_ ?_
  refine c_condT rfl (decide_eq_true (by omega)) ?_
  refine S_ ?_
  refine c_region ?_
  refine s_val (v_moveC rfl) rfl ?_
  refine s_evN (e_callR (bs := [0]) (sha256_evS key key.length kcap HYP_ HYP_) ok_38 (by kernel_rfl) (by kernel_rfl) rfl VAL_) APP_ rfl ?_
  refine s_memN (m_alloc al_37 LEN_) APP_ rfl ?_
  refine s_storeR rfl rfl rfl rfl sz_37 EQ_ EQ_ SET_ ?_
  refine s_nil ?_
  have hQ1 : (sha256 key).length = 32 := LQ_
  refine S_ ?_
  refine c_region ?_
  refine s_val (v_slA1 (l := 0) (h := 32) (len := 32) (cp := 32) rfl Tryz.underlying37 sz_5 rfl rfl rfl (by omega) (by omega) FIT_ rfl rfl) rfl ?_
  refine s_val (v_assignC rfl) rfl ?_
  refine s_nil ?_
  refine S_ ?_
  refine c_draw 4 mixed (by kernel_rfl) rfl rfl rfl ?_
  refine h_memN (m_make8 (a := 64) (b := 64) Tryz.underlying23 rfl rfl el_5 rep_5 (by omega) (by omega) (by omega) LEN_) APP_ rfl ?_
  refine h_memN (m_make8 (a := 64) (b := 64) Tryz.underlying23 rfl rfl el_5 rep_5 (by omega) (by omega) (by omega) LEN_) APP_ rfl ?_
  refine h_val (v_assignC rfl) rfl ?_
  refine h_val (v_assignC rfl) rfl ?_
  refine h_nil ?_
  refine s_nil ?_
  refine S_ ?_
  refine c_region ?_
  refine s_val (v_moveC rfl) rfl ?_
  refine s_val (v_moveC rfl) rfl ?_
  refine s_copy8a rfl rfl rfl rfl Tryz.underlying23 sz_5 LE_ EQL_ MN_ rfl SET_ rfl ?_
  refine s_nil ?_
  have hQ2 : (over (zer8 64) 0 (sha256 key)).length = 64 := LQ_
  refine S_ ?_
  refine c_region ?_
  refine s_val (v_moveC rfl) rfl ?_
  refine s_val (v_moveC rfl) rfl ?_
  refine s_copy8a rfl rfl rfl rfl Tryz.underlying23 sz_5 LE_ EQL_ MN_ rfl SET_ rfl ?_
  refine s_nil ?_
  have hQ3 : (over (zer8 64) 0 (sha256 key)).length = 64 := LQ_
  refine S_ ?_
  refine c_region ?_
  refine s_val (v_moveC rfl) rfl ?_
  refine s_val (v_lenS rfl Tryz.underlying23) rfl ?_
  refine s_val (v_moveC rfl) rfl ?_
  refine s_nil ?_
  refine S_ ?_
  refine c_loopC [1, 4, 6, 7, 25, 26] (fun (zz : Nat × List (BitVec 8) × List (BitVec 8)) => ⟨50, keepT [1, 4, 6, 7, 25, 26] [.c (.sl 1 0 b.length cap 1), .c (.ptr 2 0), .c (.sl 3 0 64 64 1), .c (.sl 4 0 64 64 1), .c (.val (.int .i64 (((64 : Nat) : Int)))), .c (.val (.int .i64 (((zz.1 : Nat) : Int))))], [.row false (.a8 (key)), .row false (.a8 (b)), .row true (.a8 (zer8 32)), .row true (.a8 (zz.2.1)), .row true (.a8 (zz.2.2))]⟩) (fun j8 => (j8, macSumL_L8 key j8)) (64) (by kernel_rfl) ?_ ?_
  · intro j8 hj8
    try dsimp only
    have hX4 : (macSumL_L8 key j8).1.length = 64 := by rw [macSumL_L8_len0 key _]; try omega
    have hX5 : (macSumL_L8 key j8).2.length = 64 := by rw [macSumL_L8_len1 key _]; try omega
    rw [macSumL_L8.eq_2, macSumL_L8_S]
    generalize macSumL_L8 key j8 = Z6 at *
    obtain ⟨X4, X5⟩ := Z6
    try dsimp only at *
    refine S_ ?_
    refine c_region ?_
    refine s_val (v_lssN (b := 64) rfl rfl) rfl ?_
    refine s_nil ?_
    refine S_ ?_
    refine c_region ?_
    refine s_val (v_moveC rfl) rfl ?_
    refine s_val (v_assignC rfl) rfl ?_
    refine s_nil ?_
    refine S_ ?_
    refine c_region ?_
    refine s_val (v_moveC rfl) rfl ?_
    refine s_val (v_moveC rfl) rfl ?_
    refine s_val (v_idxS1 rfl rfl Tryz.underlying23 sz_5 (by omega)) rfl ?_
    refine s_val (v_load8 rfl rfl row_5 LT_) rfl ?_
    refine s_val (v_xor8 (b := 54#8) rfl rfl) rfl ?_
    refine s_val (v_idxS1 rfl rfl Tryz.underlying23 sz_5 (by omega)) rfl ?_
    refine s_store8 rfl rfl rfl sz_5 LT_ SET_ ?_
    refine s_nil ?_
    refine S_ ?_
    refine c_region ?_
    refine s_val (v_moveC rfl) rfl ?_
    refine s_val (v_moveC rfl) rfl ?_
    refine s_val (v_idxS1 rfl rfl Tryz.underlying23 sz_5 (by omega)) rfl ?_
    refine s_val (v_load8 rfl rfl row_5 LT_) rfl ?_
    refine s_val (v_xor8 (b := 92#8) rfl rfl) rfl ?_
    refine s_val (v_idxS1 rfl rfl Tryz.underlying23 sz_5 (by omega)) rfl ?_
    refine s_store8 rfl rfl rfl sz_5 LT_ SET_ ?_
    refine s_nil ?_
    refine S_ ?_
    refine c_region ?_
    refine s_val (v_addN (b := 1) rfl rfl (by omega)) rfl ?_
    refine s_val (v_moveC rfl) rfl ?_
    refine s_nil ?_
    exact ⟨(j8 + 1, _), by kernel_rfl, rfl⟩
  · try dsimp only
    have hY7 : (macSumL_L8 key 64).1.length = 64 := by rw [macSumL_L8_len0 key _]; try omega
    have hY8 : (macSumL_L8 key 64).2.length = 64 := by rw [macSumL_L8_len1 key _]; try omega
    generalize macSumL_L8 key 64 = Z9 at *
    obtain ⟨Y7, Y8⟩ := Z9
    try dsimp only at *
    refine S_ ?_
    refine c_region ?_
    refine s_val (v_lssN (a := 64) (b := 64) rfl rfl) rfl ?_
    refine s_nil ?_
    refine S_ ?_
    refine c_region ?_
    refine s_val (v_moveC rfl) rfl ?_
    refine s_val (v_moveC rfl) rfl ?_
    refine s_app8 rfl rfl rfl rfl Tryz.underlying23 Tryz.underlying23 el_5 EQL_ EQL_ (by omega) LEN_ KILL_ rfl ?_
    refine s_evN (e_callR (bs := [5]) (sha256_evS (Y7 ++ b) (64 + b.length) (64 + b.length) HYP_ HYP_) ok_38 (by kernel_rfl) (by kernel_rfl) rfl VAL_) APP_ rfl ?_
    refine s_memN (m_alloc al_37 LEN_) APP_ rfl ?_
    refine s_storeR rfl rfl rfl rfl sz_37 EQ_ EQ_ SET_ ?_
    refine s_nil ?_
    have hQ10 : (sha256 (Y7 ++ b)).length = 32 := LQ_
    refine S_ ?_
    refine c_region ?_
    refine s_val (v_moveC rfl) rfl ?_
    refine s_val (v_slA1 (l := 0) (h := 32) (len := 32) (cp := 32) rfl Tryz.underlying37 sz_5 rfl rfl rfl (by omega) (by omega) FIT_ rfl rfl) rfl ?_
    refine s_app8 rfl rfl rfl rfl Tryz.underlying23 Tryz.underlying23 el_5 EQL_ EQL_ (by omega) LEN_ KILL_ rfl ?_
    refine s_evN (e_callR (bs := [7]) (sha256_evS (Y8 ++ (sha256 (Y7 ++ b))) 96 96 HYP_ HYP_) ok_38 (by kernel_rfl) (by kernel_rfl) rfl VAL_) APP_ rfl ?_
    refine s_storeR rfl rfl rfl rfl sz_37 EQ_ EQ_ SET_ ?_
    refine s_nil ?_
    have hQ11 : (sha256 (Y8 ++ (sha256 (Y7 ++ b)))).length = 32 := LQ_
    refine S_ ?_
    rw [hP.out]
    exact k_1 (r_row rfl rfl row_37 sz_37 EQ_ (by decide)) (by first | kernel_rfl | rfl)
@[simp] theorem macSumL_len (key : List (BitVec 8)) (b : List (BitVec 8)) : (macSumL key b).length = 32 := by
  unfold macSumL
  first | (simp [*]; done) | (simp [macSumL_L8_len0, macSumL_L8_len1, *]; omega)
attribute [irreducible] macSumL
def macSum (key b : List (BitVec 8)) : List (BitVec 8) := if 64 < key.length then macSumL key b else macSumS key b
@[simp] theorem macSum_len (key b : List (BitVec 8)) : (macSum key b).length = 32 := by unfold macSum; split <;> simp
theorem macSum_ev (key : List (BitVec 8)) (kn kcap : Nat) (b : List (BitVec 8)) (n cap : Nat) (hkey : key.length = kn) (hkn : kn ≤ 1099511627776) (hb : b.length = n) (hn : n ≤ 1099511627776) : Ev Tryz.prog (.call 116 [.c (.sl 0 0 kn kcap 1), .c (.sl 1 0 n cap 1)] [.row false (.a8 key), .row false (.a8 b)]) (.val (.agg (.a8 (macSum key b))) [.row false (.a8 key), .row false (.a8 b)]) := by
  unfold macSum
  by_cases h : 64 < key.length
  · rw [if_pos h]; exact macSumL_ev key kn kcap b n cap hkey hkn hb hn (by omega)
  · rw [if_neg h]; exact macSumS_ev key kn kcap b n cap hkey hkn hb hn (by omega)
attribute [irreducible] macSum
end Go.Proofs.YtmbepikkgkcgkaaGreatDoor
namespace Go.Proofs.YtmbepikkgkcgkaaGreatDoor
open Go.RowKit
def macExp_L5_S (key : List (BitVec 8)) (info : List (BitVec 8)) (X1 : List (BitVec 8)) (X2 : List (BitVec 8)) (j5 : Nat) : List (BitVec 8) × List (BitVec 8) := (X1 ++ (macSum key ((X2 ++ info) ++ [BitVec.ofNat 8 (1 + j5)])), macSum key ((X2 ++ info) ++ [BitVec.ofNat 8 (1 + j5)]))
def macExp_L5 (key : List (BitVec 8)) (info : List (BitVec 8)) : Nat → List (BitVec 8) × List (BitVec 8)
  | 0 => ([], [])
  | j5 + 1 => macExp_L5_S key info (macExp_L5 key info j5).1 (macExp_L5 key info j5).2 j5
@[simp] theorem macExp_L5_len0 (key : List (BitVec 8)) (info : List (BitVec 8)) (j5 : Nat) : (macExp_L5 key info j5).1.length = 32 * j5 := by
  induction j5 with
  | zero => first | (simp [macExp_L5, *]; done) | (simp [macExp_L5, *]; omega)
  | succ j5 ih => rw [macExp_L5.eq_2, macExp_L5_S]; first | (simp [ih]; done) | (simp [ih]; omega) | (simp [*]; done) | (split <;> first | (simp [ih]; done) | (simp [ih]; omega) | (simp [*]; done))
@[simp] theorem macExp_L5_len1 (key : List (BitVec 8)) (info : List (BitVec 8)) (j5 : Nat) : (macExp_L5 key info j5).2.length = lst j5 := by
  induction j5 with
  | zero => first | (simp [macExp_L5, *]; done) | (simp [macExp_L5, *]; omega)
  | succ j5 ih => rw [macExp_L5.eq_2, macExp_L5_S]; first | (simp; done) | (simp [ih]; omega) | (simp [*]; done) | (split <;> first | (simp [ih]; done) | (simp [ih]; omega) | (simp [*]; done))
def macExp0 (key : List (BitVec 8)) (info : List (BitVec 8)) (n : Nat) : List (BitVec 8) := cut ((macExp_L5 key info ((n + 31) / 32)).1) 0 n
set_option maxRecDepth 100000 in
set_option maxHeartbeats 2000000 in
theorem macExp_ev (key : List (BitVec 8)) (kn : Nat) (kcap : Nat) (info : List (BitVec 8)) (m : Nat) (mcap : Nat) (n : Nat) (hkey : key.length = kn) (hkn : kn ≤ 1099511627) (hinfo : info.length = m) (hm : m ≤ 1099511627) (hn : n ≤ 1099511627) (hok : n ≤ 8160) : Ev Tryz.prog (.call 105 [.c (.sl 0 0 kn kcap 1), .c (.sl 1 0 m mcap 1), .c (.val (.int .i64 ((n : Nat) : Int)))] [.row false (.a8 (key)), .row false (.a8 (info))]) (.val (.tup [.c (.sl 2 0 n n 1), .c (.val (.int .i64 ((0 : Nat) : Int)))]) [.row false (.a8 (key)), .row false (.a8 (info)), .row true (.a8 (macExp0 key info n))]) := by
  have hP_macExp0 : Hid (macExp0 key info n = cut ((macExp_L5 key info ((n + 31) / 32)).1) 0 n) := ⟨rfl⟩
  subst hkey
  subst hinfo
  refine c_call Tryz.func105 rfl Tryz.ntmps105 rfl LEN_ ?_
  refine S_ ?_
  refine c_region ?_
  refine s_val (v_assignC rfl) rfl ?_
  refine s_val (v_assignC rfl) rfl ?_
  refine s_nil ?_
  refine S_ ?_
  refine c_region ?_
  refine s_val (v_moveC rfl) rfl ?_
  refine s_val (v_lssN (b := 0) rfl rfl) rfl ?_
  refine s_val (v_moveC rfl) rfl ?_
  refine s_go GO_ ?_
  refine s_val (v_moveC rfl) rfl ?_
  refine s_go GO_ ?_
  refine s_val (v_gtrN (b := 8160) rfl rfl) rfl ?_
  refine s_val (v_pickF rfl PK_ rfl) rfl ?_
  refine s_nil ?_
  refine Q_ ?_
  refine c_condF rfl (decide_eq_false (by omega)) ?_
  refine S_ ?_
  refine c_region ?_
  refine s_val (v_assignC rfl) rfl ?_
  refine s_val (v_assignC rfl) rfl ?_
  refine s_nil ?_
  refine S_ ?_
  refine c_region ?_
  refine s_val (v_assignC rfl) rfl ?_
  refine s_nil ?_
  refine S_ ?_
  refine c_nil 8 1 (.a8 ([])) rfl rfl LEN_ rfl ?_
  refine S_ ?_
  refine c_nil 9 1 (.a8 ([])) rfl rfl LEN_ rfl ?_
  refine S_ ?_
  refine c_loopC [0, 1, 2, 8, 9, 10] (fun (zz : Nat × List (BitVec 8) × List (BitVec 8)) => ⟨44, keepT [0, 1, 2, 8, 9, 10] [.c (.sl 0 0 key.length kcap 1), .c (.sl 1 0 info.length mcap 1), .c (.val (.int .i64 (((n : Nat) : Int)))), .c (.sl 2 0 (32 * zz.1) (32 * zz.1) 1), .c (.sl 3 0 (lst zz.1) (lst zz.1) 1), .c (.val (.int .i64 (((1 + zz.1 : Nat) : Int))))], [.row false (.a8 (key)), .row false (.a8 (info)), .row true (.a8 (zz.2.1)), .row true (.a8 (zz.2.2))]⟩) (fun j5 => (j5, macExp_L5 key info j5)) ((n + 31) / 32) (by kernel_rfl) ?_ ?_
  · intro j5 hj5
    try dsimp only
    have hX1 : (macExp_L5 key info j5).1.length = 32 * j5 := by rw [macExp_L5_len0 key info _]; try omega
    have hX2 : (macExp_L5 key info j5).2.length = lst j5 := by rw [macExp_L5_len1 key info _]; try omega
    have hl := lst_le j5
    rw [macExp_L5.eq_2, macExp_L5_S]
    generalize macExp_L5 key info j5 = Z3 at *
    obtain ⟨X1, X2⟩ := Z3
    try dsimp only at *
    refine S_ ?_
    refine c_region ?_
    refine s_val (v_moveC rfl) rfl ?_
    refine s_val (v_lenS rfl Tryz.underlying23) rfl ?_
    refine s_val (v_moveC rfl) rfl ?_
    refine s_val (v_lssN rfl rfl) rfl ?_
    refine s_nil ?_
    refine S_ ?_
    refine c_region ?_
    refine s_val (v_moveC rfl) rfl ?_
    refine s_memN (m_bs0 Tryz.underlying23 el_5) APP_ rfl ?_
    refine s_val (v_moveC rfl) rfl ?_
    refine s_memN (m_appE8 rfl rfl rfl Tryz.underlying23 Tryz.underlying23 el_5 EQL_ (by omega) LEN_) APP_ rfl ?_
    refine s_val (v_moveC rfl) rfl ?_
    refine s_app8 rfl rfl rfl rfl Tryz.underlying23 Tryz.underlying23 el_5 EQL_ EQL_ (by omega) LEN_ KILL_ rfl ?_
    refine s_val (v_moveC rfl) rfl ?_
    refine s_val (v_conv rfl Tryz.underlying3 Tryz.underlying5 (wi_8 _)) rfl ?_
    refine s_memN (m_bs8 (l := [_]) Tryz.underlying23 el_5 rfl rfl (by decide) (by decide) LEN_) APP_ rfl ?_
    refine s_app8 rfl rfl rfl rfl Tryz.underlying23 Tryz.underlying23 el_5 EQL_ EQL_ (by omega) LEN_ KILL_ rfl ?_
    refine s_evN (e_callR (bs := [0,7]) (macSum_ev key key.length kcap ((X2 ++ info) ++ [BitVec.ofNat 8 (1 + j5)]) (((lst j5) + info.length) + 1) (((lst j5) + info.length) + 1) HYP_ HYP_ HYP_ HYP_) ok_116 (by kernel_rfl) (by kernel_rfl) rfl VAL_) APP_ rfl ?_
    refine s_memN (m_alloc al_37 LEN_) APP_ rfl ?_
    refine s_storeR rfl rfl rfl rfl sz_37 EQ_ EQ_ SET_ ?_
    refine s_nil ?_
    have hQ4 : (macSum key ((X2 ++ info) ++ [BitVec.ofNat 8 (1 + j5)])).length = 32 := LQ_
    refine S_ ?_
    refine c_region ?_
    refine s_val (v_slA1 (l := 0) (h := 32) (len := 32) (cp := 32) rfl Tryz.underlying37 sz_5 rfl rfl rfl (by omega) (by omega) FIT_ rfl rfl) rfl ?_
    refine s_val (v_assignC rfl) rfl ?_
    refine s_nil ?_
    refine S_ ?_
    refine c_region ?_
    refine s_val (v_moveC rfl) rfl ?_
    refine s_val (v_moveC rfl) rfl ?_
    refine s_app8 rfl rfl rfl rfl Tryz.underlying23 Tryz.underlying23 el_5 EQL_ EQL_ (by omega) LEN_ KILL_ rfl ?_
    refine s_val (v_assignC rfl) rfl ?_
    refine s_nil ?_
    refine S_ ?_
    refine c_region ?_
    refine s_val (v_moveC rfl) rfl ?_
    refine s_val (v_addN (b := 1) rfl rfl (by omega)) rfl ?_
    refine s_val (v_assignC rfl) rfl ?_
    refine s_nil ?_
    exact ⟨(j5 + 1, _), by kernel_rfl, rfl⟩
  · try dsimp only
    have hY5 : (macExp_L5 key info ((n + 31) / 32)).1.length = 32 * ((n + 31) / 32) := by rw [macExp_L5_len0 key info _]; try omega
    have hY6 : (macExp_L5 key info ((n + 31) / 32)).2.length = lst ((n + 31) / 32) := by rw [macExp_L5_len1 key info _]; try omega
    have hl := lst_le ((n + 31) / 32)
    generalize macExp_L5 key info ((n + 31) / 32) = Z7 at *
    obtain ⟨Y5, Y6⟩ := Z7
    try dsimp only at *
    refine S_ ?_
    refine c_region ?_
    refine s_val (v_moveC rfl) rfl ?_
    refine s_val (v_lenS rfl Tryz.underlying23) rfl ?_
    refine s_val (v_moveC rfl) rfl ?_
    refine s_val (v_lssN rfl rfl) rfl ?_
    refine s_nil ?_
    refine S_ ?_
    refine c_region ?_
    refine s_memN (m_bs0 Tryz.underlying23 el_5) APP_ rfl ?_
    refine s_val (v_moveC rfl) rfl ?_
    refine s_val (v_moveC rfl) rfl ?_
    refine s_val (v_slS0 rfl Tryz.underlying23 sz_5 rfl (by omega)) rfl ?_
    refine s_memN (m_appE8c rfl rfl rfl Tryz.underlying23 Tryz.underlying23 el_5 LE_ (by omega) LEN_) APP_ rfl ?_
    refine s_val (v_assignC rfl) rfl ?_
    refine s_val (v_assignC rfl) rfl ?_
    refine s_nil ?_
    refine S_ ?_
    rw [hP_macExp0.out]
    exact k_2 (by first | exact r_tmpC rfl | exact r_tmpA rfl) (by first | exact r_tmpC rfl | exact r_tmpA rfl) (by first | kernel_rfl | rfl)
@[simp] theorem macExp0_len (key : List (BitVec 8)) (info : List (BitVec 8)) (n : Nat) : (macExp0 key info n).length = n := by
  unfold macExp0
  first | (simp [macExp_L5_len0, *]; done) | (simp [macExp_L5_len0, *]; omega)
attribute [irreducible] macExp0
end Go.Proofs.YtmbepikkgkcgkaaGreatDoor
namespace Go.Proofs.YtmbepikkgkcgkaaGreatDoor
open Go.RowKit
theorem sha256_evB (b : List (BitVec 8)) (hn : b.length ≤ 2199023255552) : Ev Tryz.prog (.call 38 [.c (.bs b)] []) (.val (.agg (.a8 (sha256 b))) []) :=
  Ev.partsB (m := []) (m' := [.row false (.a8 b)]) (N := []) (N' := []) [none] [0] (.no .nil) (.c (.same rfl) .nil) (.bs rfl rfl .nil) rfl rfl (sha256_evS b b.length b.length rfl hn) rfl rfl
def btN (w : List (BitVec 8)) (n : Nat) : List (BitVec 8) × Nat := (sha256 (w ++ rlNum8 n), 0)
def btHash (q : List (BitVec 8) × Nat) : List (BitVec 8) × Nat := if q.2 = 0 then (sha256 ([104#8, 97#8, 115#8, 104#8] ++ q.1), 0) else ([], q.2)
def btKdf (k : List (BitVec 8)) (n : Nat) : List (BitVec 8) × Nat := (macExp0 k ([107#8, 100#8, 102#8] ++ rlNum8 n) 32, 0)
def btSeal (k : List (BitVec 8)) (q : List (BitVec 8) × Nat) : List (BitVec 8) × Nat := if q.2 = 0 then (adSeal0 k (zer8 12) [] q.1, 0) else ([], q.2)
theorem macExp_evB (key : List (BitVec 8)) (c : Nat) (info : List (BitVec 8)) (hkey : key.length = 32) (hi : info.length ≤ 1000) : Ev Tryz.prog (.call 105 [.c (.sl 0 0 32 c 1), .c (.bs info), .c (.val (.int .i64 ((32 : Nat) : Int)))] [.row false (.a8 key)]) (.val (.tup [.c (.sl 1 0 32 32 1), .c (.val (.int .i64 ((0 : Nat) : Int)))]) [.row false (.a8 key), .row true (.a8 (macExp0 key info 32))]) :=
  Ev.partsB (m := [.row false (.a8 key)]) (m' := [.row false (.a8 key), .row false (.a8 info)]) (N := [.row true (.a8 (macExp0 key info 32))]) (N' := [.row true (.a8 (macExp0 key info 32))]) [some (0, 0), none] [1] (.all rfl rfl (.no .nil)) (.c (.sl rfl rfl) (.c (.same rfl) (.c (.same rfl) .nil))) (.same (.bs rfl rfl (.same .nil))) rfl rfl (macExp_ev key 32 c info info.length info.length 32 hkey (by decide) rfl (by omega) (by decide) (by decide)) rfl rfl
theorem seal_evB (key text : List (BitVec 8)) (hkey : key.length = 32) (ht : text.length ≤ 65536) : Ev Tryz.prog (.call 103 [.agg (.a8 key), .agg (.a8 (zer8 12)), .c .nsl, .c (.bs text)] []) (.val (.tup [.c (.sl 0 0 (text.length + 16) (text.length + 16) 1), .c (.val (.int .i64 ((0 : Nat) : Int)))]) [.row true (.a8 (adSeal0 key (zer8 12) [] text))]) :=
  Ev.partsB (m := []) (m' := [.row false (.a8 []), .row false (.a8 text)]) (N := [.row true (.a8 (adSeal0 key (zer8 12) [] text))]) (N' := [.row true (.a8 (adSeal0 key (zer8 12) [] text))]) [none, none] [1] (.no (.no .nil)) (.agg rfl (.agg rfl (.c .nil (.c (.same rfl) .nil)))) (.same (.same (.same (.bs rfl rfl .nil)))) rfl rfl (adSeal_ev key (zer8 12) [] 0 0 text text.length text.length hkey (zer8_length 12) rfl (by decide) rfl (by omega) (by decide) ht) rfl rfl
theorem jnR_len (l : List (List (BitVec 8))) : (jnR l).1.length ≤ 65536 := by
  unfold jnR
  split
  · rw [jn_len]; assumption
  · exact Nat.zero_le _
set_option maxRecDepth 100000 in
set_option maxHeartbeats 2000000 in
theorem btAtom_ev (L : List Nd) (es : List (Value × Leaf)) (N : Nat) (D : Dn) (n : Nat) (a : List Int) (hn : n ≤ 9223372036854775807) : Ev Tryz.prog (.call 45 [.c (.ptr 0 0), .agg (.ac [.val (.int .i64 1), .val (.int .i64 (n : Int)), .is a])] [.row false (.ac [.ptr 1 0, .mp 2]), .row false (.ac [.sl 3 0 N N 3, .mp 4]), .row false (.mp (dEnt D)), .row false (.an L), .row false (.mp es)]) (.val (.tup [.c (.bs (btN [97#8, 116#8, 111#8, 109#8] n).1), .c (.val (.int .i64 (((btN [97#8, 116#8, 111#8, 109#8] n).2 : Nat) : Int)))]) [.row false (.ac [.ptr 1 0, .mp 2]), .row false (.ac [.sl 3 0 N N 3, .mp 4]), .row false (.mp (dEnt D)), .row false (.an L), .row false (.mp es)]) := by
  have h8 : (rlNum8 n).length = 8 := rlNum8_len n
  have hs : (sha256 ([97#8, 116#8, 111#8, 109#8] ++ rlNum8 n)).length = 32 := sha256_len _
  unfold btN
  dsimp only
  refine c_call Tryz.func45 rfl Tryz.ntmps45 rfl LEN_ ?_
  refine S_ ?_
  refine c_region ?_
  refine s_memN (m_box BX_ LEN_) APP_ rfl ?_
  refine s_val (v_assignC rfl) rfl ?_
  refine s_val (v_assignC rfl) rfl ?_
  refine s_nil ?_
  refine S_ ?_
  refine c_region ?_
  refine s_val (v_fieldP rfl (fa_58_0 _ _)) rfl ?_
  first
    | refine s_val (v_loadN rfl rfl row_3 LT_) rfl ?_
    | refine s_val (v_loadI rfl rfl row_3 LT_) rfl ?_
    | refine s_val (v_loadZ rfl row_3 LT_) rfl ?_
    | refine s_val (v_ndK rfl rfl rfl row_3 LT_) rfl ?_
    | refine s_val (v_load rfl rfl row_3 LT_ rfl) rfl ?_
  refine s_nil ?_
  refine S_ ?_
  refine c_region ?_
  first
    | refine s_val (v_eqlN (b := 1) rfl rfl) rfl ?_
    | refine s_val (v_eqlD rfl rfl) rfl ?_
  first
    | refine s_val (v_assignC rfl) rfl ?_
    | refine s_val (v_assignA rfl) rfl ?_
    | refine s_val (v_assignT rfl) rfl ?_
  refine s_nil ?_
  refine S_ ?_
  refine c_region ?_
  refine s_ev (o_lit (l := [97#8, 116#8, 111#8, 109#8]) Tryz.underlying23 el_5 rfl rfl (by decide) (by decide) LEN_) rfl ?_
  refine s_ev (o_markL rfl Tryz.underlying23 Tryz.underlying5 rfl rfl KILL_) rfl ?_
  refine s_val (v_fieldP rfl (fa_58_1 _ _)) rfl ?_
  first
    | refine s_val (v_loadN rfl rfl row_3 LT_) rfl ?_
    | refine s_val (v_loadI rfl rfl row_3 LT_) rfl ?_
    | refine s_val (v_loadZ rfl row_3 LT_) rfl ?_
    | refine s_val (v_ndK rfl rfl rfl row_3 LT_) rfl ?_
    | refine s_val (v_load rfl rfl row_3 LT_ rfl) rfl ?_
  refine s_evN (e_callR (rlNum8_ev n hn) ok_35 rfl rfl rfl VAL_) APP_ rfl ?_
  refine s_ev (o_appL8 rfl rfl rfl h8 Tryz.underlying23 Tryz.underlying23 el_5 (by decide)) rfl ?_
  refine s_evN (e_callR (sha256_evB ([97#8, 116#8, 111#8, 109#8] ++ rlNum8 n) (by simp [h8])) ok_38 rfl rfl rfl VAL_) APP_ rfl ?_
  refine s_memN (m_alloc al_37 LEN_) APP_ rfl ?_
  refine s_storeR rfl rfl rfl rfl sz_37 EQ_ EQ_ SET_ ?_
  refine s_nil ?_
  refine S_ ?_
  refine c_region ?_
  first
    | refine s_val (v_slA1 (l := 0) (h := 32) (len := 32) (cp := 32) rfl Tryz.underlying37 sz_5 rfl rfl rfl (by omega) (by omega) FIT_ rfl rfl) rfl ?_
    | refine s_val (v_slA (l := 0) (h := 32) rfl Tryz.underlying37 sz_5 rfl rfl rfl (by omega) (by omega) FIT_) rfl ?_
  first
    | refine s_val (v_assignC rfl) rfl ?_
    | refine s_val (v_assignA rfl) rfl ?_
    | refine s_val (v_assignT rfl) rfl ?_
  refine s_val (v_assignC rfl) rfl ?_
  refine s_nil ?_
  refine Q_ ?_
  refine c_hide8 4 rfl rfl hs KILL_ ?_
  refine S_ ?_
  exact k_2 (by first | exact r_tmpC rfl | exact r_tmpA rfl) (by first | exact r_tmpC rfl | exact r_tmpA rfl) (by first | kernel_rfl | rfl)
set_option maxRecDepth 100000 in
set_option maxHeartbeats 2000000 in
theorem btWord_ev (L : List Nd) (es : List (Value × Leaf)) (N : Nat) (D : Dn) (n : Nat) (a : List Int) (hn : n ≤ 9223372036854775807) : Ev Tryz.prog (.call 45 [.c (.ptr 0 0), .agg (.ac [.val (.int .i64 2), .val (.int .i64 (n : Int)), .is a])] [.row false (.ac [.ptr 1 0, .mp 2]), .row false (.ac [.sl 3 0 N N 3, .mp 4]), .row false (.mp (dEnt D)), .row false (.an L), .row false (.mp es)]) (.val (.tup [.c (.bs (btN [119#8, 111#8, 114#8, 100#8] n).1), .c (.val (.int .i64 (((btN [119#8, 111#8, 114#8, 100#8] n).2 : Nat) : Int)))]) [.row false (.ac [.ptr 1 0, .mp 2]), .row false (.ac [.sl 3 0 N N 3, .mp 4]), .row false (.mp (dEnt D)), .row false (.an L), .row false (.mp es)]) := by
  have h8 : (rlNum8 n).length = 8 := rlNum8_len n
  have hs : (sha256 ([119#8, 111#8, 114#8, 100#8] ++ rlNum8 n)).length = 32 := sha256_len _
  unfold btN
  dsimp only
  refine c_call Tryz.func45 rfl Tryz.ntmps45 rfl LEN_ ?_
  refine S_ ?_
  refine c_region ?_
  refine s_memN (m_box BX_ LEN_) APP_ rfl ?_
  refine s_val (v_assignC rfl) rfl ?_
  refine s_val (v_assignC rfl) rfl ?_
  refine s_nil ?_
  refine S_ ?_
  refine c_region ?_
  refine s_val (v_fieldP rfl (fa_58_0 _ _)) rfl ?_
  first
    | refine s_val (v_loadN rfl rfl row_3 LT_) rfl ?_
    | refine s_val (v_loadI rfl rfl row_3 LT_) rfl ?_
    | refine s_val (v_loadZ rfl row_3 LT_) rfl ?_
    | refine s_val (v_ndK rfl rfl rfl row_3 LT_) rfl ?_
    | refine s_val (v_load rfl rfl row_3 LT_ rfl) rfl ?_
  refine s_nil ?_
  refine S_ ?_
  refine c_region ?_
  first
    | refine s_val (v_eqlN (b := 1) rfl rfl) rfl ?_
    | refine s_val (v_eqlD rfl rfl) rfl ?_
  first
    | refine s_val (v_assignC rfl) rfl ?_
    | refine s_val (v_assignA rfl) rfl ?_
    | refine s_val (v_assignT rfl) rfl ?_
  refine s_nil ?_
  refine S_ ?_
  refine c_region ?_
  first
    | refine s_val (v_eqlN (b := 2) rfl rfl) rfl ?_
    | refine s_val (v_eqlD rfl rfl) rfl ?_
  first
    | refine s_val (v_assignC rfl) rfl ?_
    | refine s_val (v_assignA rfl) rfl ?_
    | refine s_val (v_assignT rfl) rfl ?_
  refine s_nil ?_
  refine S_ ?_
  refine c_region ?_
  refine s_ev (o_lit (l := [119#8, 111#8, 114#8, 100#8]) Tryz.underlying23 el_5 rfl rfl (by decide) (by decide) LEN_) rfl ?_
  refine s_ev (o_markL rfl Tryz.underlying23 Tryz.underlying5 rfl rfl KILL_) rfl ?_
  refine s_val (v_fieldP rfl (fa_58_1 _ _)) rfl ?_
  first
    | refine s_val (v_loadN rfl rfl row_3 LT_) rfl ?_
    | refine s_val (v_loadI rfl rfl row_3 LT_) rfl ?_
    | refine s_val (v_loadZ rfl row_3 LT_) rfl ?_
    | refine s_val (v_ndK rfl rfl rfl row_3 LT_) rfl ?_
    | refine s_val (v_load rfl rfl row_3 LT_ rfl) rfl ?_
  refine s_evN (e_callR (rlNum8_ev n hn) ok_35 rfl rfl rfl VAL_) APP_ rfl ?_
  refine s_ev (o_appL8 rfl rfl rfl h8 Tryz.underlying23 Tryz.underlying23 el_5 (by decide)) rfl ?_
  refine s_evN (e_callR (sha256_evB ([119#8, 111#8, 114#8, 100#8] ++ rlNum8 n) (by simp [h8])) ok_38 rfl rfl rfl VAL_) APP_ rfl ?_
  refine s_memN (m_alloc al_37 LEN_) APP_ rfl ?_
  refine s_storeR rfl rfl rfl rfl sz_37 EQ_ EQ_ SET_ ?_
  refine s_nil ?_
  refine S_ ?_
  refine c_region ?_
  first
    | refine s_val (v_slA1 (l := 0) (h := 32) (len := 32) (cp := 32) rfl Tryz.underlying37 sz_5 rfl rfl rfl (by omega) (by omega) FIT_ rfl rfl) rfl ?_
    | refine s_val (v_slA (l := 0) (h := 32) rfl Tryz.underlying37 sz_5 rfl rfl rfl (by omega) (by omega) FIT_) rfl ?_
  first
    | refine s_val (v_assignC rfl) rfl ?_
    | refine s_val (v_assignA rfl) rfl ?_
    | refine s_val (v_assignT rfl) rfl ?_
  refine s_val (v_assignC rfl) rfl ?_
  refine s_nil ?_
  refine Q_ ?_
  refine c_hide8 4 rfl rfl hs KILL_ ?_
  refine S_ ?_
  exact k_2 (by first | exact r_tmpC rfl | exact r_tmpA rfl) (by first | exact r_tmpC rfl | exact r_tmpA rfl) (by first | kernel_rfl | rfl)
set_option maxRecDepth 100000 in
set_option maxHeartbeats 2000000 in
theorem btHash_ev (L : List Nd) (es : List (Value × Leaf)) (N : Nat) (D : Dn) (n : Int) (a : List Int) (hD : DOk D) (ha : ∀ x ∈ a, dhas D x) (hlen : a.length ≤ 400) : Ev Tryz.prog (.call 45 [.c (.ptr 0 0), .agg (.ac [.val (.int .i64 3), .val (.int .i64 n), .is a])] [.row false (.ac [.ptr 1 0, .mp 2]), .row false (.ac [.sl 3 0 N N 3, .mp 4]), .row false (.mp (dEnt D)), .row false (.an L), .row false (.mp es)]) (.val (.tup [.c (.bs (btHash (jnR (a.map (dget D)))).1), .c (.val (.int .i64 (((btHash (jnR (a.map (dget D)))).2 : Nat) : Int)))]) [.row false (.ac [.ptr 1 0, .mp 2]), .row false (.ac [.sl 3 0 N N 3, .mp 4]), .row false (.mp (dEnt D)), .row false (.an L), .row false (.mp es)]) := by
  have hJ := join_ev L es N D (a) hD ha hlen
  have hq1 := jnR_len ((a).map (dget D))
  generalize jnR ((a).map (dget D)) = q at *
  obtain ⟨j, e⟩ := q
  dsimp only at hJ hq1 ⊢
  refine c_call Tryz.func45 rfl Tryz.ntmps45 rfl LEN_ ?_
  refine S_ ?_
  refine c_region ?_
  refine s_memN (m_box BX_ LEN_) APP_ rfl ?_
  refine s_val (v_assignC rfl) rfl ?_
  refine s_val (v_assignC rfl) rfl ?_
  refine s_nil ?_
  refine S_ ?_
  refine c_region ?_
  refine s_val (v_fieldP rfl (fa_58_0 _ _)) rfl ?_
  first
    | refine s_val (v_loadN rfl rfl row_3 LT_) rfl ?_
    | refine s_val (v_loadI rfl rfl row_3 LT_) rfl ?_
    | refine s_val (v_loadZ rfl row_3 LT_) rfl ?_
    | refine s_val (v_ndK rfl rfl rfl row_3 LT_) rfl ?_
    | refine s_val (v_load rfl rfl row_3 LT_ rfl) rfl ?_
  refine s_nil ?_
  refine S_ ?_
  refine c_region ?_
  first
    | refine s_val (v_eqlN (b := 1) rfl rfl) rfl ?_
    | refine s_val (v_eqlD rfl rfl) rfl ?_
  first
    | refine s_val (v_assignC rfl) rfl ?_
    | refine s_val (v_assignA rfl) rfl ?_
    | refine s_val (v_assignT rfl) rfl ?_
  refine s_nil ?_
  refine S_ ?_
  refine c_region ?_
  first
    | refine s_val (v_eqlN (b := 2) rfl rfl) rfl ?_
    | refine s_val (v_eqlD rfl rfl) rfl ?_
  first
    | refine s_val (v_assignC rfl) rfl ?_
    | refine s_val (v_assignA rfl) rfl ?_
    | refine s_val (v_assignT rfl) rfl ?_
  refine s_nil ?_
  refine S_ ?_
  refine c_region ?_
  first
    | refine s_val (v_eqlN (b := 3) rfl rfl) rfl ?_
    | refine s_val (v_eqlD rfl rfl) rfl ?_
  first
    | refine s_val (v_assignC rfl) rfl ?_
    | refine s_val (v_assignA rfl) rfl ?_
    | refine s_val (v_assignT rfl) rfl ?_
  refine s_nil ?_
  refine S_ ?_
  refine c_region ?_
  first
    | refine s_val (v_moveC rfl) rfl ?_
    | refine s_val (v_moveA rfl) rfl ?_
    | refine s_val (v_moveT rfl) rfl ?_
  refine s_val (v_fieldP rfl (fa_58_2 _ _)) rfl ?_
  first
    | refine s_val (v_ndA rfl rfl rfl row_41 LT_) rfl ?_
    | refine s_val (v_load rfl rfl row_41 LT_ rfl) rfl ?_
  refine s_evN (e_callR (bs := [0,1,2,3,4]) (hJ) ok_69 (by kernel_rfl) (by kernel_rfl) rfl VAL_) APP_ rfl ?_
  first
    | refine s_val (v_moveC rfl) rfl ?_
    | refine s_val (v_moveA rfl) rfl ?_
    | refine s_val (v_moveT rfl) rfl ?_
  refine s_val (v_extract rfl rfl) rfl ?_
  refine s_val (v_extract rfl rfl) rfl ?_
  first
    | refine s_val (v_assignC rfl) rfl ?_
    | refine s_val (v_assignA rfl) rfl ?_
    | refine s_val (v_assignT rfl) rfl ?_
  first
    | refine s_val (v_assignC rfl) rfl ?_
    | refine s_val (v_assignA rfl) rfl ?_
    | refine s_val (v_assignT rfl) rfl ?_
  refine s_nil ?_
  by_cases he : e = 0
  · subst he
    have hs : (sha256 ([104#8, 97#8, 115#8, 104#8] ++ j)).length = 32 := sha256_len _
    rw [show btHash (j, 0) = (sha256 ([104#8, 97#8, 115#8, 104#8] ++ j), 0) from rfl]
    dsimp only
    refine S_ ?_
    refine c_region ?_
    first
      | refine s_val (v_moveC rfl) rfl ?_
      | refine s_val (v_moveA rfl) rfl ?_
      | refine s_val (v_moveT rfl) rfl ?_
    first
      | refine s_val (v_neqN (b := 0) rfl rfl) rfl ?_
      | refine s_val (v_neqD rfl rfl) rfl ?_
    refine s_nil ?_
    refine S_ ?_
    refine c_region ?_
    refine s_ev (o_lit (l := [104#8, 97#8, 115#8, 104#8]) Tryz.underlying23 el_5 rfl rfl (by decide) (by decide) LEN_) rfl ?_
    refine s_ev (o_markL rfl Tryz.underlying23 Tryz.underlying5 rfl rfl KILL_) rfl ?_
    first
      | refine s_val (v_moveC rfl) rfl ?_
      | refine s_val (v_moveA rfl) rfl ?_
      | refine s_val (v_moveT rfl) rfl ?_
    refine s_ev (o_appLB rfl rfl Tryz.underlying23 Tryz.underlying23 el_5 (by simp; omega)) rfl ?_
    refine s_evN (e_callR (sha256_evB ([104#8, 97#8, 115#8, 104#8] ++ j) (by simp; omega)) ok_38 rfl rfl rfl VAL_) APP_ rfl ?_
    refine s_memN (m_alloc al_37 LEN_) APP_ rfl ?_
    refine s_storeR rfl rfl rfl rfl sz_37 EQ_ EQ_ SET_ ?_
    refine s_nil ?_
    refine S_ ?_
    refine c_region ?_
    first
      | refine s_val (v_slA1 (l := 0) (h := 32) (len := 32) (cp := 32) rfl Tryz.underlying37 sz_5 rfl rfl rfl (by omega) (by omega) FIT_ rfl rfl) rfl ?_
      | refine s_val (v_slA (l := 0) (h := 32) rfl Tryz.underlying37 sz_5 rfl rfl rfl (by omega) (by omega) FIT_) rfl ?_
    first
      | refine s_val (v_assignC rfl) rfl ?_
      | refine s_val (v_assignA rfl) rfl ?_
      | refine s_val (v_assignT rfl) rfl ?_
    refine s_val (v_assignC rfl) rfl ?_
    refine s_nil ?_
    refine Q_ ?_
    refine c_hide8 4 rfl rfl hs KILL_ ?_
    refine S_ ?_
    exact k_2 (by first | exact r_tmpC rfl | exact r_tmpA rfl) (by first | exact r_tmpC rfl | exact r_tmpA rfl) (by first | kernel_rfl | rfl)
  · rw [show btHash (j, e) = ([], e) by unfold btHash; rw [if_neg he]]
    dsimp only
    refine S_ ?_
    refine c_region ?_
    first
      | refine s_val (v_moveC rfl) rfl ?_
      | refine s_val (v_moveA rfl) rfl ?_
      | refine s_val (v_moveT rfl) rfl ?_
    first
      | refine s_val (v_neqN (b := 0) rfl rfl) rfl ?_
      | refine s_val (v_neqD rfl rfl) rfl ?_
    refine s_nil ?_
    refine S_ ?_
    refine c_region ?_
    first
      | refine s_val (v_moveC rfl) rfl ?_
      | refine s_val (v_moveA rfl) rfl ?_
      | refine s_val (v_moveT rfl) rfl ?_
    refine s_val (v_assignC rfl) rfl ?_
    first
      | refine s_val (v_assignC rfl) rfl ?_
      | refine s_val (v_assignA rfl) rfl ?_
      | refine s_val (v_assignT rfl) rfl ?_
    refine s_nil ?_
    refine Q_ ?_
    refine c_nilB 4 rfl ?_
    refine S_ ?_
    exact k_2 (by first | exact r_tmpC rfl | exact r_tmpA rfl) (by first | exact r_tmpC rfl | exact r_tmpA rfl) (by first | kernel_rfl | rfl)
set_option maxRecDepth 100000 in
set_option maxHeartbeats 2000000 in
theorem btList_ev (L : List Nd) (es : List (Value × Leaf)) (N : Nat) (D : Dn) (n : Int) (a : List Int) (hD : DOk D) (ha : ∀ x ∈ a, dhas D x) (hlen : a.length ≤ 400) : Ev Tryz.prog (.call 45 [.c (.ptr 0 0), .agg (.ac [.val (.int .i64 9), .val (.int .i64 n), .is a])] [.row false (.ac [.ptr 1 0, .mp 2]), .row false (.ac [.sl 3 0 N N 3, .mp 4]), .row false (.mp (dEnt D)), .row false (.an L), .row false (.mp es)]) (.val (.tup [.c (.bs (jnR (a.map (dget D))).1), .c (.val (.int .i64 (((jnR (a.map (dget D))).2 : Nat) : Int)))]) [.row false (.ac [.ptr 1 0, .mp 2]), .row false (.ac [.sl 3 0 N N 3, .mp 4]), .row false (.mp (dEnt D)), .row false (.an L), .row false (.mp es)]) := by
  have hJ := join_ev L es N D (a) hD ha hlen
  have hq1 := jnR_len ((a).map (dget D))
  generalize jnR ((a).map (dget D)) = q at *
  obtain ⟨j, e⟩ := q
  dsimp only at hJ hq1 ⊢
  refine c_call Tryz.func45 rfl Tryz.ntmps45 rfl LEN_ ?_
  refine S_ ?_
  refine c_region ?_
  refine s_memN (m_box BX_ LEN_) APP_ rfl ?_
  refine s_val (v_assignC rfl) rfl ?_
  refine s_val (v_assignC rfl) rfl ?_
  refine s_nil ?_
  refine S_ ?_
  refine c_region ?_
  refine s_val (v_fieldP rfl (fa_58_0 _ _)) rfl ?_
  first
    | refine s_val (v_loadN rfl rfl row_3 LT_) rfl ?_
    | refine s_val (v_loadI rfl rfl row_3 LT_) rfl ?_
    | refine s_val (v_loadZ rfl row_3 LT_) rfl ?_
    | refine s_val (v_ndK rfl rfl rfl row_3 LT_) rfl ?_
    | refine s_val (v_load rfl rfl row_3 LT_ rfl) rfl ?_
  refine s_nil ?_
  refine S_ ?_
  refine c_region ?_
  first
    | refine s_val (v_eqlN (b := 1) rfl rfl) rfl ?_
    | refine s_val (v_eqlD rfl rfl) rfl ?_
  first
    | refine s_val (v_assignC rfl) rfl ?_
    | refine s_val (v_assignA rfl) rfl ?_
    | refine s_val (v_assignT rfl) rfl ?_
  refine s_nil ?_
  refine S_ ?_
  refine c_region ?_
  first
    | refine s_val (v_eqlN (b := 2) rfl rfl) rfl ?_
    | refine s_val (v_eqlD rfl rfl) rfl ?_
  first
    | refine s_val (v_assignC rfl) rfl ?_
    | refine s_val (v_assignA rfl) rfl ?_
    | refine s_val (v_assignT rfl) rfl ?_
  refine s_nil ?_
  refine S_ ?_
  refine c_region ?_
  first
    | refine s_val (v_eqlN (b := 3) rfl rfl) rfl ?_
    | refine s_val (v_eqlD rfl rfl) rfl ?_
  first
    | refine s_val (v_assignC rfl) rfl ?_
    | refine s_val (v_assignA rfl) rfl ?_
    | refine s_val (v_assignT rfl) rfl ?_
  refine s_nil ?_
  refine S_ ?_
  refine c_region ?_
  first
    | refine s_val (v_eqlN (b := 9) rfl rfl) rfl ?_
    | refine s_val (v_eqlD rfl rfl) rfl ?_
  first
    | refine s_val (v_assignC rfl) rfl ?_
    | refine s_val (v_assignA rfl) rfl ?_
    | refine s_val (v_assignT rfl) rfl ?_
  refine s_nil ?_
  refine S_ ?_
  refine c_region ?_
  first
    | refine s_val (v_moveC rfl) rfl ?_
    | refine s_val (v_moveA rfl) rfl ?_
    | refine s_val (v_moveT rfl) rfl ?_
  refine s_val (v_fieldP rfl (fa_58_2 _ _)) rfl ?_
  first
    | refine s_val (v_ndA rfl rfl rfl row_41 LT_) rfl ?_
    | refine s_val (v_load rfl rfl row_41 LT_ rfl) rfl ?_
  refine s_evN (e_callR (bs := [0,1,2,3,4]) (hJ) ok_69 (by kernel_rfl) (by kernel_rfl) rfl VAL_) APP_ rfl ?_
  refine s_val (v_extract rfl rfl) rfl ?_
  refine s_val (v_extract rfl rfl) rfl ?_
  first
    | refine s_val (v_assignC rfl) rfl ?_
    | refine s_val (v_assignA rfl) rfl ?_
    | refine s_val (v_assignT rfl) rfl ?_
  first
    | refine s_val (v_assignC rfl) rfl ?_
    | refine s_val (v_assignA rfl) rfl ?_
    | refine s_val (v_assignT rfl) rfl ?_
  refine s_nil ?_
  refine S_ ?_
  exact k_2 (by first | exact r_tmpC rfl | exact r_tmpA rfl) (by first | exact r_tmpC rfl | exact r_tmpA rfl) (by first | kernel_rfl | rfl)
set_option maxRecDepth 100000 in
set_option maxHeartbeats 2000000 in
theorem kyKdf_ev (L : List Nd) (es : List (Value × Leaf)) (N : Nat) (D : Dn) (n : Nat) (a : List Int) (hn : n ≤ 9223372036854775807) (key : List (BitVec 8)) (hkey : key.length = 32) : Ev Tryz.prog (.call 71 [.c (.ptr 0 0), .agg (.ac [.val (.int .i64 4), .val (.int .i64 (n : Int)), .is a]), .agg (.a8 key)] [.row false (.ac [.ptr 1 0, .mp 2]), .row false (.ac [.sl 3 0 N N 3, .mp 4]), .row false (.mp (dEnt D)), .row false (.an L), .row false (.mp es)]) (.val (.tup [.c (.bs (btKdf key n).1), .c (.val (.int .i64 (((btKdf key n).2 : Nat) : Int)))]) [.row false (.ac [.ptr 1 0, .mp 2]), .row false (.ac [.sl 3 0 N N 3, .mp 4]), .row false (.mp (dEnt D)), .row false (.an L), .row false (.mp es)]) := by
  have h8 : (rlNum8 n).length = 8 := rlNum8_len n
  have hs : (macExp0 key ([107#8, 100#8, 102#8] ++ rlNum8 n) 32).length = 32 := macExp0_len _ _ _
  unfold btKdf
  dsimp only
  refine c_call Tryz.func71 rfl Tryz.ntmps71 rfl LEN_ ?_
  refine S_ ?_
  refine c_region ?_
  refine s_memN (m_box BX_ LEN_) APP_ rfl ?_
  refine s_memN (m_box BX_ LEN_) APP_ rfl ?_
  refine s_val (v_assignC rfl) rfl ?_
  refine s_val (v_assignC rfl) rfl ?_
  refine s_nil ?_
  refine S_ ?_
  refine c_region ?_
  refine s_val (v_fieldP rfl (fa_58_0 _ _)) rfl ?_
  first
    | refine s_val (v_loadN rfl rfl row_3 LT_) rfl ?_
    | refine s_val (v_loadI rfl rfl row_3 LT_) rfl ?_
    | refine s_val (v_loadZ rfl row_3 LT_) rfl ?_
    | refine s_val (v_ndK rfl rfl rfl row_3 LT_) rfl ?_
    | refine s_val (v_load rfl rfl row_3 LT_ rfl) rfl ?_
  refine s_nil ?_
  refine S_ ?_
  refine c_region ?_
  first
    | refine s_val (v_eqlN (b := 4) rfl rfl) rfl ?_
    | refine s_val (v_eqlD rfl rfl) rfl ?_
  first
    | refine s_val (v_assignC rfl) rfl ?_
    | refine s_val (v_assignA rfl) rfl ?_
    | refine s_val (v_assignT rfl) rfl ?_
  refine s_nil ?_
  refine S_ ?_
  refine c_chain [(1, []), (2, []), (7, [])] [] 3 mixed (by kernel_rfl) (by kernel_rfl) ?_
  first
    | refine y_val (v_slA1 (l := 0) (h := 32) (len := 32) (cp := 32) rfl Tryz.underlying37 sz_5 rfl rfl rfl (by omega) (by omega) FIT_ rfl rfl) rfl ?_
    | refine y_val (v_slA (l := 0) (h := 32) rfl Tryz.underlying37 sz_5 rfl rfl rfl (by omega) (by omega) FIT_) rfl ?_
  refine y_chain (o_lit (l := [107#8, 100#8, 102#8]) Tryz.underlying23 el_5 rfl rfl (by decide) (by decide) LEN_) rfl AG_ ?_
  refine y_chain (o_markL rfl Tryz.underlying23 Tryz.underlying5 rfl rfl KILL_) rfl AG_ ?_
  refine y_val (v_fieldP rfl (fa_58_1 _ _)) rfl ?_
  first
    | refine y_val (v_loadN rfl rfl row_3 LT_) rfl ?_
    | refine y_val (v_loadI rfl rfl row_3 LT_) rfl ?_
    | refine y_val (v_loadZ rfl row_3 LT_) rfl ?_
    | refine y_val (v_ndK rfl rfl rfl row_3 LT_) rfl ?_
    | refine y_val (v_load rfl rfl row_3 LT_ rfl) rfl ?_
  refine y_ev (o_quiet8 (e_callR (rlNum8_ev n hn) ok_35 rfl rfl rfl VAL_) LEN_ LQ_ rfl) (fun _ => rfl) rfl ?_
  refine y_ev (o_appLB rfl rfl Tryz.underlying23 Tryz.underlying23 el_5 (by simp [h8])) (fun _ => rfl) rfl ?_
  refine y_chain (e_callR (macExp_evB key 32 ([107#8, 100#8, 102#8] ++ rlNum8 n) hkey (by simp [h8])) ok_105 rfl rfl rfl VAL_) rfl AG_ ?_
  refine y_val (v_extract rfl rfl) rfl ?_
  refine y_val (v_extract rfl rfl) rfl ?_
  first
    | refine y_val (v_assignC rfl) rfl ?_
    | refine y_val (v_assignA rfl) rfl ?_
    | refine y_val (v_assignT rfl) rfl ?_
  first
    | refine y_val (v_assignC rfl) rfl ?_
    | refine y_val (v_assignA rfl) rfl ?_
    | refine y_val (v_assignT rfl) rfl ?_
  refine y_nil ?_
  refine Q_ ?_
  refine c_hide8 6 rfl rfl hs KILL_ ?_
  refine S_ ?_
  exact k_2 (by first | exact r_tmpC rfl | exact r_tmpA rfl) (by first | exact r_tmpC rfl | exact r_tmpA rfl) (by first | kernel_rfl | rfl)
set_option maxRecDepth 100000 in
set_option maxHeartbeats 2000000 in
theorem kySeal_ev (L : List Nd) (es : List (Value × Leaf)) (N : Nat) (D : Dn) (n : Int) (a : List Int) (hD : DOk D) (ha : ∀ x ∈ a, dhas D x) (hlen : a.length ≤ 400) (h1 : 1 ≤ a.length) (key : List (BitVec 8)) (hkey : key.length = 32) : Ev Tryz.prog (.call 71 [.c (.ptr 0 0), .agg (.ac [.val (.int .i64 6), .val (.int .i64 n), .is a]), .agg (.a8 key)] [.row false (.ac [.ptr 1 0, .mp 2]), .row false (.ac [.sl 3 0 N N 3, .mp 4]), .row false (.mp (dEnt D)), .row false (.an L), .row false (.mp es)]) (.val (.tup [.c (.bs (btSeal key (jnR ((a.drop 1).map (dget D)))).1), .c (.val (.int .i64 (((btSeal key (jnR ((a.drop 1).map (dget D)))).2 : Nat) : Int)))]) [.row false (.ac [.ptr 1 0, .mp 2]), .row false (.ac [.sl 3 0 N N 3, .mp 4]), .row false (.mp (dEnt D)), .row false (.an L), .row false (.mp es)]) := by
  have hJ := join_ev L es N D (a.drop 1) hD (fun x hx => ha x (List.mem_of_mem_drop hx)) (by rw [List.length_drop]; omega)
  have hq1 := jnR_len ((a.drop 1).map (dget D))
  generalize jnR ((a.drop 1).map (dget D)) = q at *
  obtain ⟨j, e⟩ := q
  dsimp only at hJ hq1 ⊢
  refine c_call Tryz.func71 rfl Tryz.ntmps71 rfl LEN_ ?_
  refine S_ ?_
  refine c_region ?_
  refine s_memN (m_box BX_ LEN_) APP_ rfl ?_
  refine s_memN (m_box BX_ LEN_) APP_ rfl ?_
  refine s_val (v_assignC rfl) rfl ?_
  refine s_val (v_assignC rfl) rfl ?_
  refine s_nil ?_
  refine S_ ?_
  refine c_region ?_
  refine s_val (v_fieldP rfl (fa_58_0 _ _)) rfl ?_
  first
    | refine s_val (v_loadN rfl rfl row_3 LT_) rfl ?_
    | refine s_val (v_loadI rfl rfl row_3 LT_) rfl ?_
    | refine s_val (v_loadZ rfl row_3 LT_) rfl ?_
    | refine s_val (v_ndK rfl rfl rfl row_3 LT_) rfl ?_
    | refine s_val (v_load rfl rfl row_3 LT_ rfl) rfl ?_
  refine s_nil ?_
  refine S_ ?_
  refine c_region ?_
  first
    | refine s_val (v_eqlN (b := 4) rfl rfl) rfl ?_
    | refine s_val (v_eqlD rfl rfl) rfl ?_
  first
    | refine s_val (v_assignC rfl) rfl ?_
    | refine s_val (v_assignA rfl) rfl ?_
    | refine s_val (v_assignT rfl) rfl ?_
  refine s_nil ?_
  refine S_ ?_
  refine c_region ?_
  first
    | refine s_val (v_eqlN (b := 5) rfl rfl) rfl ?_
    | refine s_val (v_eqlD rfl rfl) rfl ?_
  first
    | refine s_val (v_assignC rfl) rfl ?_
    | refine s_val (v_assignA rfl) rfl ?_
    | refine s_val (v_assignT rfl) rfl ?_
  refine s_nil ?_
  refine S_ ?_
  refine c_region ?_
  first
    | refine s_val (v_moveC rfl) rfl ?_
    | refine s_val (v_moveA rfl) rfl ?_
    | refine s_val (v_moveT rfl) rfl ?_
  refine s_val (v_fieldP rfl (fa_58_2 _ _)) rfl ?_
  first
    | refine s_val (v_ndA rfl rfl rfl row_41 LT_) rfl ?_
    | refine s_val (v_load rfl rfl row_41 LT_ rfl) rfl ?_
  refine s_ev (Ev.val (v_slZd (l := 1) rfl rfl Tryz.underlying41 sz_3 h1)) rfl ?_
  refine s_evN (e_callR (bs := [0,1,2,3,4]) (hJ) ok_69 (by kernel_rfl) (by kernel_rfl) rfl VAL_) APP_ rfl ?_
  first
    | refine s_val (v_moveC rfl) rfl ?_
    | refine s_val (v_moveA rfl) rfl ?_
    | refine s_val (v_moveT rfl) rfl ?_
  refine s_val (v_extract rfl rfl) rfl ?_
  refine s_val (v_extract rfl rfl) rfl ?_
  first
    | refine s_val (v_assignC rfl) rfl ?_
    | refine s_val (v_assignA rfl) rfl ?_
    | refine s_val (v_assignT rfl) rfl ?_
  first
    | refine s_val (v_assignC rfl) rfl ?_
    | refine s_val (v_assignA rfl) rfl ?_
    | refine s_val (v_assignT rfl) rfl ?_
  refine s_nil ?_
  by_cases he : e = 0
  · subst he
    have hs : (adSeal0 key (zer8 12) [] j).length = j.length + 16 := adSeal0_len _ _ _ _ hkey (zer8_length 12)
    rw [show btSeal key (j, 0) = (adSeal0 key (zer8 12) [] j, 0) from rfl]
    dsimp only
    refine S_ ?_
    refine c_region ?_
    first
      | refine s_val (v_moveC rfl) rfl ?_
      | refine s_val (v_moveA rfl) rfl ?_
      | refine s_val (v_moveT rfl) rfl ?_
    first
      | refine s_val (v_neqN (b := 0) rfl rfl) rfl ?_
      | refine s_val (v_neqD rfl rfl) rfl ?_
    refine s_nil ?_
    refine S_ ?_
    refine c_region ?_
    refine s_val (v_fieldP rfl (fa_58_0 _ _)) rfl ?_
    first
      | refine s_val (v_loadN rfl rfl row_3 LT_) rfl ?_
      | refine s_val (v_loadI rfl rfl row_3 LT_) rfl ?_
      | refine s_val (v_loadZ rfl row_3 LT_) rfl ?_
      | refine s_val (v_ndK rfl rfl rfl row_3 LT_) rfl ?_
      | refine s_val (v_load rfl rfl row_3 LT_ rfl) rfl ?_
    first
      | refine s_val (v_eqlN (b := 6) rfl rfl) rfl ?_
      | refine s_val (v_eqlD rfl rfl) rfl ?_
    refine s_nil ?_
    refine S_ ?_
    refine c_region ?_
    first
      | refine s_val (v_loadR rfl rfl row_37 sz_37 EQ_ (by decide)) rfl ?_
      | refine s_val (v_loadW8 rfl rfl row_37 sz_37 LE_ (by decide)) rfl ?_
      | refine s_val (v_loadW64 rfl rfl row_37 sz_37 LE_ (by decide)) rfl ?_
    refine s_val (v_blf8 (l := (zer8 12)) za_98 Tryz.underlying98 sz_5 rfl rfl) rfl ?_
    first
      | refine s_val (v_moveC rfl) rfl ?_
      | refine s_val (v_moveA rfl) rfl ?_
      | refine s_val (v_moveT rfl) rfl ?_
    refine s_evN (e_callR (seal_evB key j hkey hq1) ok_103 rfl rfl rfl VAL_) APP_ rfl ?_
    refine s_val (v_extract rfl rfl) rfl ?_
    refine s_val (v_extract rfl rfl) rfl ?_
    first
      | refine s_val (v_assignC rfl) rfl ?_
      | refine s_val (v_assignA rfl) rfl ?_
      | refine s_val (v_assignT rfl) rfl ?_
    first
      | refine s_val (v_assignC rfl) rfl ?_
      | refine s_val (v_assignA rfl) rfl ?_
      | refine s_val (v_assignT rfl) rfl ?_
    refine s_nil ?_
    refine Q_ ?_
    refine c_hide8 6 rfl rfl hs KILL_ ?_
    refine S_ ?_
    exact k_2 (by first | exact r_tmpC rfl | exact r_tmpA rfl) (by first | exact r_tmpC rfl | exact r_tmpA rfl) (by first | kernel_rfl | rfl)
  · rw [show btSeal key (j, e) = ([], e) by unfold btSeal; rw [if_neg he]]
    dsimp only
    refine S_ ?_
    refine c_region ?_
    first
      | refine s_val (v_moveC rfl) rfl ?_
      | refine s_val (v_moveA rfl) rfl ?_
      | refine s_val (v_moveT rfl) rfl ?_
    first
      | refine s_val (v_neqN (b := 0) rfl rfl) rfl ?_
      | refine s_val (v_neqD rfl rfl) rfl ?_
    refine s_nil ?_
    refine S_ ?_
    refine c_region ?_
    first
      | refine s_val (v_moveC rfl) rfl ?_
      | refine s_val (v_moveA rfl) rfl ?_
      | refine s_val (v_moveT rfl) rfl ?_
    refine s_val (v_assignC rfl) rfl ?_
    first
      | refine s_val (v_assignC rfl) rfl ?_
      | refine s_val (v_assignA rfl) rfl ?_
      | refine s_val (v_assignT rfl) rfl ?_
    refine s_nil ?_
    refine Q_ ?_
    refine c_nilB 6 rfl ?_
    refine S_ ?_
    exact k_2 (by first | exact r_tmpC rfl | exact r_tmpA rfl) (by first | exact r_tmpC rfl | exact r_tmpA rfl) (by first | kernel_rfl | rfl)
end Go.Proofs.YtmbepikkgkcgkaaGreatDoor
namespace Go.Proofs.YtmbepikkgkcgkaaGreatDoor
open Go.RowKit
set_option maxRecDepth 100000 in
set_option maxHeartbeats 2000000 in
theorem key_evB (b : List (BitVec 8)) (hn : b.length ≤ 2199023255552) : Ev Tryz.prog (.call 17 [.c (.bs b)] []) (.val (.agg (.a8 (sha256 b))) []) := by
  have hs : (sha256 b).length = 32 := sha256_len _
  refine c_call Tryz.func17 rfl Tryz.ntmps17 rfl LEN_ ?_
  refine S_ ?_
  refine c_region ?_
  refine s_memN (m_alloc al_37 LEN_) APP_ rfl ?_
  refine s_nil ?_
  refine S_ ?_
  refine c_region ?_
  first
    | refine s_val (v_moveC rfl) rfl ?_
    | refine s_val (v_moveA rfl) rfl ?_
    | refine s_val (v_moveT rfl) rfl ?_
  refine s_evN (e_callR (sha256_evB b hn) ok_38 rfl rfl rfl VAL_) APP_ rfl ?_
  refine s_storeR rfl rfl rfl rfl sz_37 EQ_ EQ_ SET_ ?_
  refine s_nil ?_
  refine S_ ?_
  exact k_1 (r_row rfl rfl row_37 sz_37 EQ_ (by decide)) (by first | kernel_rfl | rfl)
set_option maxRecDepth 100000 in
set_option maxHeartbeats 2000000 in
theorem bytesK_ev (L : List Nd) (es : List (Value × Leaf)) (N : Nat) (D : Dn) (k n : Int) (a : List Int) (v : List (BitVec 8) × Nat) (hD : DOk D) (h0 : dhas D (geti a 0)) (ha : 1 ≤ a.length) (h1 : ¬ k = 1) (h2 : ¬ k = 2) (h3 : ¬ k = 3) (h7 : ¬ k = 7) (h9 : ¬ k = 9)
    (hK : Ev Tryz.prog (.call 71 [.c (.ptr 0 0), .agg (.ac [.val (.int .i64 k), .val (.int .i64 n), .is a]), .agg (.a8 (sha256 (dget D (geti a 0))))] [.row false (.ac [.ptr 1 0, .mp 2]), .row false (.ac [.sl 3 0 N N 3, .mp 4]), .row false (.mp (dEnt D)), .row false (.an L), .row false (.mp es)]) (.val (.tup [.c (.bs v.1), .c (.val (.int .i64 ((v.2 : Nat) : Int)))]) [.row false (.ac [.ptr 1 0, .mp 2]), .row false (.ac [.sl 3 0 N N 3, .mp 4]), .row false (.mp (dEnt D)), .row false (.an L), .row false (.mp es)])) :
    Ev Tryz.prog (.call 45 [.c (.ptr 0 0), .agg (.ac [.val (.int .i64 k), .val (.int .i64 n), .is a])] [.row false (.ac [.ptr 1 0, .mp 2]), .row false (.ac [.sl 3 0 N N 3, .mp 4]), .row false (.mp (dEnt D)), .row false (.an L), .row false (.mp es)]) (.val (.tup [.c (.bs v.1), .c (.val (.int .i64 ((v.2 : Nat) : Int)))]) [.row false (.ac [.ptr 1 0, .mp 2]), .row false (.ac [.sl 3 0 N N 3, .mp 4]), .row false (.mp (dEnt D)), .row false (.an L), .row false (.mp es)]) := by
  have hl := dget_len hD (geti a 0)
  refine c_call Tryz.func45 rfl Tryz.ntmps45 rfl LEN_ ?_
  refine S_ ?_
  refine c_region ?_
  refine s_memN (m_box BX_ LEN_) APP_ rfl ?_
  refine s_val (v_assignC rfl) rfl ?_
  refine s_val (v_assignC rfl) rfl ?_
  refine s_nil ?_
  refine S_ ?_
  refine c_region ?_
  refine s_val (v_fieldP rfl (fa_58_0 _ _)) rfl ?_
  first
    | refine s_val (v_loadN rfl rfl row_3 LT_) rfl ?_
    | refine s_val (v_loadI rfl rfl row_3 LT_) rfl ?_
    | refine s_val (v_loadZ rfl row_3 LT_) rfl ?_
    | refine s_val (v_ndK rfl rfl rfl row_3 LT_) rfl ?_
    | refine s_val (v_load rfl rfl row_3 LT_ rfl) rfl ?_
  refine s_nil ?_
  refine S_ ?_
  refine c_region ?_
  first
    | refine s_val (v_eqlN (b := 1) rfl rfl) rfl ?_
    | refine s_val (v_eqlD rfl rfl) rfl ?_
  first
    | refine s_val (v_assignC rfl) rfl ?_
    | refine s_val (v_assignA rfl) rfl ?_
    | refine s_val (v_assignT rfl) rfl ?_
  refine s_nil ?_
  refine S_ ?_
  refine c_region ?_
  first
    | refine s_val (v_eqlN (b := 2) rfl rfl) rfl ?_
    | refine s_val (v_eqlD rfl rfl) rfl ?_
  first
    | refine s_val (v_assignC rfl) rfl ?_
    | refine s_val (v_assignA rfl) rfl ?_
    | refine s_val (v_assignT rfl) rfl ?_
  refine s_nil ?_
  refine S_ ?_
  refine c_region ?_
  first
    | refine s_val (v_eqlN (b := 3) rfl rfl) rfl ?_
    | refine s_val (v_eqlD rfl rfl) rfl ?_
  first
    | refine s_val (v_assignC rfl) rfl ?_
    | refine s_val (v_assignA rfl) rfl ?_
    | refine s_val (v_assignT rfl) rfl ?_
  refine s_nil ?_
  refine S_ ?_
  refine c_region ?_
  first
    | refine s_val (v_eqlN (b := 9) rfl rfl) rfl ?_
    | refine s_val (v_eqlD rfl rfl) rfl ?_
  first
    | refine s_val (v_assignC rfl) rfl ?_
    | refine s_val (v_assignA rfl) rfl ?_
    | refine s_val (v_assignT rfl) rfl ?_
  refine s_nil ?_
  refine S_ ?_
  refine c_region ?_
  first
    | refine s_val (v_eqlN (b := 7) rfl rfl) rfl ?_
    | refine s_val (v_eqlD rfl rfl) rfl ?_
  first
    | refine s_val (v_assignC rfl) rfl ?_
    | refine s_val (v_assignA rfl) rfl ?_
    | refine s_val (v_assignT rfl) rfl ?_
  refine s_nil ?_
  refine S_ ?_
  refine c_draw 17 mixed (by kernel_rfl) rfl rfl rfl ?_
  first
    | refine h_val (v_moveC rfl) rfl ?_
    | refine h_val (v_moveA rfl) rfl ?_
    | refine h_val (v_moveT rfl) rfl ?_
  first
    | refine h_val (v_loadR rfl rfl row_58 sz_58 EQ_ (by decide)) rfl ?_
    | refine h_val (v_loadW8 rfl rfl row_58 sz_58 LE_ (by decide)) rfl ?_
    | refine h_val (v_loadW64 rfl rfl row_58 sz_58 LE_ (by decide)) rfl ?_
  first
    | refine h_val (v_moveC rfl) rfl ?_
    | refine h_val (v_moveA rfl) rfl ?_
    | refine h_val (v_moveT rfl) rfl ?_
  refine h_val (v_nilP rfl) rfl ?_
  refine h_val (v_fieldP rfl (fa_87_1 _ _)) rfl ?_
  refine h_val (v_load rfl rfl row_85 LT_ rfl) rfl ?_
  refine h_val (v_fieldP rfl (fa_58_2 _ _)) rfl ?_
  first
    | refine h_val (v_ndA rfl rfl rfl row_41 LT_) rfl ?_
    | refine h_val (v_load rfl rfl row_41 LT_ rfl) rfl ?_
  first
    | refine h_val (v_idxS1 (j := 0) rfl rfl Tryz.underlying41 sz_3 (by omega)) rfl ?_
    | refine h_val (v_idxSo (j := 0) rfl rfl Tryz.underlying41 sz_3 (by omega)) rfl ?_
    | refine h_val (v_idxS (j := 0) rfl rfl Tryz.underlying41 sz_3 (by omega)) rfl ?_
    | refine h_val (v_idxZ (j := 0) rfl rfl Tryz.underlying41 sz_3 LT_) rfl ?_
  refine h_val (v_loadZ rfl row_3 ha) rfl ?_
  refine h_evQ (o_look1s (c := .bs (dget D (geti a 0))) Tryz.underlying85 Tryz.underlying3 rfl rfl rfl hD.keyed (dEnt_mem h0)) rfl ?_
  refine h_evN (e_callR (key_evB (dget D (geti a 0)) (by omega)) ok_17 rfl rfl rfl VAL_) APP_ rfl ?_
  refine h_evN (e_callR (bs := [0,1,2,3,4]) (hK) ok_71 (by kernel_rfl) (by kernel_rfl) rfl VAL_) APP_ rfl ?_
  refine h_val (v_extract rfl rfl) rfl ?_
  refine h_val (v_extract rfl rfl) rfl ?_
  first
    | refine h_val (v_assignC rfl) rfl ?_
    | refine h_val (v_assignA rfl) rfl ?_
    | refine h_val (v_assignT rfl) rfl ?_
  first
    | refine h_val (v_assignC rfl) rfl ?_
    | refine h_val (v_assignA rfl) rfl ?_
    | refine h_val (v_assignT rfl) rfl ?_
  refine h_nil ?_
  refine s_nil ?_
  refine S_ ?_
  exact k_2 (by first | exact r_tmpC rfl | exact r_tmpA rfl) (by first | exact r_tmpC rfl | exact r_tmpA rfl) (by first | kernel_rfl | rfl)
theorem fldNd (k n : Int) (a : List Int) : evField Tryz.prog 58 (.agg (.ac [.val (.int .i64 k), .val (.int .i64 n), .is a])) 0 = some (.c (.val (.int .i64 k))) := by kernel_rfl
theorem v_fld {P : Program} {T : Nat → AV} {M : Mem} {t : TypeId} {f : Nat} {x : Operand} {y v : AV} (hx : opnd T x = y) (h : evField P t y f = some v) : evVal P (opnd T) M (.field t x f) = some v := by
  subst hx
  exact h
theorem v_fldNd {T : Nat → AV} {M : Mem} {x : Operand} {k n : Int} {a : List Int} (hx : opnd T x = .agg (.ac [.val (.int .i64 k), .val (.int .i64 n), .is a])) : evVal Tryz.prog (opnd T) M (.field 58 x 0) = some (.c (.val (.int .i64 k))) :=
  v_fld hx (fldNd k n a)
set_option maxRecDepth 100000 in
set_option maxHeartbeats 2000000 in
theorem boxE_ev (L : List Nd) (es : List (Value × Leaf)) (N : Nat) (D : Dn) (k n : Int) (a : List Int) (x : Nat) (hx : geti a 0 = (x : Int)) (hN : L.length = N) (hxN : x < N) (ha : 1 ≤ a.length) (h5 : ¬ (getn L x).k = 5) :
    Ev Tryz.prog (.call 70 [.c (.ptr 0 0), .agg (.ac [.val (.int .i64 k), .val (.int .i64 n), .is a])] [.row false (.ac [.ptr 1 0, .mp 2]), .row false (.ac [.sl 3 0 N N 3, .mp 4]), .row false (.mp (dEnt D)), .row false (.an L), .row false (.mp es)]) (.val (.tup [.c (.bs []), .c (.val (.int .i64 ((6 : Nat) : Int)))]) [.row false (.ac [.ptr 1 0, .mp 2]), .row false (.ac [.sl 3 0 N N 3, .mp 4]), .row false (.mp (dEnt D)), .row false (.an L), .row false (.mp es)]) := by
  have hAt := at_ev L es N x hN hxN
  rw [← hx] at hAt
  unfold ndA at hAt
  generalize getn L x = y at *
  generalize y.k = yk at *
  refine c_call Tryz.func70 rfl Tryz.ntmps70 rfl LEN_ ?_
  refine S_ ?_
  refine c_region ?_
  refine s_memN (m_box BX_ LEN_) APP_ rfl ?_
  refine s_val (v_assignC rfl) rfl ?_
  refine s_val (v_assignC rfl) rfl ?_
  refine s_nil ?_
  refine S_ ?_
  refine c_draw 11 mixed (by kernel_rfl) rfl rfl rfl ?_
  first
    | refine h_val (v_moveC rfl) rfl ?_
    | refine h_val (v_moveA rfl) rfl ?_
    | refine h_val (v_moveT rfl) rfl ?_
  refine h_val (v_nilP rfl) rfl ?_
  refine h_val (v_fieldP rfl (fa_87_0 _ _)) rfl ?_
  refine h_val (v_load rfl rfl row_42 LT_ rfl) rfl ?_
  refine h_val (v_fieldP rfl (fa_58_2 _ _)) rfl ?_
  first
    | refine h_val (v_ndA rfl rfl rfl row_41 LT_) rfl ?_
    | refine h_val (v_load rfl rfl row_41 LT_ rfl) rfl ?_
  first
    | refine h_val (v_idxS1 (j := 0) rfl rfl Tryz.underlying41 sz_3 (by omega)) rfl ?_
    | refine h_val (v_idxSo (j := 0) rfl rfl Tryz.underlying41 sz_3 (by omega)) rfl ?_
    | refine h_val (v_idxS (j := 0) rfl rfl Tryz.underlying41 sz_3 (by omega)) rfl ?_
    | refine h_val (v_idxZ (j := 0) rfl rfl Tryz.underlying41 sz_3 LT_) rfl ?_
  refine h_val (v_loadZ rfl row_3 ha) rfl ?_
  refine h_evN (e_callR (bs := [1,3,4]) (hAt) ok_46 (by kernel_rfl) (by kernel_rfl) rfl VAL_) APP_ rfl ?_
  refine h_val (v_fldNd rfl) rfl ?_
  first
    | refine h_val (v_neqN (b := 5) rfl rfl) rfl ?_
    | refine h_val (v_neqD rfl rfl) rfl ?_
  refine h_nil ?_
  refine s_nil ?_
  refine S_ ?_
  refine c_region ?_
  refine s_val (v_assignC rfl) rfl ?_
  refine s_val (v_assignC rfl) rfl ?_
  refine s_nil ?_
  refine Q_ ?_
  refine c_nilB 4 rfl ?_
  refine S_ ?_
  exact k_2 (by first | exact r_tmpC rfl | exact r_tmpA rfl) (by first | exact r_tmpC rfl | exact r_tmpA rfl) (by first | kernel_rfl | rfl)
set_option maxRecDepth 100000 in
set_option maxHeartbeats 2000000 in
theorem bytesB_ev (L : List Nd) (es : List (Value × Leaf)) (N : Nat) (D : Dn) (n : Int) (a : List Int) (v : List (BitVec 8) × Nat)
    (hK : Ev Tryz.prog (.call 70 [.c (.ptr 0 0), .agg (.ac [.val (.int .i64 7), .val (.int .i64 n), .is a])] [.row false (.ac [.ptr 1 0, .mp 2]), .row false (.ac [.sl 3 0 N N 3, .mp 4]), .row false (.mp (dEnt D)), .row false (.an L), .row false (.mp es)]) (.val (.tup [.c (.bs v.1), .c (.val (.int .i64 ((v.2 : Nat) : Int)))]) [.row false (.ac [.ptr 1 0, .mp 2]), .row false (.ac [.sl 3 0 N N 3, .mp 4]), .row false (.mp (dEnt D)), .row false (.an L), .row false (.mp es)])) :
    Ev Tryz.prog (.call 45 [.c (.ptr 0 0), .agg (.ac [.val (.int .i64 7), .val (.int .i64 n), .is a])] [.row false (.ac [.ptr 1 0, .mp 2]), .row false (.ac [.sl 3 0 N N 3, .mp 4]), .row false (.mp (dEnt D)), .row false (.an L), .row false (.mp es)]) (.val (.tup [.c (.bs v.1), .c (.val (.int .i64 ((v.2 : Nat) : Int)))]) [.row false (.ac [.ptr 1 0, .mp 2]), .row false (.ac [.sl 3 0 N N 3, .mp 4]), .row false (.mp (dEnt D)), .row false (.an L), .row false (.mp es)]) := by
  refine c_call Tryz.func45 rfl Tryz.ntmps45 rfl LEN_ ?_
  refine S_ ?_
  refine c_region ?_
  refine s_memN (m_box BX_ LEN_) APP_ rfl ?_
  refine s_val (v_assignC rfl) rfl ?_
  refine s_val (v_assignC rfl) rfl ?_
  refine s_nil ?_
  refine S_ ?_
  refine c_region ?_
  refine s_val (v_fieldP rfl (fa_58_0 _ _)) rfl ?_
  first
    | refine s_val (v_loadN rfl rfl row_3 LT_) rfl ?_
    | refine s_val (v_loadI rfl rfl row_3 LT_) rfl ?_
    | refine s_val (v_loadZ rfl row_3 LT_) rfl ?_
    | refine s_val (v_ndK rfl rfl rfl row_3 LT_) rfl ?_
    | refine s_val (v_load rfl rfl row_3 LT_ rfl) rfl ?_
  refine s_nil ?_
  refine S_ ?_
  refine c_region ?_
  first
    | refine s_val (v_eqlN (b := 1) rfl rfl) rfl ?_
    | refine s_val (v_eqlD rfl rfl) rfl ?_
  first
    | refine s_val (v_assignC rfl) rfl ?_
    | refine s_val (v_assignA rfl) rfl ?_
    | refine s_val (v_assignT rfl) rfl ?_
  refine s_nil ?_
  refine S_ ?_
  refine c_region ?_
  first
    | refine s_val (v_eqlN (b := 2) rfl rfl) rfl ?_
    | refine s_val (v_eqlD rfl rfl) rfl ?_
  first
    | refine s_val (v_assignC rfl) rfl ?_
    | refine s_val (v_assignA rfl) rfl ?_
    | refine s_val (v_assignT rfl) rfl ?_
  refine s_nil ?_
  refine S_ ?_
  refine c_region ?_
  first
    | refine s_val (v_eqlN (b := 3) rfl rfl) rfl ?_
    | refine s_val (v_eqlD rfl rfl) rfl ?_
  first
    | refine s_val (v_assignC rfl) rfl ?_
    | refine s_val (v_assignA rfl) rfl ?_
    | refine s_val (v_assignT rfl) rfl ?_
  refine s_nil ?_
  refine S_ ?_
  refine c_region ?_
  first
    | refine s_val (v_eqlN (b := 9) rfl rfl) rfl ?_
    | refine s_val (v_eqlD rfl rfl) rfl ?_
  first
    | refine s_val (v_assignC rfl) rfl ?_
    | refine s_val (v_assignA rfl) rfl ?_
    | refine s_val (v_assignT rfl) rfl ?_
  refine s_nil ?_
  refine S_ ?_
  refine c_region ?_
  first
    | refine s_val (v_eqlN (b := 7) rfl rfl) rfl ?_
    | refine s_val (v_eqlD rfl rfl) rfl ?_
  first
    | refine s_val (v_assignC rfl) rfl ?_
    | refine s_val (v_assignA rfl) rfl ?_
    | refine s_val (v_assignT rfl) rfl ?_
  refine s_nil ?_
  refine S_ ?_
  refine c_region ?_
  first
    | refine s_val (v_moveC rfl) rfl ?_
    | refine s_val (v_moveA rfl) rfl ?_
    | refine s_val (v_moveT rfl) rfl ?_
  first
    | refine s_val (v_loadR rfl rfl row_58 sz_58 EQ_ (by decide)) rfl ?_
    | refine s_val (v_loadW8 rfl rfl row_58 sz_58 LE_ (by decide)) rfl ?_
    | refine s_val (v_loadW64 rfl rfl row_58 sz_58 LE_ (by decide)) rfl ?_
  refine s_evN (e_callR (bs := [0,1,2,3,4]) (hK) ok_70 (by kernel_rfl) (by kernel_rfl) rfl VAL_) APP_ rfl ?_
  refine s_val (v_extract rfl rfl) rfl ?_
  refine s_val (v_extract rfl rfl) rfl ?_
  first
    | refine s_val (v_assignC rfl) rfl ?_
    | refine s_val (v_assignA rfl) rfl ?_
    | refine s_val (v_assignT rfl) rfl ?_
  first
    | refine s_val (v_assignC rfl) rfl ?_
    | refine s_val (v_assignA rfl) rfl ?_
    | refine s_val (v_assignT rfl) rfl ?_
  refine s_nil ?_
  refine S_ ?_
  exact k_2 (by first | exact r_tmpC rfl | exact r_tmpA rfl) (by first | exact r_tmpC rfl | exact r_tmpA rfl) (by first | kernel_rfl | rfl)
end Go.Proofs.YtmbepikkgkcgkaaGreatDoor
namespace Go.Proofs.YtmbepikkgkcgkaaGreatDoor
open Go.RowKit
theorem mark_get (a : List Int) : ∀ (c : List Bool) (k : Nat), gett c k = true → gett (mark c a) k = true := by
  induction a with
  | nil => intro c k h; exact h
  | cons x a ih =>
    intro c k h
    refine ih _ k ?_
    simp only [gett, List.getD_eq_getElem?_getD, List.getElem?_set] at h ⊢
    split
    · split
      · rfl
      · rename_i h1 h2
        subst h1
        rw [List.getElem?_eq_none (by omega)] at h
        exact h
    · exact h
theorem mark_mem (a : List Int) : ∀ (c : List Bool) (x : Int), x ∈ a → x.toNat < c.length → gett (mark c a) x.toNat = true := by
  induction a with
  | nil => intro c x h; cases h
  | cons y a ih =>
    intro c x h hl
    rcases List.mem_cons.1 h with rfl | h
    · refine mark_get a _ _ ?_
      simp [gett, hl]
    · exact ih _ x h (by simpa using hl)
theorem ben_lt (L : List Nd) : ∀ n c x, x ∈ ben L n c → 0 ≤ x ∧ x < (n : Int)
  | 0, _, x, h => by cases h
  | n + 1, c, x, h => by
    unfold ben at h
    split at h
    · rcases List.mem_cons.1 h with rfl | h
      · omega
      · have := ben_lt L n _ x h; omega
    · have := ben_lt L n _ x h; omega
theorem ben_desc (L : List Nd) : ∀ n c, (ben L n c).Pairwise (fun x y => y < x)
  | 0, _ => List.Pairwise.nil
  | n + 1, c => by
    unfold ben
    split
    · exact List.pairwise_cons.2 ⟨fun y hy => (ben_lt L n _ y hy).2, ben_desc L n _⟩
    · exact ben_desc L n _
theorem ben_mark (L : List Nd) : ∀ (n : Nat) (c : List Bool) (k : Nat), k < n → gett c k = true → (k : Int) ∈ ben L n c
  | 0, _, k, h, _ => by omega
  | n + 1, c, k, h, hk => by
    unfold ben
    by_cases e : k = n
    · subst e
      rw [if_pos hk]
      exact List.mem_cons_self
    · split
      · exact List.mem_cons_of_mem _ (ben_mark L n _ k (by omega) (mark_get _ _ _ hk))
      · exact ben_mark L n _ k (by omega) hk
theorem ben_args (L : List Nd) : ∀ (n : Nat) (c : List Bool), n ≤ c.length → (∀ k, k < n → ∀ x ∈ (getn L k).a, 0 ≤ x ∧ x < (k : Int)) → ∀ k : Nat, (k : Int) ∈ ben L n c → ∀ x ∈ (getn L k).a, x ∈ ben L n c
  | 0, _, _, _, k, h => by cases h
  | n + 1, c, hc, hL, k, h => by
    intro x hx
    have hnd := ben_lt L (n + 1) c k h
    have hx2 := hL k (by omega) x hx
    unfold ben at h ⊢
    split
    · rename_i hq
      rw [if_pos hq] at h
      rcases List.mem_cons.1 h with e | h
      · obtain rfl : k = n := by omega
        refine List.mem_cons_of_mem _ ?_
        have h1 := mark_mem (getn L k).a c x hx (by omega)
        have h2 := ben_mark L k (mark c (getn L k).a) x.toNat (by omega) h1
        rwa [show ((x.toNat : Nat) : Int) = x by omega] at h2
      · exact List.mem_cons_of_mem _ (ben_args L n _ (by rw [mark_length]; omega) (fun k hk => hL k (by omega)) k h x hx)
    · rename_i hq
      rw [if_neg hq] at h
      exact ben_args L n _ (by omega) (fun k hk => hL k (by omega)) k h x hx
theorem beneath_lt (L : List Nd) (i : Nat) : ∀ x ∈ beneath L i, 0 ≤ x ∧ x < ((i + 1 : Nat) : Int) := fun x hx => ben_lt L (i + 1) _ x (by unfold beneath at hx; exact List.mem_reverse.1 hx)
theorem beneath_asc (L : List Nd) (i : Nat) : (beneath L i).Pairwise (· < ·) := by
  unfold beneath
  rw [List.pairwise_reverse]
  exact ben_desc L _ _
theorem beneath_top (L : List Nd) (i : Nat) : (i : Int) ∈ beneath L i := by
  unfold beneath
  rw [List.mem_reverse]
  refine ben_mark L (i + 1) _ i (by omega) ?_
  simp [gett]
theorem beneath_args {L : List Nd} (hA : ArOk L) {i : Nat} (hi : i < L.length) {k : Nat} (hk : (k : Int) ∈ beneath L i) : ∀ x ∈ (getn L k).a, x ∈ beneath L i := by
  unfold beneath at hk ⊢
  intro x hx
  rw [List.mem_reverse] at hk ⊢
  exact ben_args L (i + 1) _ (by simp) (fun k hk x hx => (hA.nd (i := k) (by omega)).args x hx) k hk x hx
def kAtom : List (BitVec 8) := [97#8, 116#8, 111#8, 109#8]
def kWord : List (BitVec 8) := [119#8, 111#8, 114#8, 100#8]
def btR (X : Nd → (Int → List (BitVec 8)) → List (BitVec 8) × Nat) (L : List Nd) (g : Int → List (BitVec 8)) (y : Nd) : List (BitVec 8) × Nat :=
  if y.k = 1 then btN kAtom y.n.toNat
  else if y.k = 2 then btN kWord y.n.toNat
  else if y.k = 3 then btHash (jnR (y.a.map g))
  else if y.k = 9 then jnR (y.a.map g)
  else if y.k = 4 then btKdf (sha256 (g (geti y.a 0))) y.n.toNat
  else if y.k = 6 then btSeal (sha256 (g (geti y.a 0))) (jnR ((y.a.drop 1).map g))
  else if y.k = 7 ∧ ¬ (getn L (geti y.a 0).toNat).k = 5 then ([], 6)
  else X y g
def hard (L : List Nd) (y : Nd) : Prop := y.k = 5 ∨ y.k = 8 ∨ (y.k = 7 ∧ (getn L (geti y.a 0).toNat).k = 5)
def bsRun (X : Nd → (Int → List (BitVec 8)) → List (BitVec 8) × Nat) (L : List Nd) : List Int → Dn → Dn × Nat
  | [], D => (D, 0)
  | k :: r, D => if (btR X L (dget D) (getn L k.toNat)).2 = 0 then bsRun X L r (D ++ [(k, (btR X L (dget D) (getn L k.toNat)).1)]) else (D, (btR X L (dget D) (getn L k.toNat)).2)
def bsOf (X : Nd → (Int → List (BitVec 8)) → List (BitVec 8) × Nat) (L : List Nd) (i : Nat) : List (BitVec 8) × Nat :=
  if (bsRun X L (beneath L i) []).2 = 0 then (dget (bsRun X L (beneath L i) []).1 i, 0) else ([], (bsRun X L (beneath L i) []).2)
theorem dhas_app {D : Dn} {x : Int} (h : dhas D x) (p : Int × List (BitVec 8)) : dhas (D ++ [p]) x := by
  obtain ⟨q, hq, e⟩ := h
  exact ⟨q, List.mem_append_left _ hq, e⟩
theorem dhas_last (D : Dn) (x : Int) (b : List (BitVec 8)) : dhas (D ++ [(x, b)]) x := ⟨(x, b), by simp, rfl⟩
theorem DOk.snoc {D : Dn} (h : DOk D) {x : Int} {b : List (BitVec 8)} (hx : ¬ dhas D x) (hb : b.length ≤ 100000) : DOk (D ++ [(x, b)]) := by
  refine ⟨?_, fun p hp => ?_⟩
  · rw [List.pairwise_append]
    refine ⟨h.dist, by simp, fun p hp q hq => ?_⟩
    obtain rfl := List.mem_singleton.1 hq
    exact fun e => hx ⟨p, hp, e⟩
  · rcases List.mem_append.1 hp with hp | hp
    · exact h.len p hp
    · obtain rfl := List.mem_singleton.1 hp
      exact hb
theorem dEnt_app (D : Dn) (x : Int) (b : List (BitVec 8)) : dEnt (D ++ [(x, b)]) = dEnt D ++ [(.int .i64 x, .bs b)] := by simp [dEnt]
theorem not_dEnt {D : Dn} {x : Int} (h : ¬ dhas D x) : ∀ p ∈ dEnt D, p.1 ≠ .int .i64 x := by
  intro p hp e
  obtain ⟨q, hq, rfl⟩ := List.mem_map.1 hp
  exact h ⟨q, hq, (Value.int.inj e).2⟩
theorem btR_len {X : Nd → (Int → List (BitVec 8)) → List (BitVec 8) × Nat} {L : List Nd} {g : Int → List (BitVec 8)} {y : Nd} (hX : hard L y → (X y g).1.length ≤ 100000) (hk : 1 ≤ y.k ∧ y.k ≤ 9) : (btR X L g y).1.length ≤ 100000 := by
  have hh : ∀ q : List (BitVec 8) × Nat, (btHash q).1.length ≤ 32 := fun q => by
    unfold btHash
    split
    · dsimp only; rw [sha256_len]; omega
    · exact Nat.zero_le _
  have hs : ∀ (k : List (BitVec 8)) (l : List (List (BitVec 8))), k.length = 32 → (btSeal k (jnR l)).1.length ≤ 65552 := fun k l hk => by
    unfold btSeal
    have := jnR_len l
    split
    · dsimp only; rw [adSeal0_len _ _ _ _ hk (zer8_length 12)]; omega
    · exact Nat.zero_le _
  unfold btR btN btKdf
  split
  · dsimp only; rw [sha256_len]; omega
  · split
    · dsimp only; rw [sha256_len]; omega
    · split
      · exact Nat.le_trans (hh _) (by decide)
      · split
        · exact Nat.le_trans (jnR_len _) (by decide)
        · split
          · dsimp only; rw [macExp0_len]; omega
          · split
            · exact Nat.le_trans (hs _ _ (sha256_len _)) (by decide)
            · split
              · exact Nat.zero_le _
              · refine hX ?_
                unfold hard
                by_cases e : y.k = 7
                · rename_i h; exact .inr (.inr ⟨e, by by_cases e2 : (getn L (geti y.a 0).toNat).k = 5; exact e2; exact absurd ⟨e, e2⟩ h⟩)
                · omega
end Go.Proofs.YtmbepikkgkcgkaaGreatDoor
namespace Go.Proofs.YtmbepikkgkcgkaaGreatDoor
open Go.RowKit
def bytesE (L : List Nd) (es : List (Value × Leaf)) (N : Nat) (D : Dn) (y : Nd) (v : List (BitVec 8) × Nat) : Prop :=
  Ev Tryz.prog (.call 45 [.c (.ptr 0 0), .agg (.ac [.val (.int .i64 y.k), .val (.int .i64 y.n), .is y.a])] [.row false (.ac [.ptr 1 0, .mp 2]), .row false (.ac [.sl 3 0 N N 3, .mp 4]), .row false (.mp (dEnt D)), .row false (.an L), .row false (.mp es)]) (.val (.tup [.c (.bs v.1), .c (.val (.int .i64 ((v.2 : Nat) : Int)))]) [.row false (.ac [.ptr 1 0, .mp 2]), .row false (.ac [.sl 3 0 N N 3, .mp 4]), .row false (.mp (dEnt D)), .row false (.an L), .row false (.mp es)])
theorem bytesAll_ev (X : Nd → (Int → List (BitVec 8)) → List (BitVec 8) × Nat) (L : List Nd) (es : List (Value × Leaf)) (N : Nat) (D : Dn) (y : Nd) (i : Nat) (hN : L.length = N) (hi : i < N) (hnd : NdOk i y) (hsm : y.n ≤ 9223372036854775807) (hD : DOk D) (ha : ∀ x ∈ y.a, dhas D x) (hX : hard L y → bytesE L es N D y (X y (dget D))) :
    bytesE L es N D y (btR X L (dget D) y) := by
  obtain ⟨k, n, a⟩ := y
  have hk := hnd.kind
  have hn := hnd.num.1
  have hlen := hnd.len
  have hml := mostK_le k
  have hargs := hnd.args
  have h400 : a.length ≤ 400 := by dsimp only at hlen; omega
  dsimp only at hk hn hsm ha hlen hargs
  obtain ⟨n, rfl⟩ : ∃ m : Nat, n = (m : Int) := ⟨n.toNat, by omega⟩
  have hsm : n ≤ 9223372036854775807 := by omega
  have first : 1 ≤ a.length → geti a 0 ∈ a := fun h => by simp [geti, show 0 < a.length by omega]
  have go : ∀ j : Int, k = j → leastK k = leastK j := fun j h => by rw [h]
  by_cases e1 : k = 1
  · subst e1
    rw [show btR X L (dget D) ⟨1, (n : Int), a⟩ = btN kAtom n by simp [btR]]
    exact btAtom_ev L es N D n a hsm
  by_cases e2 : k = 2
  · subst e2
    rw [show btR X L (dget D) ⟨2, (n : Int), a⟩ = btN kWord n by simp [btR]]
    exact btWord_ev L es N D n a hsm
  by_cases e3 : k = 3
  · subst e3
    rw [show btR X L (dget D) ⟨3, (n : Int), a⟩ = btHash (jnR (a.map (dget D))) by simp [btR]]
    exact btHash_ev L es N D n a hD ha h400
  by_cases e9 : k = 9
  · subst e9
    rw [show btR X L (dget D) ⟨9, (n : Int), a⟩ = jnR (a.map (dget D)) by simp [btR]]
    exact btList_ev L es N D n a hD ha h400
  by_cases e4 : k = 4
  · subst e4
    have h1 : 1 ≤ a.length := hlen.1
    rw [show btR X L (dget D) ⟨4, (n : Int), a⟩ = btKdf (sha256 (dget D (geti a 0))) n by simp [btR]]
    exact bytesK_ev L es N D 4 n a _ hD (ha _ (first h1)) h1 (by decide) (by decide) (by decide) (by decide) (by decide) (kyKdf_ev L es N D n a hsm _ (sha256_len _))
  by_cases e6 : k = 6
  · subst e6
    have h1 : 1 ≤ a.length := hlen.1
    rw [show btR X L (dget D) ⟨6, (n : Int), a⟩ = btSeal (sha256 (dget D (geti a 0))) (jnR ((a.drop 1).map (dget D))) by simp [btR]]
    exact bytesK_ev L es N D 6 n a _ hD (ha _ (first h1)) h1 (by decide) (by decide) (by decide) (by decide) (by decide) (kySeal_ev L es N D n a hD ha h400 h1 _ (sha256_len _))
  by_cases e7 : k = 7 ∧ ¬ (getn L (geti a 0).toNat).k = 5
  · obtain ⟨e7, e5⟩ := e7
    subst e7
    have h1 : 1 ≤ a.length := Nat.le_trans (show 1 ≤ leastK 7 by decide) hlen.1
    have h2 := hargs _ (first h1)
    rw [show btR X L (dget D) ⟨7, (n : Int), a⟩ = ([], 6) by simp [btR, e5]]
    exact bytesB_ev L es N D n a ([], 6) (boxE_ev L es N D 7 n a (geti a 0).toNat (by omega) hN (by omega) h1 e5)
  · rw [show btR X L (dget D) ⟨k, (n : Int), a⟩ = X ⟨k, (n : Int), a⟩ (dget D) by
      unfold btR
      dsimp only
      rw [if_neg e1, if_neg e2, if_neg e3, if_neg e9, if_neg e4, if_neg e6, if_neg e7]]
    refine hX ?_
    unfold hard
    dsimp only
    by_cases e : k = 7
    · exact .inr (.inr ⟨e, by by_cases e2 : (getn L (geti a 0).toNat).k = 5; exact e2; exact absurd ⟨e, e2⟩ e7⟩)
    · omega
set_option maxRecDepth 100000 in
theorem bldMk (b c : Nat) : evBuild Tryz.prog 87 [(0, .c (.ptr b 0)), (1, .c (.mp c))] = some (.agg (.ac [.ptr b 0, .mp c])) := by kernel_rfl
theorem v_bldMk {T : Nat → AV} {M : Mem} {x y : Operand} {b c : Nat} (hx : opnd T x = .c (.ptr b 0)) (hy : opnd T y = .c (.mp c)) : evVal Tryz.prog (opnd T) M (.build 87 #[(0, x), (1, y)]) = some (.agg (.ac [.ptr b 0, .mp c])) :=
  v_bldG (by simp [hx, hy]) (bldMk b c)
set_option maxRecDepth 100000 in
set_option maxHeartbeats 2000000 in
theorem rlBytes_ev (X : Nd → (Int → List (BitVec 8)) → List (BitVec 8) × Nat) (L : List Nd) (es : List (Value × Leaf)) (N : Nat) (i : Nat) (hN : L.length = N) (hNl : N ≤ 1048576) (hi : i < N) (hA : ArOk L)
    (hX : ∀ (D : Dn) (k : Nat), (k : Int) ∈ beneath L i → DOk D → (∀ x ∈ (getn L k).a, dhas D x) → hard L (getn L k) → (X (getn L k) (dget D)).1.length ≤ 100000 ∧ bytesE L es N D (getn L k) (X (getn L k) (dget D))) :
    Ev Tryz.prog (.call 22 [.c (.ptr 0 0), .c (.val (.int .i64 (i : Int)))] [.row false (.ac [.sl 1 0 N N 3, .mp 2]), .row false (.an L), .row false (.mp es)]) (.val (.tup [.c (.bs (bsOf X L i).1), .c (.val (.int .i64 (((bsOf X L i).2 : Nat) : Int)))]) [.row false (.ac [.sl 1 0 N N 3, .mp 2]), .row false (.an L), .row false (.mp es)]) := by
  have hl1 := beneath_length L i
  have hlt := beneath_lt L i
  have hasc := beneath_asc L i
  have htop := beneath_top L i
  have hcl : ∀ k : Nat, (k : Int) ∈ beneath L i → ∀ x ∈ (getn L k).a, x ∈ beneath L i := fun k hk => beneath_args hA (by omega) hk
  unfold bsOf
  have hBen := ben_ev L es N i hN hNl hi hA
  generalize hall : beneath L i = all at *
  clear hall
  generalize hn : all.length = n at *
  refine c_call Tryz.func22 rfl Tryz.ntmps22 rfl LEN_ ?_
  refine S_ ?_
  refine c_region ?_
  refine s_val (v_assignC rfl) rfl ?_
  refine s_val (v_assignC rfl) rfl ?_
  refine s_nil ?_
  refine S_ ?_
  refine c_region ?_
  first
    | refine s_val (v_moveC rfl) rfl ?_
    | refine s_val (v_moveA rfl) rfl ?_
    | refine s_val (v_moveT rfl) rfl ?_
  first
    | refine s_val (v_moveC rfl) rfl ?_
    | refine s_val (v_moveA rfl) rfl ?_
    | refine s_val (v_moveT rfl) rfl ?_
  refine s_evN (e_callR (hBen) ok_44 rfl rfl rfl VAL_) APP_ rfl ?_
  first
    | refine s_val (v_moveC rfl) rfl ?_
    | refine s_val (v_moveA rfl) rfl ?_
    | refine s_val (v_moveT rfl) rfl ?_
  refine s_val (v_extract rfl rfl) rfl ?_
  refine s_val (v_extract rfl rfl) rfl ?_
  first
    | refine s_val (v_assignC rfl) rfl ?_
    | refine s_val (v_assignA rfl) rfl ?_
    | refine s_val (v_assignT rfl) rfl ?_
  first
    | refine s_val (v_assignC rfl) rfl ?_
    | refine s_val (v_assignA rfl) rfl ?_
    | refine s_val (v_assignT rfl) rfl ?_
  refine s_nil ?_
  refine S_ ?_
  refine c_region ?_
  first
    | refine s_val (v_moveC rfl) rfl ?_
    | refine s_val (v_moveA rfl) rfl ?_
    | refine s_val (v_moveT rfl) rfl ?_
  first
    | refine s_val (v_neqN (b := 0) rfl rfl) rfl ?_
    | refine s_val (v_neqD rfl rfl) rfl ?_
  refine s_nil ?_
  refine S_ ?_
  refine c_region ?_
  first
    | refine s_val (v_moveC rfl) rfl ?_
    | refine s_val (v_moveA rfl) rfl ?_
    | refine s_val (v_moveT rfl) rfl ?_
  refine s_ev (o_makeMap) rfl ?_
  refine s_val (v_bldMk rfl rfl) rfl ?_
  refine s_memN (m_box BX_ LEN_) APP_ rfl ?_
  first
    | refine s_val (v_assignC rfl) rfl ?_
    | refine s_val (v_assignA rfl) rfl ?_
    | refine s_val (v_assignT rfl) rfl ?_
  refine s_nil ?_
  refine S_ ?_
  refine c_region ?_
  first
    | refine s_val (v_moveC rfl) rfl ?_
    | refine s_val (v_moveA rfl) rfl ?_
    | refine s_val (v_moveT rfl) rfl ?_
  first
    | refine s_val (v_lenS rfl Tryz.underlying41) rfl ?_
    | refine s_val (v_lenN rfl Tryz.underlying41) rfl ?_
    | refine s_val (v_lenE rfl Tryz.underlying41) rfl ?_
    | refine s_val (v_lenB rfl Tryz.underlying41 rfl) rfl ?_
    | refine s_val (v_lenZ rfl Tryz.underlying41 rfl) rfl ?_
  refine s_val (v_moveC rfl) rfl ?_
  refine s_nil ?_
  refine S_ ?_
  refine c_while [0, 1, 8, 26, 27, 28] (fun (zz : Nat × Dn) => ⟨58, keepT [0, 1, 8, 26, 27, 28] [.c (.ptr 0 0), .c (.val (.int .i64 (i : Int))), .c (.ptr 3 0), .c (.is all), .c (.val (.int .i64 (n : Int))), .c (.val (.int .i64 (zz.1 : Int)))], [.row false (.ac [.sl 1 0 N N 3, .mp 2]), .row false (.an L), .row false (.mp es), .row true (.ac [.ptr 0 0, .mp 4]), .row true (.mp (dEnt zz.2))]⟩) (fun zz => n - zz.1) (fun zz => (zz.1 ≤ n ∧ DOk zz.2) ∧ (∀ x, dhas zz.2 x ↔ x ∈ all.take zz.1) ∧ bsRun X L all [] = bsRun X L (all.drop zz.1) zz.2) (0, []) (by kernel_rfl) ⟨⟨Nat.zero_le _, ⟨List.Pairwise.nil, fun p hp => by cases hp⟩⟩, fun x => by simp [dhas], rfl⟩ ?_
  rintro ⟨j, D⟩ ⟨⟨hj, hD⟩, hdh, hrun⟩
  dsimp only at hj hD hdh hrun ⊢
  by_cases hlt' : j < n
  · obtain ⟨k, hx⟩ : ∃ k : Nat, geti all j = (k : Int) := ⟨(geti all j).toNat, by
      have h1 := hlt (geti all j) (by simp [geti, show j < all.length by omega])
      omega⟩
    have hget : all[j]'(by omega) = (k : Int) := by rw [← hx]; simp [geti, show j < all.length by omega]
    have hdrop : all.drop j = (k : Int) :: all.drop (j + 1) := by rw [List.drop_eq_getElem_cons (by omega), hget]
    have hmem : (k : Int) ∈ all := by rw [← hget]; exact List.getElem_mem _
    have hkN : k < N := by have := (hlt _ hmem).2; omega
    have hsplit : all = all.take j ++ (k : Int) :: all.drop (j + 1) := by rw [← hdrop, List.take_append_drop]
    have hp := hasc
    rw [hsplit, List.pairwise_append] at hp
    obtain ⟨_, hp2, hp3⟩ := hp
    have hp4 := (List.pairwise_cons.1 hp2).1
    have hnot : ¬ dhas D (k : Int) := fun h => by
      have := hp3 _ ((hdh _).1 h) _ List.mem_cons_self
      omega
    have ha : ∀ x ∈ (getn L k).a, dhas D x := fun x hx => by
      have h1 := hcl k hmem x hx
      have h2 := ((hA.nd (i := k) (by omega)).args x hx).2
      rw [hsplit] at h1
      rcases List.mem_append.1 h1 with h1 | h1
      · exact (hdh x).2 h1
      · rcases List.mem_cons.1 h1 with rfl | h1
        · omega
        · have := hp4 x h1; omega
    have hB := bytesAll_ev X L es N D (getn L k) k hN hkN (hA.nd (by omega)) (hA.small k (by omega)) hD ha (fun h => (hX D k hmem hD ha h).2)
    have hvl := btR_len (g := dget D) (fun h => (hX D k hmem hD ha h).1) (hA.nd (i := k) (by omega)).kind
    have hAt := at_ev L es N k hN hkN
    rw [← hx] at hAt
    unfold ndA at hAt
    unfold bytesE at hB
    rw [hdrop, bsRun.eq_2, Int.toNat_natCast] at hrun
    generalize btR X L (dget D) (getn L k) = v at *
    generalize getn L k = y at *
    obtain ⟨b, e⟩ := v
    dsimp only at hB hrun hvl
    refine S_ ?_
    refine c_region ?_
    first
      | refine s_val (v_lssN rfl rfl) rfl ?_
      | refine s_val (v_lssI rfl rfl) rfl ?_
    refine s_nil ?_
    refine S_ ?_
    refine c_region ?_
    first
      | refine s_val (v_idxS1 rfl rfl Tryz.underlying41 sz_3 (by omega)) rfl ?_
      | refine s_val (v_idxSo rfl rfl Tryz.underlying41 sz_3 (by omega)) rfl ?_
      | refine s_val (v_idxS rfl rfl Tryz.underlying41 sz_3 (by omega)) rfl ?_
      | refine s_val (v_idxZ rfl rfl Tryz.underlying41 sz_3 LT_) rfl ?_
    first
      | refine s_val (v_loadN rfl rfl row_3 LT_) rfl ?_
      | refine s_val (v_loadI rfl rfl row_3 LT_) rfl ?_
      | refine s_val (v_loadZ rfl row_3 LT_) rfl ?_
      | refine s_val (v_ndK rfl rfl rfl row_3 LT_) rfl ?_
      | refine s_val (v_load rfl rfl row_3 LT_ rfl) rfl ?_
    first
      | refine s_val (v_assignC rfl) rfl ?_
      | refine s_val (v_assignA rfl) rfl ?_
      | refine s_val (v_assignT rfl) rfl ?_
    refine s_nil ?_
    refine S_ ?_
    refine c_region ?_
    first
      | refine s_val (v_moveC rfl) rfl ?_
      | refine s_val (v_moveA rfl) rfl ?_
      | refine s_val (v_moveT rfl) rfl ?_
    first
      | refine s_val (v_moveC rfl) rfl ?_
      | refine s_val (v_moveA rfl) rfl ?_
      | refine s_val (v_moveT rfl) rfl ?_
    first
      | refine s_val (v_moveC rfl) rfl ?_
      | refine s_val (v_moveA rfl) rfl ?_
      | refine s_val (v_moveT rfl) rfl ?_
    refine s_evN (e_callR (bs := [0,1,2]) (hAt) ok_46 (by kernel_rfl) (by kernel_rfl) rfl VAL_) APP_ rfl ?_
    refine s_evN (e_callR (bs := [3,0,4,1,2]) (hB) ok_45 (by kernel_rfl) (by kernel_rfl) rfl VAL_) APP_ rfl ?_
    first
      | refine s_val (v_moveC rfl) rfl ?_
      | refine s_val (v_moveA rfl) rfl ?_
      | refine s_val (v_moveT rfl) rfl ?_
    refine s_val (v_extract rfl rfl) rfl ?_
    refine s_val (v_extract rfl rfl) rfl ?_
    first
      | refine s_val (v_assignC rfl) rfl ?_
      | refine s_val (v_assignA rfl) rfl ?_
      | refine s_val (v_assignT rfl) rfl ?_
    first
      | refine s_val (v_assignC rfl) rfl ?_
      | refine s_val (v_assignA rfl) rfl ?_
      | refine s_val (v_assignT rfl) rfl ?_
    refine s_nil ?_
    by_cases he : e = 0
    · subst he
      rw [if_pos rfl] at hrun
      refine S_ ?_
      refine c_region ?_
      first
        | refine s_val (v_moveC rfl) rfl ?_
        | refine s_val (v_moveA rfl) rfl ?_
        | refine s_val (v_moveT rfl) rfl ?_
      first
        | refine s_val (v_neqN (b := 0) rfl rfl) rfl ?_
        | refine s_val (v_neqD rfl rfl) rfl ?_
      refine s_nil ?_
      rw [hx]
      refine S_ ?_
      refine c_region ?_
      first
        | refine s_val (v_moveC rfl) rfl ?_
        | refine s_val (v_moveA rfl) rfl ?_
        | refine s_val (v_moveT rfl) rfl ?_
      refine s_val (v_nilP rfl) rfl ?_
      refine s_val (v_fieldP rfl (fa_87_1 _ _)) rfl ?_
      refine s_val (v_load rfl rfl row_85 LT_ rfl) rfl ?_
      first
        | refine s_val (v_moveC rfl) rfl ?_
        | refine s_val (v_moveA rfl) rfl ?_
        | refine s_val (v_moveT rfl) rfl ?_
      first
        | refine s_val (v_moveC rfl) rfl ?_
        | refine s_val (v_moveA rfl) rfl ?_
        | refine s_val (v_moveT rfl) rfl ?_
      refine s_ev0 (o_mapNew (c := .bs b) Tryz.underlying85 Tryz.underlying3 rfl rfl rfl rfl hD.keyed rfl (not_dEnt hnot) SET_) ?_
      refine s_nil ?_
      refine S_ ?_
      refine c_region ?_
      first
        | refine s_val (v_addN (b := 1) rfl rfl (by omega)) rfl ?_
        | refine s_val (v_addI rfl rfl (by omega)) rfl ?_
      first
        | refine s_val (v_moveC rfl) rfl ?_
        | refine s_val (v_moveA rfl) rfl ?_
        | refine s_val (v_moveT rfl) rfl ?_
      refine s_nil ?_
      rw [← dEnt_app]
      refine ⟨(j + 1, D ++ [((k : Int), b)]), by kernel_rfl, by show n - (j + 1) < n - j; omega, ⟨hlt', hD.snoc hnot hvl⟩, fun x => ?_, hrun⟩
      dsimp only
      rw [List.take_succ_eq_append_getElem (by omega), hget, List.mem_append, List.mem_singleton, ← hdh]
      constructor
      · rintro ⟨p, hp, rfl⟩
        rcases List.mem_append.1 hp with hp | hp
        · exact .inl ⟨p, hp, rfl⟩
        · obtain rfl := List.mem_singleton.1 hp
          exact .inr rfl
      · rintro (h | rfl)
        · exact dhas_app h _
        · exact dhas_last _ _ _
    · rw [if_neg he] at hrun
      rw [hrun, show (if (D, e).2 = 0 then (dget (D, e).1 (i : Int), 0) else ([], (D, e).2)) = (([] : List (BitVec 8)), e) by rw [if_neg he]]
      dsimp only
      refine S_ ?_
      refine c_region ?_
      first
        | refine s_val (v_moveC rfl) rfl ?_
        | refine s_val (v_moveA rfl) rfl ?_
        | refine s_val (v_moveT rfl) rfl ?_
      first
        | refine s_val (v_neqN (b := 0) rfl rfl) rfl ?_
        | refine s_val (v_neqD rfl rfl) rfl ?_
      refine s_nil ?_
      refine S_ ?_
      refine c_region ?_
      first
        | refine s_val (v_moveC rfl) rfl ?_
        | refine s_val (v_moveA rfl) rfl ?_
        | refine s_val (v_moveT rfl) rfl ?_
      refine s_val (v_assignC rfl) rfl ?_
      first
        | refine s_val (v_assignC rfl) rfl ?_
        | refine s_val (v_assignA rfl) rfl ?_
        | refine s_val (v_assignT rfl) rfl ?_
      refine s_nil ?_
      refine Q_ ?_
      refine c_nilB 4 rfl ?_
      refine S_ ?_
      exact k_2 (by first | exact r_tmpC rfl | exact r_tmpA rfl) (by first | exact r_tmpC rfl | exact r_tmpA rfl) (by first | kernel_rfl | rfl)
  · obtain rfl : j = n := by omega
    have hi' : dhas D (i : Int) := (hdh _).2 (by rw [← hn, List.take_length]; exact htop)
    have hl := dget_len hD (i : Int)
    rw [hrun, ← hn, List.drop_length, show bsRun X L [] D = (D, 0) from rfl, if_pos rfl]
    rw [hn]
    dsimp only
    refine S_ ?_
    refine c_region ?_
    first
      | refine s_val (v_lssN rfl rfl) rfl ?_
      | refine s_val (v_lssI rfl rfl) rfl ?_
    refine s_nil ?_
    refine S_ ?_
    refine c_region ?_
    refine s_memN (m_bs0 Tryz.underlying23 el_5) APP_ rfl ?_
    first
      | refine s_val (v_moveC rfl) rfl ?_
      | refine s_val (v_moveA rfl) rfl ?_
      | refine s_val (v_moveT rfl) rfl ?_
    refine s_val (v_nilP rfl) rfl ?_
    refine s_val (v_fieldP rfl (fa_87_1 _ _)) rfl ?_
    refine s_val (v_load rfl rfl row_85 LT_ rfl) rfl ?_
    first
      | refine s_val (v_moveC rfl) rfl ?_
      | refine s_val (v_moveA rfl) rfl ?_
      | refine s_val (v_moveT rfl) rfl ?_
    refine s_ev (o_look1s (c := .bs (dget D (i : Int))) Tryz.underlying85 Tryz.underlying3 rfl rfl rfl hD.keyed (dEnt_mem hi')) rfl ?_
    first
      | refine s_ev (o_quiet8 (Ev.mem (m_appE8 rfl rfl rfl Tryz.underlying23 Tryz.underlying23 el_5 EQL_ (by omega) LEN_)) LEN_ LQ_ rfl) rfl ?_
      | refine s_ev (o_quiet8 (Ev.mem (m_appN8 rfl rfl rfl Tryz.underlying23 Tryz.underlying23 el_5 EQL_ (by omega) LEN_)) LEN_ LQ_ rfl) rfl ?_
      | refine s_ev (o_quiet8 (Ev.mem (m_appE8c rfl rfl rfl Tryz.underlying23 Tryz.underlying23 el_5 LE_ (by omega) LEN_)) LEN_ LQ_ rfl) rfl ?_
      | refine s_ev (o_quiet8 (Ev.mem (m_appN8c rfl rfl rfl Tryz.underlying23 Tryz.underlying23 el_5 LE_ (by omega) LEN_)) LEN_ LQ_ rfl) rfl ?_
      | refine s_ev (o_quiet8 (Ev.mem (m_appZ rfl rfl Tryz.underlying23 Tryz.underlying23 el_5 rfl)) LEN_ LQ_ rfl) rfl ?_
      | refine s_ev (o_quiet8 (Ev.mem (m_appZe rfl rfl Tryz.underlying23 Tryz.underlying23 el_5 rfl)) LEN_ LQ_ rfl) rfl ?_
      | refine s_ev (o_quiet8 (Ev.mem (m_appNB rfl rfl Tryz.underlying23 Tryz.underlying23 el_5 EQL_ (by omega) LEN_)) LEN_ LQ_ rfl) rfl ?_
      | refine s_ev (o_quiet8 (Ev.mem (m_appEB rfl rfl Tryz.underlying23 Tryz.underlying23 el_5 EQL_ (by omega) LEN_)) LEN_ LQ_ rfl) rfl ?_
    first
      | refine s_val (v_assignC rfl) rfl ?_
      | refine s_val (v_assignA rfl) rfl ?_
      | refine s_val (v_assignT rfl) rfl ?_
    refine s_val (v_assignC rfl) rfl ?_
    refine s_nil ?_
    refine S_ ?_
    exact k_2 (by first | exact r_tmpC rfl | exact r_tmpA rfl) (by first | exact r_tmpC rfl | exact r_tmpA rfl) (by first | kernel_rfl | rfl)
end Go.Proofs.YtmbepikkgkcgkaaGreatDoor
namespace Go.Proofs.YtmbepikkgkcgkaaGreatDoor
open Go.RowKit
set_option maxRecDepth 100000 in
set_option maxHeartbeats 1000000 in
theorem bytes_ev (r s : List (BitVec 8)) (o p n c d : Nat) (hr : o + n ≤ r.length) (hs : p + n ≤ s.length) (hn : n ≤ 1099511627776) (he : ∀ i, i < n → nth r (o + i) = nth s (p + i)) :
    Ev Tryz.prog (.call 13 [.c (.sl 0 o n c 1), .c (.sl 1 p n d 1)] [.row false (.a8 r), .row false (.a8 s)]) (.val (.c (.val (.bool true))) [.row false (.a8 r), .row false (.a8 s)]) := by
  refine c_call Tryz.func13 rfl Tryz.ntmps13 rfl LEN_ ?_
  refine S_ ?_
  refine c_region ?_
  refine s_val (v_assignC rfl) rfl ?_
  refine s_nil ?_
  refine S_ ?_
  refine c_region ?_
  first
    | refine s_val (v_moveC rfl) rfl ?_
    | refine s_val (v_moveA rfl) rfl ?_
    | refine s_val (v_moveT rfl) rfl ?_
  first
    | refine s_val (v_lenS rfl Tryz.underlying23) rfl ?_
    | refine s_val (v_lenN rfl Tryz.underlying23) rfl ?_
    | refine s_val (v_lenE rfl Tryz.underlying23) rfl ?_
    | refine s_val (v_lenB rfl Tryz.underlying23 rfl) rfl ?_
    | refine s_val (v_lenZ rfl Tryz.underlying23 rfl) rfl ?_
  first
    | refine s_val (v_moveC rfl) rfl ?_
    | refine s_val (v_moveA rfl) rfl ?_
    | refine s_val (v_moveT rfl) rfl ?_
  first
    | refine s_val (v_lenS rfl Tryz.underlying23) rfl ?_
    | refine s_val (v_lenN rfl Tryz.underlying23) rfl ?_
    | refine s_val (v_lenE rfl Tryz.underlying23) rfl ?_
    | refine s_val (v_lenB rfl Tryz.underlying23 rfl) rfl ?_
    | refine s_val (v_lenZ rfl Tryz.underlying23 rfl) rfl ?_
  first
    | refine s_val (v_neqN rfl rfl) rfl ?_
    | refine s_val (v_neqI rfl rfl) rfl ?_
  refine s_nil ?_
  refine Q_ ?_
  refine c_condF rfl (by simp) ?_
  refine S_ ?_
  refine c_region ?_
  refine s_val (v_assignC rfl) rfl ?_
  refine s_nil ?_
  refine S_ ?_
  refine c_loopC [0, 1, 5] (fun (x : Nat) => ⟨26, keepT [0, 1, 5] [.c (.sl 0 o n c 1), .c (.sl 1 p n d 1), .c (.val (.int .i64 (x)))], [.row false (.a8 (r)), .row false (.a8 (s))]⟩) (fun j => j) (n) (by kernel_rfl) ?_ ?_
  · intro j hj
    refine S_ ?_
    refine c_region ?_
    first
      | refine s_val (v_moveC rfl) rfl ?_
      | refine s_val (v_moveA rfl) rfl ?_
      | refine s_val (v_moveT rfl) rfl ?_
    first
      | refine s_val (v_moveC rfl) rfl ?_
      | refine s_val (v_moveA rfl) rfl ?_
      | refine s_val (v_moveT rfl) rfl ?_
    first
      | refine s_val (v_lenS rfl Tryz.underlying23) rfl ?_
      | refine s_val (v_lenN rfl Tryz.underlying23) rfl ?_
      | refine s_val (v_lenE rfl Tryz.underlying23) rfl ?_
      | refine s_val (v_lenB rfl Tryz.underlying23 rfl) rfl ?_
      | refine s_val (v_lenZ rfl Tryz.underlying23 rfl) rfl ?_
    first
      | refine s_val (v_lssN rfl rfl) rfl ?_
      | refine s_val (v_lssI rfl rfl) rfl ?_
    refine s_nil ?_
    refine S_ ?_
    refine c_draw 9 mixed (by kernel_rfl) rfl rfl rfl ?_
    first
      | refine h_val (v_moveC rfl) rfl ?_
      | refine h_val (v_moveA rfl) rfl ?_
      | refine h_val (v_moveT rfl) rfl ?_
    first
      | refine h_val (v_moveC rfl) rfl ?_
      | refine h_val (v_moveA rfl) rfl ?_
      | refine h_val (v_moveT rfl) rfl ?_
    first
      | refine h_val (v_idxS1 rfl rfl Tryz.underlying23 sz_5 (by omega)) rfl ?_
      | refine h_val (v_idxSo rfl rfl Tryz.underlying23 sz_5 (by omega)) rfl ?_
      | refine h_val (v_idxS rfl rfl Tryz.underlying23 sz_5 (by omega)) rfl ?_
      | refine h_val (v_idxB rfl rfl Tryz.underlying23 sz_5 LT_) rfl ?_
    first
      | refine h_val (v_load8 rfl rfl row_5 LT_) rfl ?_
      | refine h_val (v_loadQ rfl row_5 LT_) rfl ?_
    first
      | refine h_val (v_moveC rfl) rfl ?_
      | refine h_val (v_moveA rfl) rfl ?_
      | refine h_val (v_moveT rfl) rfl ?_
    first
      | refine h_val (v_moveC rfl) rfl ?_
      | refine h_val (v_moveA rfl) rfl ?_
      | refine h_val (v_moveT rfl) rfl ?_
    first
      | refine h_val (v_idxS1 rfl rfl Tryz.underlying23 sz_5 (by omega)) rfl ?_
      | refine h_val (v_idxSo rfl rfl Tryz.underlying23 sz_5 (by omega)) rfl ?_
      | refine h_val (v_idxS rfl rfl Tryz.underlying23 sz_5 (by omega)) rfl ?_
      | refine h_val (v_idxB rfl rfl Tryz.underlying23 sz_5 LT_) rfl ?_
    first
      | refine h_val (v_load8 rfl rfl row_5 LT_) rfl ?_
      | refine h_val (v_loadQ rfl row_5 LT_) rfl ?_
    refine h_val (v_neq8 rfl rfl) rfl ?_
    refine h_nil ?_
    refine s_nil ?_
    refine Q_ ?_
    refine c_condF rfl (by simp [he j hj]) ?_
    refine S_ ?_
    refine c_region ?_
    first
      | refine s_val (v_moveC rfl) rfl ?_
      | refine s_val (v_moveA rfl) rfl ?_
      | refine s_val (v_moveT rfl) rfl ?_
    first
      | refine s_val (v_addN (b := 1) rfl rfl (by omega)) rfl ?_
      | refine s_val (v_addI rfl rfl (by omega)) rfl ?_
    first
      | refine s_val (v_assignC rfl) rfl ?_
      | refine s_val (v_assignA rfl) rfl ?_
      | refine s_val (v_assignT rfl) rfl ?_
    refine s_nil ?_
    exact ⟨_, by kernel_rfl, rfl⟩
  · refine S_ ?_
    refine c_region ?_
    first
      | refine s_val (v_moveC rfl) rfl ?_
      | refine s_val (v_moveA rfl) rfl ?_
      | refine s_val (v_moveT rfl) rfl ?_
    first
      | refine s_val (v_moveC rfl) rfl ?_
      | refine s_val (v_moveA rfl) rfl ?_
      | refine s_val (v_moveT rfl) rfl ?_
    first
      | refine s_val (v_lenS rfl Tryz.underlying23) rfl ?_
      | refine s_val (v_lenN rfl Tryz.underlying23) rfl ?_
      | refine s_val (v_lenE rfl Tryz.underlying23) rfl ?_
      | refine s_val (v_lenB rfl Tryz.underlying23 rfl) rfl ?_
      | refine s_val (v_lenZ rfl Tryz.underlying23 rfl) rfl ?_
    first
      | refine s_val (v_lssN rfl rfl) rfl ?_
      | refine s_val (v_lssI rfl rfl) rfl ?_
    refine s_nil ?_
    refine S_ ?_
    refine c_region ?_
    refine s_val (v_assignC rfl) rfl ?_
    refine s_nil ?_
    refine S_ ?_
    exact k_1 (by first | exact r_tmpC rfl | exact r_tmpA rfl) (by first | kernel_rfl | rfl)
end Go.Proofs.YtmbepikkgkcgkaaGreatDoor
namespace Go.Proofs.YtmbepikkgkcgkaaGreatDoor
open Go.RowKit
theorem keepB_ev (x : List (BitVec 8)) (hx : x.length ≤ 1099511627776) : Ev Tryz.prog (.call 13 [.c (.bs x), .c (.bs x)] []) (.val (.c (.val (.bool true))) []) :=
  Ev.partsB (m := []) (m' := [.row false (.a8 x), .row false (.a8 x)]) (N := []) (N' := []) [none, none] [0, 1] (.no (.no .nil)) (.c (.same rfl) (.c (.same rfl) .nil)) (.bs rfl rfl (.bs rfl rfl .nil)) rfl rfl (bytes_ev x x 0 0 x.length x.length x.length (by omega) (by omega) hx (fun i _ => rfl)) rfl rfl
end Go.Proofs.YtmbepikkgkcgkaaGreatDoor
namespace Go.Proofs.YtmbepikkgkcgkaaGreatDoor
open Go.RowKit
end Go.Proofs.YtmbepikkgkcgkaaGreatDoor
namespace Go.Proofs.YtmbepikkgkcgkaaGreatDoor
open Go.RowKit
theorem extNth {n : Nat} {a b : List (BitVec n)} (hl : a.length = b.length) (h : ∀ i, i < a.length → nth a i = nth b i) : a = b := by
  refine List.ext_getElem hl fun i h1 h2 => ?_
  have := h i h1
  rwa [nth_eq a i h1, nth_eq b i h2] at this
end Go.Proofs.YtmbepikkgkcgkaaGreatDoor
namespace Go.Proofs.YtmbepikkgkcgkaaGreatDoor
open Go.RowKit
def rfQuar_R0 (x : List (BitVec 32)) (a : Nat) (b : Nat) : List (BitVec 32) := put x a ((nth x a) + (nth x b))
@[simp] theorem rfQuar_R0_len (x : List (BitVec 32)) (a : Nat) (b : Nat) : (rfQuar_R0 x a b).length = x.length := by simp [rfQuar_R0]
def rfQuar_R1 (a : Nat) (d : Nat) (X1 : List (BitVec 32)) : List (BitVec 32) := put X1 d (rotl32 ((nth X1 d) ^^^ (nth X1 a)) ((16 : Nat) : Int))
@[simp] theorem rfQuar_R1_len (a : Nat) (d : Nat) (X1 : List (BitVec 32)) : (rfQuar_R1 a d X1).length = X1.length := by simp [rfQuar_R1]
def rfQuar_R2 (c : Nat) (d : Nat) (X2 : List (BitVec 32)) : List (BitVec 32) := put X2 c ((nth X2 c) + (nth X2 d))
@[simp] theorem rfQuar_R2_len (c : Nat) (d : Nat) (X2 : List (BitVec 32)) : (rfQuar_R2 c d X2).length = X2.length := by simp [rfQuar_R2]
def rfQuar_R3 (b : Nat) (c : Nat) (X3 : List (BitVec 32)) : List (BitVec 32) := put X3 b (rotl32 ((nth X3 b) ^^^ (nth X3 c)) ((12 : Nat) : Int))
@[simp] theorem rfQuar_R3_len (b : Nat) (c : Nat) (X3 : List (BitVec 32)) : (rfQuar_R3 b c X3).length = X3.length := by simp [rfQuar_R3]
def rfQuar_R4 (a : Nat) (b : Nat) (X4 : List (BitVec 32)) : List (BitVec 32) := put X4 a ((nth X4 a) + (nth X4 b))
@[simp] theorem rfQuar_R4_len (a : Nat) (b : Nat) (X4 : List (BitVec 32)) : (rfQuar_R4 a b X4).length = X4.length := by simp [rfQuar_R4]
def rfQuar_R5 (a : Nat) (d : Nat) (X5 : List (BitVec 32)) : List (BitVec 32) := put X5 d (rotl32 ((nth X5 d) ^^^ (nth X5 a)) ((8 : Nat) : Int))
@[simp] theorem rfQuar_R5_len (a : Nat) (d : Nat) (X5 : List (BitVec 32)) : (rfQuar_R5 a d X5).length = X5.length := by simp [rfQuar_R5]
def rfQuar_R6 (c : Nat) (d : Nat) (X6 : List (BitVec 32)) : List (BitVec 32) := put X6 c ((nth X6 c) + (nth X6 d))
@[simp] theorem rfQuar_R6_len (c : Nat) (d : Nat) (X6 : List (BitVec 32)) : (rfQuar_R6 c d X6).length = X6.length := by simp [rfQuar_R6]
def rfQuar_R7 (b : Nat) (c : Nat) (X7 : List (BitVec 32)) : List (BitVec 32) := put X7 b (rotl32 ((nth X7 b) ^^^ (nth X7 c)) ((7 : Nat) : Int))
@[simp] theorem rfQuar_R7_len (b : Nat) (c : Nat) (X7 : List (BitVec 32)) : (rfQuar_R7 b c X7).length = X7.length := by simp [rfQuar_R7]
def rfQuar (x : List (BitVec 32)) (a : Nat) (b : Nat) (c : Nat) (d : Nat) : List (BitVec 32) := (rfQuar_R7 b c (rfQuar_R6 c d (rfQuar_R5 a d (rfQuar_R4 a b (rfQuar_R3 b c (rfQuar_R2 c d (rfQuar_R1 a d (rfQuar_R0 x a b))))))))
@[simp] theorem rfQuar_len (x : List (BitVec 32)) (a : Nat) (b : Nat) (c : Nat) (d : Nat) : (rfQuar x a b c d).length = x.length := by
  unfold rfQuar
  first | (simp [rfQuar_R0_len, rfQuar_R1_len, rfQuar_R2_len, rfQuar_R3_len, rfQuar_R4_len, rfQuar_R5_len, rfQuar_R6_len, rfQuar_R7_len, *]; done) | (simp [rfQuar_R0_len, rfQuar_R1_len, rfQuar_R2_len, rfQuar_R3_len, rfQuar_R4_len, rfQuar_R5_len, rfQuar_R6_len, rfQuar_R7_len, *]; omega)
attribute [irreducible] rfQuar
end Go.Proofs.YtmbepikkgkcgkaaGreatDoor
namespace Go.Proofs.YtmbepikkgkcgkaaGreatDoor
open Go.RowKit
def rfLe32 (b : List (BitVec 8)) (o : Nat) : BitVec 32 := ((((nth b o).setWidth 32) ||| (((nth b (o + 1)).setWidth 32) <<< 8)) ||| (((nth b (o + 2)).setWidth 32) <<< 16)) ||| (((nth b (o + 3)).setWidth 32) <<< 24)
attribute [irreducible] rfLe32
def rfBlock_L3_S (key : List (BitVec 8)) (X1 : List (BitVec 32)) (j3 : Nat) : List (BitVec 32) := put X1 (4 + j3) (rfLe32 key (4 * j3))
def rfBlock_L3 (key : List (BitVec 8)) : Nat → List (BitVec 32)
  | 0 => put (put (put (put (zer32 16) 0 1634760805#32) 1 857760878#32) 2 2036477234#32) 3 1797285236#32
  | j3 + 1 => rfBlock_L3_S key (rfBlock_L3 key j3) j3
@[simp] theorem rfBlock_L3_len (key : List (BitVec 8)) (j3 : Nat) : (rfBlock_L3 key j3).length = 16 := by
  induction j3 with
  | zero => first | (simp [rfBlock_L3, *]; done) | (simp [rfBlock_L3, *]; omega)
  | succ j3 ih => rw [rfBlock_L3.eq_2, rfBlock_L3_S]; first | (simp [ih]; done) | (simp [ih]; omega) | (simp [*]; done) | (simp [*]; omega) | (split <;> first | (simp [ih]; done) | (simp [ih]; omega) | (simp [*]; done))
def rfBlock_L8_S (nonce : List (BitVec 8)) (X3 : List (BitVec 32)) (j8 : Nat) : List (BitVec 32) := put X3 (13 + j8) (rfLe32 nonce (4 * j8))
def rfBlock_L8 (counter : BitVec 32) (nonce : List (BitVec 8)) (Y2 : List (BitVec 32)) : Nat → List (BitVec 32)
  | 0 => put Y2 12 counter
  | j8 + 1 => rfBlock_L8_S nonce (rfBlock_L8 counter nonce Y2 j8) j8
theorem rfBlock_L8_len (counter : BitVec 32) (nonce : List (BitVec 8)) (Y2 : List (BitVec 32)) (hY2 : Y2.length = 16) (j8 : Nat) : (rfBlock_L8 counter nonce Y2 j8).length = 16 := by
  induction j8 with
  | zero => first | (simp [rfBlock_L8, *]; done) | (simp [rfBlock_L8, *]; omega)
  | succ j8 ih => rw [rfBlock_L8.eq_2, rfBlock_L8_S]; first | (simp [ih]; done) | (simp [ih]; omega) | (simp [rfBlock_L3_len, *]; done) | (simp [rfBlock_L3_len, *]; omega) | (split <;> first | (simp [ih]; done) | (simp [ih]; omega) | (simp [rfBlock_L3_len, *]; done))
def rfBlock_L16_S (X6 : List (BitVec 32)) (j16 : Nat) : List (BitVec 32) := rfQuar X6 j16 (4 + j16) (8 + j16) (12 + j16)
def rfBlock_L16 (X5 : List (BitVec 32)) : Nat → List (BitVec 32)
  | 0 => X5
  | j16 + 1 => rfBlock_L16_S (rfBlock_L16 X5 j16) j16
theorem rfBlock_L16_len (X5 : List (BitVec 32)) (hX5 : X5.length = 16) (j16 : Nat) : (rfBlock_L16 X5 j16).length = 16 := by
  induction j16 with
  | zero => first | (simp [rfBlock_L16, *]; done) | (simp [rfBlock_L16, *]; omega)
  | succ j16 ih => rw [rfBlock_L16.eq_2, rfBlock_L16_S]; first | (simp [ih]; done) | (simp [ih]; omega) | (simp [rfBlock_L3_len, rfBlock_L8_len, *]; done) | (simp [rfBlock_L3_len, rfBlock_L8_len, *]; omega) | (split <;> first | (simp [ih]; done) | (simp [ih]; omega) | (simp [rfBlock_L3_len, rfBlock_L8_len, *]; done))
def rfBlock_L20_S (X8 : List (BitVec 32)) (j20 : Nat) : List (BitVec 32) := rfQuar X8 j20 (4 + ((j20 + 1) % 4)) (8 + ((j20 + 2) % 4)) (12 + ((j20 + 3) % 4))
def rfBlock_L20 (Y7 : List (BitVec 32)) : Nat → List (BitVec 32)
  | 0 => Y7
  | j20 + 1 => rfBlock_L20_S (rfBlock_L20 Y7 j20) j20
theorem rfBlock_L20_len (Y7 : List (BitVec 32)) (hY7 : Y7.length = 16) (j20 : Nat) : (rfBlock_L20 Y7 j20).length = 16 := by
  induction j20 with
  | zero => first | (simp [rfBlock_L20, *]; done) | (simp [rfBlock_L20, *]; omega)
  | succ j20 ih => rw [rfBlock_L20.eq_2, rfBlock_L20_S]; first | (simp [ih]; done) | (simp [ih]; omega) | (simp [rfBlock_L3_len, rfBlock_L8_len, rfBlock_L16_len, *]; done) | (simp [rfBlock_L3_len, rfBlock_L8_len, rfBlock_L16_len, *]; omega) | (split <;> first | (simp [ih]; done) | (simp [ih]; omega) | (simp [rfBlock_L3_len, rfBlock_L8_len, rfBlock_L16_len, *]; done))
def rfBlock_L13_S (X5 : List (BitVec 32)) : List (BitVec 32) := (rfBlock_L20 (rfBlock_L16 X5 4) 4)
def rfBlock_L13 (Y4 : List (BitVec 32)) : Nat → List (BitVec 32)
  | 0 => Y4
  | j13 + 1 => rfBlock_L13_S (rfBlock_L13 Y4 j13)
theorem rfBlock_L13_len (Y4 : List (BitVec 32)) (hY4 : Y4.length = 16) (j13 : Nat) : (rfBlock_L13 Y4 j13).length = 16 := by
  induction j13 with
  | zero => first | (simp [rfBlock_L13, *]; done) | (simp [rfBlock_L13, *]; omega)
  | succ j13 ih => rw [rfBlock_L13.eq_2, rfBlock_L13_S]; first | (simp [ih]; done) | (simp [ih]; omega) | (simp [rfBlock_L16_len, rfBlock_L20_len, *]; done) | (simp [rfBlock_L3_len, rfBlock_L8_len, rfBlock_L16_len, rfBlock_L20_len, *]; omega) | (split <;> first | (simp [ih]; done) | (simp [ih]; omega) | (simp [rfBlock_L3_len, rfBlock_L8_len, rfBlock_L16_len, rfBlock_L20_len, *]; done))
def rfBlock_L25_S (Y4 : List (BitVec 32)) (Y12 : List (BitVec 32)) (X13 : List (BitVec 8)) (j25 : Nat) : List (BitVec 8) := put X13 j25 ((((nth Y12 (j25 / 4)) + (nth Y4 (j25 / 4))) >>> (BitVec.ofNat 64 (8 * (j25 % 4))).toNat).setWidth 8)
def rfBlock_L25 (Y4 : List (BitVec 32)) (Y12 : List (BitVec 32)) : Nat → List (BitVec 8)
  | 0 => zer8 64
  | j25 + 1 => rfBlock_L25_S Y4 Y12 (rfBlock_L25 Y4 Y12 j25) j25
@[simp] theorem rfBlock_L25_len (Y4 : List (BitVec 32)) (Y12 : List (BitVec 32)) (j25 : Nat) : (rfBlock_L25 Y4 Y12 j25).length = 64 := by
  induction j25 with
  | zero => first | (simp [rfBlock_L25, *]; done) | (simp [rfBlock_L25, *]; omega)
  | succ j25 ih => rw [rfBlock_L25.eq_2, rfBlock_L25_S]; first | (simp [ih]; done) | (simp [ih]; omega) | (simp [rfBlock_L3_len, rfBlock_L8_len, rfBlock_L16_len, rfBlock_L20_len, rfBlock_L13_len, *]; done) | (simp [rfBlock_L3_len, rfBlock_L8_len, rfBlock_L16_len, rfBlock_L20_len, rfBlock_L13_len, *]; omega) | (split <;> first | (simp [ih]; done) | (simp [ih]; omega) | (simp [rfBlock_L3_len, rfBlock_L8_len, rfBlock_L16_len, rfBlock_L20_len, rfBlock_L13_len, *]; done))
def rfBlock (key : List (BitVec 8)) (counter : BitVec 32) (nonce : List (BitVec 8)) : List (BitVec 8) := (rfBlock_L25 (rfBlock_L8 counter nonce (rfBlock_L3 key 8) 3) (rfBlock_L13 (rfBlock_L8 counter nonce (rfBlock_L3 key 8) 3) 10) 64)
@[simp] theorem rfBlock_len (key : List (BitVec 8)) (counter : BitVec 32) (nonce : List (BitVec 8)) (_hkey : key.length = 32) (_hnonce : nonce.length = 12) : (rfBlock key counter nonce).length = 64 := by
  unfold rfBlock
  first | (simp [rfBlock_L25_len, *]; done) | (simp [rfBlock_L3_len, rfBlock_L8_len, rfBlock_L16_len, rfBlock_L20_len, rfBlock_L13_len, rfBlock_L25_len, *]; omega)
attribute [irreducible] rfBlock
end Go.Proofs.YtmbepikkgkcgkaaGreatDoor
namespace Go.Proofs.YtmbepikkgkcgkaaGreatDoor
open Go.RowKit
def rfXor_L8_S (key : List (BitVec 8)) (nonce : List (BitVec 8)) (t : List (BitVec 8)) (X1 : BitVec 32) (j3 : Nat) (X4 : List (BitVec 8)) (j8 : Nat) : List (BitVec 8) := X4 ++ [(nth t ((64 * j3) + j8)) ^^^ (nth (rfBlock key X1 nonce) j8)]
def rfXor_L8 (key : List (BitVec 8)) (nonce : List (BitVec 8)) (t : List (BitVec 8)) (X1 : BitVec 32) (X2 : List (BitVec 8)) (j3 : Nat) : Nat → List (BitVec 8)
  | 0 => X2
  | j8 + 1 => rfXor_L8_S key nonce t X1 j3 (rfXor_L8 key nonce t X1 X2 j3 j8) j8
theorem rfXor_L8_len (key : List (BitVec 8)) (nonce : List (BitVec 8)) (t : List (BitVec 8)) (X1 : BitVec 32) (X2 : List (BitVec 8)) (j3 : Nat) (_hkey : key.length = 32) (_hnonce : nonce.length = 12) (j8 : Nat) : (rfXor_L8 key nonce t X1 X2 j3 j8).length = X2.length + j8 := by
  induction j8 with
  | zero => first | (simp [rfXor_L8, *]; done) | (simp [rfXor_L8, *]; omega)
  | succ j8 ih => rw [rfXor_L8.eq_2, rfXor_L8_S]; first | (simp [ih]; done) | (simp [ih]; omega) | (simp [*]; done) | (simp [*]; omega) | (split <;> first | (simp [ih]; done) | (simp [ih]; omega) | (simp [*]; done))
def rfXor_L3_S (key : List (BitVec 8)) (nonce : List (BitVec 8)) (t : List (BitVec 8)) (X1 : BitVec 32) (X2 : List (BitVec 8)) (j3 : Nat) : BitVec 32 × List (BitVec 8) := (X1 + 1#32, (rfXor_L8 key nonce t X1 X2 j3 (min 64 (t.length - 64 * j3))))
def rfXor_L3 (key : List (BitVec 8)) (counter : BitVec 32) (nonce : List (BitVec 8)) (t : List (BitVec 8)) : Nat → BitVec 32 × List (BitVec 8)
  | 0 => (counter, [])
  | j3 + 1 => rfXor_L3_S key nonce t (rfXor_L3 key counter nonce t j3).1 (rfXor_L3 key counter nonce t j3).2 j3
theorem rfXor_L3_len1 (key : List (BitVec 8)) (counter : BitVec 32) (nonce : List (BitVec 8)) (t : List (BitVec 8)) (hkey : key.length = 32) (hnonce : nonce.length = 12) (j3 : Nat) : (rfXor_L3 key counter nonce t j3).2.length = min (64 * j3) t.length := by
  induction j3 with
  | zero => first | (simp [rfXor_L3, *]; done) | (simp [rfXor_L3, *]; omega)
  | succ j3 ih => rw [rfXor_L3.eq_2, rfXor_L3_S]; first | (simp; done) | (simp; omega) | (simp [rfXor_L8_len, *]; done) | (simp [rfXor_L8_len, *]; omega) | (split <;> first | (simp [ih]; done) | (simp [ih]; omega) | (simp [rfXor_L8_len, *]; done))
def rfXor (key : List (BitVec 8)) (counter : BitVec 32) (nonce : List (BitVec 8)) (t : List (BitVec 8)) : List (BitVec 8) := ((rfXor_L3 key counter nonce t ((t.length + 63) / 64)).2)
@[simp] theorem rfXor_len (key : List (BitVec 8)) (counter : BitVec 32) (nonce : List (BitVec 8)) (t : List (BitVec 8)) (hkey : key.length = 32) (hnonce : nonce.length = 12) : (rfXor key counter nonce t).length = t.length := by
  unfold rfXor
  first | (simp [rfXor_L3_len1, *]; done) | (simp [rfXor_L3_len1, *]; omega)
attribute [irreducible] rfXor
end Go.Proofs.YtmbepikkgkcgkaaGreatDoor
