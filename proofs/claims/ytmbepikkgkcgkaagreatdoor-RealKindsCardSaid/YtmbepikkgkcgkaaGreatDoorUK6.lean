/- The texts CBlock, CXor, PLow, PWord, PCarry, PTimes, PTagEnd, PTag, ATag, AWork, ASeal, AOpen, SNum, SPad, SSum256, SRfPad, SRfK, merged into one. -/
import Derived.Test.YtmbepikkgkcgkaaGreatDoorUK5
namespace Go.Proofs.YtmbepikkgkcgkaaGreatDoor
open Go.RowKit
def chBlock_L3_S (key : List (BitVec 8)) (X1 : List (BitVec 32)) (j3 : Nat) : List (BitVec 32) := put X1 (4 + j3) ((chLow key (4 * j3) (((4 * j3) + 4) - (4 * j3))).setWidth 32)
def chBlock_L3 (key : List (BitVec 8)) : Nat → List (BitVec 32)
  | 0 => put (put (put (put (zer32 16) 0 1634760805#32) 1 857760878#32) 2 2036477234#32) 3 1797285236#32
  | j3 + 1 => chBlock_L3_S key (chBlock_L3 key j3) j3
@[simp] theorem chBlock_L3_len (key : List (BitVec 8)) (j3 : Nat) : (chBlock_L3 key j3).length = 16 := by
  induction j3 with
  | zero => first | (simp [chBlock_L3, *]; done) | (simp [chBlock_L3, *]; omega)
  | succ j3 ih => rw [chBlock_L3.eq_2, chBlock_L3_S]; first | (simp [ih]; done) | (simp [ih]; omega) | (simp [*]; done) | (simp [*]; omega) | (split <;> first | (simp [ih]; done) | (simp [ih]; omega) | (simp [*]; done))
def chBlock_L9_S (nonce : List (BitVec 8)) (X3 : List (BitVec 32)) (j9 : Nat) : List (BitVec 32) := put X3 (13 + j9) ((chLow nonce (4 * j9) (((4 * j9) + 4) - (4 * j9))).setWidth 32)
def chBlock_L9 (counter : BitVec 32) (nonce : List (BitVec 8)) (Y2 : List (BitVec 32)) : Nat → List (BitVec 32)
  | 0 => put Y2 12 counter
  | j9 + 1 => chBlock_L9_S nonce (chBlock_L9 counter nonce Y2 j9) j9
theorem chBlock_L9_len (counter : BitVec 32) (nonce : List (BitVec 8)) (Y2 : List (BitVec 32)) (hY2 : Y2.length = 16) (j9 : Nat) : (chBlock_L9 counter nonce Y2 j9).length = 16 := by
  induction j9 with
  | zero => first | (simp [chBlock_L9, *]; done) | (simp [chBlock_L9, *]; omega)
  | succ j9 ih => rw [chBlock_L9.eq_2, chBlock_L9_S]; first | (simp [ih]; done) | (simp [ih]; omega) | (simp [chBlock_L3_len, *]; done) | (simp [chBlock_L3_len, *]; omega) | (split <;> first | (simp [ih]; done) | (simp [ih]; omega) | (simp [chBlock_L3_len, *]; done))
def chBlock_L15_S (X5 : List (BitVec 32)) : List (BitVec 32) := quar (quar (quar (quar (quar (quar (quar (quar X5 0 4 8 12) 1 5 9 13) 2 6 10 14) 3 7 11 15) 0 5 10 15) 1 6 11 12) 2 7 8 13) 3 4 9 14
def chBlock_L15 (Y4 : List (BitVec 32)) : Nat → List (BitVec 32)
  | 0 => Y4
  | j15 + 1 => chBlock_L15_S (chBlock_L15 Y4 j15)
theorem chBlock_L15_len (Y4 : List (BitVec 32)) (hY4 : Y4.length = 16) (j15 : Nat) : (chBlock_L15 Y4 j15).length = 16 := by
  induction j15 with
  | zero => first | (simp [chBlock_L15, *]; done) | (simp [chBlock_L15, *]; omega)
  | succ j15 ih => rw [chBlock_L15.eq_2, chBlock_L15_S]; first | (simp [ih]; done) | (simp [ih]; omega) | (simp [chBlock_L3_len, chBlock_L9_len, *]; done) | (simp [chBlock_L3_len, chBlock_L9_len, *]; omega) | (split <;> first | (simp [ih]; done) | (simp [ih]; omega) | (simp [chBlock_L3_len, chBlock_L9_len, *]; done))
def chBlock_L27_S (Y4 : List (BitVec 32)) (Y14 : List (BitVec 32)) (X15 : List (BitVec 8)) (j27 : Nat) : List (BitVec 8) := put X15 j27 ((((nth Y14 (j27 / 4)) + (nth Y4 (j27 / 4))) >>> (8 * (j27 % 4))).setWidth 8)
def chBlock_L27 (Y4 : List (BitVec 32)) (Y14 : List (BitVec 32)) : Nat → List (BitVec 8)
  | 0 => zer8 64
  | j27 + 1 => chBlock_L27_S Y4 Y14 (chBlock_L27 Y4 Y14 j27) j27
@[simp] theorem chBlock_L27_len (Y4 : List (BitVec 32)) (Y14 : List (BitVec 32)) (j27 : Nat) : (chBlock_L27 Y4 Y14 j27).length = 64 := by
  induction j27 with
  | zero => first | (simp [chBlock_L27, *]; done) | (simp [chBlock_L27, *]; omega)
  | succ j27 ih => rw [chBlock_L27.eq_2, chBlock_L27_S]; first | (simp [ih]; done) | (simp [ih]; omega) | (simp [chBlock_L3_len, chBlock_L9_len, chBlock_L15_len, *]; done) | (simp [chBlock_L3_len, chBlock_L9_len, chBlock_L15_len, *]; omega) | (split <;> first | (simp [ih]; done) | (simp [ih]; omega) | (simp [chBlock_L3_len, chBlock_L9_len, chBlock_L15_len, *]; done))
def chBlock (key : List (BitVec 8)) (counter : BitVec 32) (nonce : List (BitVec 8)) : List (BitVec 8) := (chBlock_L27 (chBlock_L9 counter nonce (chBlock_L3 key 8) 3) (chBlock_L15 (chBlock_L9 counter nonce (chBlock_L3 key 8) 3) 10) 64)
set_option maxRecDepth 100000 in
set_option maxHeartbeats 2000000 in
theorem chBlock_ev (key : List (BitVec 8)) (counter : BitVec 32) (nonce : List (BitVec 8)) (hkey : key.length = 32) (hnonce : nonce.length = 12) : Ev Tryz.prog (.call 109 [.agg (.a8 (key)), .c (.val (U32 counter)), .agg (.a8 (nonce))] []) (.val (.agg (.a8 (chBlock key counter nonce))) []) := by
  have hP : Hid (chBlock key counter nonce = (chBlock_L27 (chBlock_L9 counter nonce (chBlock_L3 key 8) 3) (chBlock_L15 (chBlock_L9 counter nonce (chBlock_L3 key 8) 3) 10) 64)) := ⟨rfl⟩
  refine c_call Tryz.func109 rfl Tryz.ntmps109 rfl LEN_ ?_
  refine S_ ?_
  refine c_region ?_
  refine s_memN (m_box BX_ LEN_) APP_ rfl ?_
  refine s_memN (m_box BX_ LEN_) APP_ rfl ?_
  refine s_memN (m_alloc al_105 LEN_) APP_ rfl ?_
  refine s_nil ?_
  refine S_ ?_
  refine c_region ?_
  refine s_val (v_blf32 (l := (put (put (put (put (zer32 16) 0 (1634760805#32)) 1 (857760878#32)) 2 (2036477234#32)) 3 (1797285236#32))) za_181 Tryz.underlying181 sz_106 rfl rfl) rfl ?_
  refine s_memN (m_alloc al_181 LEN_) APP_ rfl ?_
  refine s_storeR rfl rfl rfl rfl sz_181 EQ_ EQ_ SET_ ?_
  refine s_nil ?_
  refine S_ ?_
  refine c_region ?_
  refine s_val (v_moveC rfl) rfl ?_
  refine s_nil ?_
  refine S_ ?_
  refine c_loopC [1, 3, 5, 6, 7, 14] (fun (zz : Nat × List (BitVec 32)) => ⟨79, keepT [1, 3, 5, 6, 7, 14] [.c (.val (U32 (counter))), .c (.ptr 0 0), .c (.ptr 1 0), .c (.ptr 2 0), .c (.ptr 3 0), .c (.val (.int .i64 (((zz.1 : Nat) : Int))))], [.row true (.a8 (key)), .row true (.a8 (nonce)), .row true (.a8 (zer8 64)), .row true (.a32 (zz.2))]⟩) (fun j3 => (j3, chBlock_L3 key j3)) (8) (by kernel_rfl) ?_ ?_
  · intro j3 hj3
    try dsimp only
    have hX1 : (chBlock_L3 key j3).length = 16 := by rw [chBlock_L3_len key _]; try omega
    rw [chBlock_L3.eq_2, chBlock_L3_S]
    generalize chBlock_L3 key j3 = X1 at *
    refine S_ ?_
    refine c_region ?_
    refine s_val (v_lssN (b := 8) rfl rfl) rfl ?_
    refine s_nil ?_
    refine S_ ?_
    refine c_region ?_
    refine s_val (v_moveC rfl) rfl ?_
    refine s_val (v_assignC rfl) rfl ?_
    refine s_nil ?_
    refine S_ ?_
    refine c_region ?_
    refine s_val (v_moveC rfl) rfl ?_
    refine s_val (v_addN (a := 4) rfl rfl (by omega)) rfl ?_
    refine s_val (v_moveC rfl) rfl ?_
    refine s_val (v_mulN (a := 4) rfl rfl (by omega)) rfl ?_
    refine s_val (v_moveC rfl) rfl ?_
    refine s_val (v_mulN (a := 4) rfl rfl (by omega)) rfl ?_
    refine s_val (v_addN (b := 4) rfl rfl (by omega)) rfl ?_
    refine s_val (v_slA1 rfl Tryz.underlying37 sz_5 rfl rfl rfl (by omega) (by omega) FIT_ rfl rfl) rfl ?_
    refine s_evN (e_callR (bs := [0]) (chLow_ev key (4 * j3) (((4 * j3) + 4) - (4 * j3)) (32 - (4 * j3)) HYP_ HYP_) ok_148 (by kernel_rfl) (by kernel_rfl) rfl VAL_) APP_ rfl ?_
    refine s_val (v_conv rfl Tryz.underlying70 Tryz.underlying106 (w64_32 _)) rfl ?_
    refine s_val (v_idxA1 rfl rfl Tryz.underlying181 sz_106 (by omega)) rfl ?_
    refine s_store32 rfl rfl rfl sz_106 LT_ SET_ ?_
    refine s_nil ?_
    refine S_ ?_
    refine c_region ?_
    refine s_val (v_addN (b := 1) rfl rfl (by omega)) rfl ?_
    refine s_val (v_moveC rfl) rfl ?_
    refine s_nil ?_
    exact ⟨(j3 + 1, _), by kernel_rfl, rfl⟩
  · try dsimp only
    have hY2 : (chBlock_L3 key 8).length = 16 := by rw [chBlock_L3_len key _]; try omega
    generalize chBlock_L3 key 8 = Y2 at *
    refine S_ ?_
    refine c_region ?_
    refine s_val (v_lssN (a := 8) (b := 8) rfl rfl) rfl ?_
    refine s_nil ?_
    refine S_ ?_
    refine c_region ?_
    refine s_val (v_moveC rfl) rfl ?_
    refine s_val (v_idxA1 (j := 12) rfl rfl Tryz.underlying181 sz_106 (by omega)) rfl ?_
    refine s_store32 rfl rfl rfl sz_106 LT_ SET_ ?_
    refine s_nil ?_
    refine S_ ?_
    refine c_region ?_
    refine s_val (v_moveC rfl) rfl ?_
    refine s_nil ?_
    refine S_ ?_
    refine c_loopC [5, 6, 7, 31] (fun (zz : Nat × List (BitVec 32)) => ⟨79, keepT [5, 6, 7, 31] [.c (.ptr 0 0), .c (.ptr 1 0), .c (.ptr 2 0), .c (.val (.int .i64 (((zz.1 : Nat) : Int))))], [.row true (.a8 (nonce)), .row true (.a8 (zer8 64)), .row true (.a32 (zz.2))]⟩) (fun j9 => (j9, chBlock_L9 counter nonce Y2 j9)) (3) (by kernel_rfl) ?_ ?_
    · intro j9 hj9
      try dsimp only
      have hX3 : (chBlock_L9 counter nonce Y2 j9).length = 16 := by rw [chBlock_L9_len counter nonce Y2 hY2 _]; try omega
      rw [chBlock_L9.eq_2, chBlock_L9_S]
      generalize chBlock_L9 counter nonce Y2 j9 = X3 at *
      refine S_ ?_
      refine c_region ?_
      refine s_val (v_lssN (b := 3) rfl rfl) rfl ?_
      refine s_nil ?_
      refine S_ ?_
      refine c_region ?_
      refine s_val (v_moveC rfl) rfl ?_
      refine s_val (v_assignC rfl) rfl ?_
      refine s_nil ?_
      refine S_ ?_
      refine c_region ?_
      refine s_val (v_moveC rfl) rfl ?_
      refine s_val (v_addN (a := 13) rfl rfl (by omega)) rfl ?_
      refine s_val (v_moveC rfl) rfl ?_
      refine s_val (v_mulN (a := 4) rfl rfl (by omega)) rfl ?_
      refine s_val (v_moveC rfl) rfl ?_
      refine s_val (v_mulN (a := 4) rfl rfl (by omega)) rfl ?_
      refine s_val (v_addN (b := 4) rfl rfl (by omega)) rfl ?_
      refine s_val (v_slA1 rfl Tryz.underlying98 sz_5 rfl rfl rfl (by omega) (by omega) FIT_ rfl rfl) rfl ?_
      refine s_evN (e_callR (bs := [0]) (chLow_ev nonce (4 * j9) (((4 * j9) + 4) - (4 * j9)) (12 - (4 * j9)) HYP_ HYP_) ok_148 (by kernel_rfl) (by kernel_rfl) rfl VAL_) APP_ rfl ?_
      refine s_val (v_conv rfl Tryz.underlying70 Tryz.underlying106 (w64_32 _)) rfl ?_
      refine s_val (v_idxA1 rfl rfl Tryz.underlying181 sz_106 (by omega)) rfl ?_
      refine s_store32 rfl rfl rfl sz_106 LT_ SET_ ?_
      refine s_nil ?_
      refine S_ ?_
      refine c_region ?_
      refine s_val (v_addN (b := 1) rfl rfl (by omega)) rfl ?_
      refine s_val (v_moveC rfl) rfl ?_
      refine s_nil ?_
      exact ⟨(j9 + 1, _), by kernel_rfl, rfl⟩
    · try dsimp only
      have hY4 : (chBlock_L9 counter nonce Y2 3).length = 16 := by rw [chBlock_L9_len counter nonce Y2 hY2 _]; try omega
      generalize chBlock_L9 counter nonce Y2 3 = Y4 at *
      refine S_ ?_
      refine c_region ?_
      refine s_val (v_lssN (a := 3) (b := 3) rfl rfl) rfl ?_
      refine s_nil ?_
      refine S_ ?_
      refine c_region ?_
      refine s_val (v_loadR rfl rfl row_181 sz_181 EQ_ (by decide)) rfl ?_
      refine s_memN (m_alloc al_181 LEN_) APP_ rfl ?_
      refine s_storeR rfl rfl rfl rfl sz_181 EQ_ EQ_ SET_ ?_
      refine s_nil ?_
      refine S_ ?_
      refine c_region ?_
      refine s_val (v_moveC rfl) rfl ?_
      refine s_nil ?_
      refine S_ ?_
      refine c_loopC [6, 7, 10, 47] (fun (zz : Nat × List (BitVec 32)) => ⟨79, keepT [6, 7, 10, 47] [.c (.ptr 0 0), .c (.ptr 1 0), .c (.ptr 2 0), .c (.val (.int .i64 (((zz.1 : Nat) : Int))))], [.row true (.a8 (zer8 64)), .row true (.a32 (Y4)), .row true (.a32 (zz.2))]⟩) (fun j15 => (j15, chBlock_L15 Y4 j15)) (10) (by kernel_rfl) ?_ ?_
      · intro j15 hj15
        try dsimp only
        have hX5 : (chBlock_L15 Y4 j15).length = 16 := by rw [chBlock_L15_len Y4 hY4 _]; try omega
        rw [chBlock_L15.eq_2, chBlock_L15_S]
        generalize chBlock_L15 Y4 j15 = X5 at *
        refine S_ ?_
        refine c_region ?_
        refine s_val (v_lssN (b := 10) rfl rfl) rfl ?_
        refine s_nil ?_
        have hQ6 : (quar X5 0 4 8 12).length = 16 := LQ_
        refine S_ ?_
        refine c_region ?_
        refine s_ev (e_callK (bs := [2]) (quar_ev X5 0 4 8 12 HYP_ HYP_ HYP_ HYP_ HYP_ HYP_ HYP_ HYP_ HYP_) ok_149 (by kernel_rfl) rfl rfl VAL_ APP_) rfl ?_
        refine s_nil ?_
        have hQ7 : (quar (quar X5 0 4 8 12) 1 5 9 13).length = 16 := LQ_
        refine S_ ?_
        refine c_region ?_
        refine s_ev (e_callK (bs := [2]) (quar_ev (quar X5 0 4 8 12) 1 5 9 13 HYP_ HYP_ HYP_ HYP_ HYP_ HYP_ HYP_ HYP_ HYP_) ok_149 (by kernel_rfl) rfl rfl VAL_ APP_) rfl ?_
        refine s_nil ?_
        have hQ8 : (quar (quar (quar X5 0 4 8 12) 1 5 9 13) 2 6 10 14).length = 16 := LQ_
        refine S_ ?_
        refine c_region ?_
        refine s_ev (e_callK (bs := [2]) (quar_ev (quar (quar X5 0 4 8 12) 1 5 9 13) 2 6 10 14 HYP_ HYP_ HYP_ HYP_ HYP_ HYP_ HYP_ HYP_ HYP_) ok_149 (by kernel_rfl) rfl rfl VAL_ APP_) rfl ?_
        refine s_nil ?_
        have hQ9 : (quar (quar (quar (quar X5 0 4 8 12) 1 5 9 13) 2 6 10 14) 3 7 11 15).length = 16 := LQ_
        refine S_ ?_
        refine c_region ?_
        refine s_ev (e_callK (bs := [2]) (quar_ev (quar (quar (quar X5 0 4 8 12) 1 5 9 13) 2 6 10 14) 3 7 11 15 HYP_ HYP_ HYP_ HYP_ HYP_ HYP_ HYP_ HYP_ HYP_) ok_149 (by kernel_rfl) rfl rfl VAL_ APP_) rfl ?_
        refine s_nil ?_
        have hQ10 : (quar (quar (quar (quar (quar X5 0 4 8 12) 1 5 9 13) 2 6 10 14) 3 7 11 15) 0 5 10 15).length = 16 := LQ_
        refine S_ ?_
        refine c_region ?_
        refine s_ev (e_callK (bs := [2]) (quar_ev (quar (quar (quar (quar X5 0 4 8 12) 1 5 9 13) 2 6 10 14) 3 7 11 15) 0 5 10 15 HYP_ HYP_ HYP_ HYP_ HYP_ HYP_ HYP_ HYP_ HYP_) ok_149 (by kernel_rfl) rfl rfl VAL_ APP_) rfl ?_
        refine s_nil ?_
        have hQ11 : (quar (quar (quar (quar (quar (quar X5 0 4 8 12) 1 5 9 13) 2 6 10 14) 3 7 11 15) 0 5 10 15) 1 6 11 12).length = 16 := LQ_
        refine S_ ?_
        refine c_region ?_
        refine s_ev (e_callK (bs := [2]) (quar_ev (quar (quar (quar (quar (quar X5 0 4 8 12) 1 5 9 13) 2 6 10 14) 3 7 11 15) 0 5 10 15) 1 6 11 12 HYP_ HYP_ HYP_ HYP_ HYP_ HYP_ HYP_ HYP_ HYP_) ok_149 (by kernel_rfl) rfl rfl VAL_ APP_) rfl ?_
        refine s_nil ?_
        have hQ12 : (quar (quar (quar (quar (quar (quar (quar X5 0 4 8 12) 1 5 9 13) 2 6 10 14) 3 7 11 15) 0 5 10 15) 1 6 11 12) 2 7 8 13).length = 16 := LQ_
        refine S_ ?_
        refine c_region ?_
        refine s_ev (e_callK (bs := [2]) (quar_ev (quar (quar (quar (quar (quar (quar X5 0 4 8 12) 1 5 9 13) 2 6 10 14) 3 7 11 15) 0 5 10 15) 1 6 11 12) 2 7 8 13 HYP_ HYP_ HYP_ HYP_ HYP_ HYP_ HYP_ HYP_ HYP_) ok_149 (by kernel_rfl) rfl rfl VAL_ APP_) rfl ?_
        refine s_nil ?_
        have hQ13 : (quar (quar (quar (quar (quar (quar (quar (quar X5 0 4 8 12) 1 5 9 13) 2 6 10 14) 3 7 11 15) 0 5 10 15) 1 6 11 12) 2 7 8 13) 3 4 9 14).length = 16 := LQ_
        refine S_ ?_
        refine c_region ?_
        refine s_ev (e_callK (bs := [2]) (quar_ev (quar (quar (quar (quar (quar (quar (quar X5 0 4 8 12) 1 5 9 13) 2 6 10 14) 3 7 11 15) 0 5 10 15) 1 6 11 12) 2 7 8 13) 3 4 9 14 HYP_ HYP_ HYP_ HYP_ HYP_ HYP_ HYP_ HYP_ HYP_) ok_149 (by kernel_rfl) rfl rfl VAL_ APP_) rfl ?_
        refine s_nil ?_
        refine S_ ?_
        refine c_region ?_
        refine s_val (v_addN (b := 1) rfl rfl (by omega)) rfl ?_
        refine s_val (v_moveC rfl) rfl ?_
        refine s_nil ?_
        exact ⟨(j15 + 1, _), by kernel_rfl, rfl⟩
      · try dsimp only
        have hY14 : (chBlock_L15 Y4 10).length = 16 := by rw [chBlock_L15_len Y4 hY4 _]; try omega
        generalize chBlock_L15 Y4 10 = Y14 at *
        refine S_ ?_
        refine c_region ?_
        refine s_val (v_lssN (a := 10) (b := 10) rfl rfl) rfl ?_
        refine s_nil ?_
        refine S_ ?_
        refine c_region ?_
        refine s_memN (m_alloc al_105 LEN_) APP_ rfl ?_
        refine s_nil ?_
        refine S_ ?_
        refine c_region ?_
        refine s_val (v_moveC rfl) rfl ?_
        refine s_nil ?_
        refine S_ ?_
        refine c_loopC [6, 7, 10, 11, 58] (fun (zz : Nat × List (BitVec 8)) => ⟨79, keepT [6, 7, 10, 11, 58] [.c (.ptr 0 0), .c (.ptr 1 0), .c (.ptr 2 0), .c (.ptr 3 0), .c (.val (.int .i64 (((zz.1 : Nat) : Int))))], [.row true (.a8 (zer8 64)), .row true (.a32 (Y4)), .row true (.a32 (Y14)), .row true (.a8 (zz.2))]⟩) (fun j27 => (j27, chBlock_L27 Y4 Y14 j27)) (64) (by kernel_rfl) ?_ ?_
        · intro j27 hj27
          try dsimp only
          have hX15 : (chBlock_L27 Y4 Y14 j27).length = 64 := by rw [chBlock_L27_len Y4 Y14 _]; try omega
          rw [chBlock_L27.eq_2, chBlock_L27_S]
          generalize chBlock_L27 Y4 Y14 j27 = X15 at *
          refine S_ ?_
          refine c_region ?_
          refine s_val (v_lssN (b := 64) rfl rfl) rfl ?_
          refine s_nil ?_
          refine S_ ?_
          refine c_region ?_
          refine s_val (v_moveC rfl) rfl ?_
          refine s_val (v_assignC rfl) rfl ?_
          refine s_nil ?_
          refine S_ ?_
          refine c_draw 16 mixed (by kernel_rfl) rfl rfl rfl ?_
          refine h_val (v_moveC rfl) rfl ?_
          refine h_val (v_moveC rfl) rfl ?_
          refine h_val (v_quoN (b := 4) rfl rfl (by omega) (by omega)) rfl ?_
          refine h_val (v_idxA1 rfl rfl Tryz.underlying181 sz_106 (by omega)) rfl ?_
          refine h_val (v_load32 rfl rfl row_106 LT_) rfl ?_
          refine h_val (v_moveC rfl) rfl ?_
          refine h_val (v_quoN (b := 4) rfl rfl (by omega) (by omega)) rfl ?_
          refine h_val (v_idxA1 rfl rfl Tryz.underlying181 sz_106 (by omega)) rfl ?_
          refine h_val (v_load32 rfl rfl row_106 LT_) rfl ?_
          refine h_val (v_add32 rfl rfl) rfl ?_
          refine h_val (v_moveC rfl) rfl ?_
          refine h_val (v_remN (b := 4) rfl rfl (by omega) (by omega)) rfl ?_
          refine h_val (v_mulN (a := 8) rfl rfl (by omega)) rfl ?_
          refine h_val (v_shr32n rfl rfl) rfl ?_
          refine h_val (v_conv rfl Tryz.underlying106 Tryz.underlying5 (w32_8 _)) rfl ?_
          refine h_val (v_idxA1 rfl rfl Tryz.underlying105 sz_5 (by omega)) rfl ?_
          refine h_nil ?_
          refine s_store8 rfl rfl rfl sz_5 LT_ SET_ ?_
          refine s_nil ?_
          refine S_ ?_
          refine c_region ?_
          refine s_val (v_addN (b := 1) rfl rfl (by omega)) rfl ?_
          refine s_val (v_moveC rfl) rfl ?_
          refine s_nil ?_
          exact ⟨(j27 + 1, _), by kernel_rfl, rfl⟩
        · try dsimp only
          have hY16 : (chBlock_L27 Y4 Y14 64).length = 64 := by rw [chBlock_L27_len Y4 Y14 _]; try omega
          generalize chBlock_L27 Y4 Y14 64 = Y16 at *
          refine S_ ?_
          refine c_region ?_
          refine s_val (v_lssN (a := 64) (b := 64) rfl rfl) rfl ?_
          refine s_nil ?_
          refine S_ ?_
          refine c_region ?_
          refine s_val (v_loadR rfl rfl row_105 sz_105 EQ_ (by decide)) rfl ?_
          refine s_storeR rfl rfl rfl rfl sz_105 EQ_ EQ_ SET_ ?_
          refine s_nil ?_
          refine S_ ?_
          rw [hP.out]
          exact k_1 (r_row rfl rfl row_105 sz_105 EQ_ (by decide)) (by first | kernel_rfl | rfl)
@[simp] theorem chBlock_len (key : List (BitVec 8)) (counter : BitVec 32) (nonce : List (BitVec 8)) (_hkey : key.length = 32) (_hnonce : nonce.length = 12) : (chBlock key counter nonce).length = 64 := by
  unfold chBlock
  first | (simp [chBlock_L27_len, *]; done) | (simp [chBlock_L3_len, chBlock_L9_len, chBlock_L15_len, chBlock_L27_len, *]; omega)
attribute [irreducible] chBlock
end Go.Proofs.YtmbepikkgkcgkaaGreatDoor
namespace Go.Proofs.YtmbepikkgkcgkaaGreatDoor
open Go.RowKit
def chXor_L7_S (key : List (BitVec 8)) (counter : BitVec 32) (nonce : List (BitVec 8)) (j3 : Nat) (X3 : List (BitVec 8)) (j7 : Nat) : List (BitVec 8) := put X3 ((64 * j3) + j7) ((nth X3 ((64 * j3) + j7)) ^^^ (nth (chBlock key (counter + (BitVec.ofNat 32 ((64 * j3) / 64))) nonce) (((64 * j3) + j7) - (64 * j3))))
def chXor_L7 (key : List (BitVec 8)) (counter : BitVec 32) (nonce : List (BitVec 8)) (X1 : List (BitVec 8)) (j3 : Nat) : Nat → List (BitVec 8)
  | 0 => X1
  | j7 + 1 => chXor_L7_S key counter nonce j3 (chXor_L7 key counter nonce X1 j3 j7) j7
@[simp] theorem chXor_L7_len (key : List (BitVec 8)) (counter : BitVec 32) (nonce : List (BitVec 8)) (X1 : List (BitVec 8)) (j3 : Nat) (j7 : Nat) : (chXor_L7 key counter nonce X1 j3 j7).length = X1.length := by
  induction j7 with
  | zero => first | (simp [chXor_L7, *]; done) | (simp [chXor_L7, *]; omega)
  | succ j7 ih => rw [chXor_L7.eq_2, chXor_L7_S]; first | (simp [ih]; done) | (simp [ih]; omega) | (simp [*]; done) | (simp [*]; omega) | (split <;> first | (simp [ih]; done) | (simp [ih]; omega) | (simp [*]; done))
def chXor_L3_S (key : List (BitVec 8)) (counter : BitVec 32) (nonce : List (BitVec 8)) (t : List (BitVec 8)) (X1 : List (BitVec 8)) (j3 : Nat) : List (BitVec 8) := (chXor_L7 key counter nonce X1 j3 (min (64 * j3 + 64) t.length - 64 * j3))
def chXor_L3 (key : List (BitVec 8)) (counter : BitVec 32) (nonce : List (BitVec 8)) (t : List (BitVec 8)) : Nat → List (BitVec 8)
  | 0 => t
  | j3 + 1 => chXor_L3_S key counter nonce t (chXor_L3 key counter nonce t j3) j3
theorem chXor_L3_len (key : List (BitVec 8)) (counter : BitVec 32) (nonce : List (BitVec 8)) (t : List (BitVec 8)) (_hkey : key.length = 32) (_hnonce : nonce.length = 12) (j3 : Nat) : (chXor_L3 key counter nonce t j3).length = t.length := by
  induction j3 with
  | zero => first | (simp [chXor_L3, *]; done) | (simp [chXor_L3, *]; omega)
  | succ j3 ih => rw [chXor_L3.eq_2, chXor_L3_S]; first | (simp [ih]; done) | (simp [ih]; omega) | (simp [chXor_L7_len, *]; done) | (simp [chXor_L7_len, *]; omega) | (split <;> first | (simp [ih]; done) | (simp [ih]; omega) | (simp [chXor_L7_len, *]; done))
def chXor (key : List (BitVec 8)) (counter : BitVec 32) (nonce : List (BitVec 8)) (t : List (BitVec 8)) : List (BitVec 8) := (chXor_L3 key counter nonce t ((t.length + 63) / 64))
set_option maxRecDepth 100000 in
set_option maxHeartbeats 2000000 in
theorem chXor_ev (key : List (BitVec 8)) (counter : BitVec 32) (nonce : List (BitVec 8)) (b : List (BitVec 8)) (o : Nat) (n : Nat) (cap : Nat) (hkey : key.length = 32) (hnonce : nonce.length = 12) (hb : o + n ≤ b.length) (hn : n ≤ 1099511627776) : Ev Tryz.prog (.call 76 [.agg (.a8 (key)), .c (.val (U32 counter)), .agg (.a8 (nonce)), .c (.sl 0 o n cap 1)] [.row false (.a8 (b))]) (.val (.c (.sl 1 0 n n 1)) [.row false (.a8 (b)), .row true (.a8 (chXor key counter nonce (cut b o n)))]) := by
  have hP : Hid (chXor key counter nonce (cut b o n) = (chXor_L3 key counter nonce (cut b o n) (((cut b o n).length + 63) / 64))) := ⟨rfl⟩
  have ht : (cut b o n).length = n := by rw [cut_length]; omega
  try simp only [ht] at hP
  refine c_call Tryz.func76 rfl Tryz.ntmps76 rfl LEN_ ?_
  refine S_ ?_
  refine c_region ?_
  refine s_memN (m_box BX_ LEN_) APP_ rfl ?_
  refine s_memN (m_box BX_ LEN_) APP_ rfl ?_
  refine s_val (v_assignC rfl) rfl ?_
  refine s_nil ?_
  refine S_ ?_
  refine c_region ?_
  refine s_memN (m_bs0 Tryz.underlying23 el_5) APP_ rfl ?_
  refine s_val (v_moveC rfl) rfl ?_
  refine s_memN (m_appE8c rfl rfl rfl Tryz.underlying23 Tryz.underlying23 el_5 LE_ (by omega) LEN_) APP_ rfl ?_
  refine s_val (v_assignC rfl) rfl ?_
  refine s_nil ?_
  refine S_ ?_
  refine c_region ?_
  refine s_val (v_assignC rfl) rfl ?_
  refine s_nil ?_
  refine S_ ?_
  refine c_loopC [1, 4, 6, 9, 10] (fun (zz : Nat × List (BitVec 8)) => ⟨52, keepT [1, 4, 6, 9, 10] [.c (.val (U32 (counter))), .c (.ptr 1 0), .c (.ptr 2 0), .c (.sl 3 0 n n 1), .c (.val (.int .i64 (((64 * zz.1 : Nat) : Int))))], [.row false (.a8 (b)), .row true (.a8 (key)), .row true (.a8 (nonce)), .row true (.a8 (zz.2))]⟩) (fun j3 => (j3, chXor_L3 key counter nonce (cut b o n) j3)) ((n + 63) / 64) (by kernel_rfl) ?_ ?_
  · intro j3 hj3
    try dsimp only
    have hX1 : (chXor_L3 key counter nonce (cut b o n) j3).length = n := by rw [chXor_L3_len key counter nonce (cut b o n) hkey hnonce _]; try omega
    rw [chXor_L3.eq_2, chXor_L3_S]
    try simp only [ht]
    generalize chXor_L3 key counter nonce (cut b o n) j3 = X1 at *
    refine S_ ?_
    refine c_region ?_
    refine s_val (v_moveC rfl) rfl ?_
    refine s_val (v_moveC rfl) rfl ?_
    refine s_val (v_lenS rfl Tryz.underlying23) rfl ?_
    refine s_val (v_lssN rfl rfl) rfl ?_
    refine s_nil ?_
    have hQ2 : (chBlock key (counter + (BitVec.ofNat 32 ((64 * j3) / 64))) nonce).length = 64 := LQ_
    refine S_ ?_
    refine c_region ?_
    refine s_val (v_loadR rfl rfl row_37 sz_37 EQ_ (by decide)) rfl ?_
    refine s_val (v_moveC rfl) rfl ?_
    refine s_val (v_moveC rfl) rfl ?_
    refine s_val (v_quoN (b := 64) rfl rfl (by omega) (by omega)) rfl ?_
    refine s_val (v_conv rfl Tryz.underlying3 Tryz.underlying106 (wi_32 _)) rfl ?_
    refine s_val (v_add32 rfl rfl) rfl ?_
    refine s_val (v_loadR rfl rfl row_98 sz_98 EQ_ (by decide)) rfl ?_
    refine s_evN (e_callR (bs := []) (chBlock_ev key (counter + (BitVec.ofNat 32 ((64 * j3) / 64))) nonce HYP_ HYP_) ok_109 (by kernel_rfl) (by kernel_rfl) rfl VAL_) APP_ rfl ?_
    refine s_memN (m_alloc al_105 LEN_) APP_ rfl ?_
    refine s_storeR rfl rfl rfl rfl sz_105 EQ_ EQ_ SET_ ?_
    refine s_nil ?_
    refine S_ ?_
    refine c_region ?_
    refine s_val (v_moveC rfl) rfl ?_
    refine s_val (v_assignC rfl) rfl ?_
    refine s_nil ?_
    refine S_ ?_
    refine c_loopC [1, 4, 6, 9, 10, 11, 12] (fun (zz : Nat × List (BitVec 8)) => ⟨52, keepT [1, 4, 6, 9, 10, 11, 12] [.c (.val (U32 (counter))), .c (.ptr 1 0), .c (.ptr 2 0), .c (.sl 3 0 n n 1), .c (.val (.int .i64 (((64 * j3 : Nat) : Int)))), .c (.ptr 4 0), .c (.val (.int .i64 ((((64 * j3) + zz.1 : Nat) : Int))))], [.row false (.a8 (b)), .row true (.a8 (key)), .row true (.a8 (nonce)), .row true (.a8 (zz.2)), .row true (.a8 (chBlock key (counter + (BitVec.ofNat 32 ((64 * j3) / 64))) nonce))]⟩) (fun j7 => (j7, chXor_L7 key counter nonce X1 j3 j7)) (min (64 * j3 + 64) n - 64 * j3) (by kernel_rfl) ?_ ?_
    · intro j7 hj7
      try dsimp only
      have hX3 : (chXor_L7 key counter nonce X1 j3 j7).length = n := by rw [chXor_L7_len key counter nonce X1 j3 _]; try omega
      rw [chXor_L7.eq_2, chXor_L7_S]
      try simp only [ht, hX1]
      generalize chXor_L7 key counter nonce X1 j3 j7 = X3 at *
      refine S_ ?_
      refine c_region ?_
      refine s_val (v_moveC rfl) rfl ?_
      refine s_val (v_moveC rfl) rfl ?_
      refine s_val (v_addN (b := 64) rfl rfl (by omega)) rfl ?_
      refine s_val (v_moveC rfl) rfl ?_
      refine s_val (v_lenS rfl Tryz.underlying23) rfl ?_
      refine s_val (v_minN rfl rfl) rfl ?_
      refine s_val (v_lssN rfl rfl) rfl ?_
      refine s_nil ?_
      refine S_ ?_
      refine c_draw 11 mixed (by kernel_rfl) rfl rfl rfl ?_
      refine h_val (v_moveC rfl) rfl ?_
      refine h_val (v_moveC rfl) rfl ?_
      refine h_val (v_idxS1 rfl rfl Tryz.underlying23 sz_5 (by omega)) rfl ?_
      refine h_val (v_load8 rfl rfl row_5 LT_) rfl ?_
      refine h_val (v_moveC rfl) rfl ?_
      refine h_val (v_moveC rfl) rfl ?_
      first
        | refine h_val (v_subN rfl rfl (by omega) (by omega)) rfl ?_
        | refine h_val (v_subI rfl rfl (by omega)) rfl ?_
      refine h_val (v_idxA1 rfl rfl Tryz.underlying105 sz_5 (by omega)) rfl ?_
      refine h_val (v_load8 rfl rfl row_5 LT_) rfl ?_
      refine h_val (v_xor8 rfl rfl) rfl ?_
      refine h_val (v_idxS1 rfl rfl Tryz.underlying23 sz_5 (by omega)) rfl ?_
      refine h_nil ?_
      refine s_store8 rfl rfl rfl sz_5 LT_ SET_ ?_
      refine s_nil ?_
      refine S_ ?_
      refine c_region ?_
      refine s_val (v_moveC rfl) rfl ?_
      refine s_val (v_addN (b := 1) rfl rfl (by omega)) rfl ?_
      refine s_val (v_assignC rfl) rfl ?_
      refine s_nil ?_
      exact ⟨(j7 + 1, _), by kernel_rfl, rfl⟩
    · try dsimp only
      have hY4 : (chXor_L7 key counter nonce X1 j3 (min (64 * j3 + 64) n - 64 * j3)).length = n := by rw [chXor_L7_len key counter nonce X1 j3 _]; try omega
      generalize chXor_L7 key counter nonce X1 j3 (min (64 * j3 + 64) n - 64 * j3) = Y4 at *
      refine S_ ?_
      refine c_region ?_
      refine s_val (v_moveC rfl) rfl ?_
      refine s_val (v_moveC rfl) rfl ?_
      refine s_val (v_addN (b := 64) rfl rfl (by omega)) rfl ?_
      refine s_val (v_moveC rfl) rfl ?_
      refine s_val (v_lenS rfl Tryz.underlying23) rfl ?_
      refine s_val (v_minN rfl rfl) rfl ?_
      refine s_val (v_lssN rfl rfl) rfl ?_
      refine s_nil ?_
      refine S_ ?_
      refine c_region ?_
      refine s_val (v_moveC rfl) rfl ?_
      refine s_val (v_addN (b := 64) rfl rfl (by omega)) rfl ?_
      refine s_val (v_assignC rfl) rfl ?_
      refine s_nil ?_
      exact ⟨(j3 + 1, _), by kernel_rfl, rfl⟩
  · try dsimp only
    have hY5 : (chXor_L3 key counter nonce (cut b o n) ((n + 63) / 64)).length = n := by rw [chXor_L3_len key counter nonce (cut b o n) hkey hnonce _]; try omega
    generalize chXor_L3 key counter nonce (cut b o n) ((n + 63) / 64) = Y5 at *
    refine S_ ?_
    refine c_region ?_
    refine s_val (v_moveC rfl) rfl ?_
    refine s_val (v_moveC rfl) rfl ?_
    refine s_val (v_lenS rfl Tryz.underlying23) rfl ?_
    refine s_val (v_lssN rfl rfl) rfl ?_
    refine s_nil ?_
    refine S_ ?_
    refine c_region ?_
    refine s_val (v_moveC rfl) rfl ?_
    refine s_val (v_assignC rfl) rfl ?_
    refine s_nil ?_
    refine S_ ?_
    rw [hP.out]
    exact k_1 (by first | exact r_tmpC rfl | exact r_tmpA rfl) (by first | kernel_rfl | rfl)
theorem chXor_evS (key : List (BitVec 8)) (counter : BitVec 32) (nonce : List (BitVec 8)) (b : List (BitVec 8)) (n : Nat) (cap : Nat) (hkey : key.length = 32) (hnonce : nonce.length = 12) (hb : b.length = n) (hn : n ≤ 1099511627776) : Ev Tryz.prog (.call 76 [.agg (.a8 (key)), .c (.val (U32 counter)), .agg (.a8 (nonce)), .c (.sl 0 0 n cap 1)] [.row false (.a8 (b))]) (.val (.c (.sl 1 0 n n 1)) [.row false (.a8 (b)), .row true (.a8 (chXor key counter nonce b))]) := by
  have h_ := chXor_ev key counter nonce b 0 n cap hkey hnonce (by omega) hn
  rw [cut_all hb] at h_
  exact h_
@[simp] theorem chXor_len (key : List (BitVec 8)) (counter : BitVec 32) (nonce : List (BitVec 8)) (t : List (BitVec 8)) (hkey : key.length = 32) (hnonce : nonce.length = 12) : (chXor key counter nonce t).length = t.length := by
  unfold chXor
  first | (simp [chXor_L3_len, *]; done) | (simp [chXor_L7_len, chXor_L3_len, *]; omega)
attribute [irreducible] chXor
end Go.Proofs.YtmbepikkgkcgkaaGreatDoor
namespace Go.Proofs.YtmbepikkgkcgkaaGreatDoor
open Go.RowKit
def lowAt (r : List (BitVec 8)) (o : Nat) : Nat → BitVec 64
  | 0 => 0#64
  | k + 1 => lowAt r o k ||| ((nth r (o + k)).setWidth 64 <<< (8 * k))
set_option maxRecDepth 100000 in
theorem low_ev (r : List (BitVec 8)) (o n cap : Nat) (hl : o + n ≤ r.length) (hn : n ≤ 65536) : Ev Tryz.prog (.call 196 [.c (.sl 0 o n cap 1)] [.row false (.a8 r)]) (.val (.c (.val (U64 (lowAt r o n)))) [.row false (.a8 r)]) := by
  refine c_call Tryz.func196 rfl Tryz.ntmps196 rfl LEN_ ?_
  refine S_ ?_
  refine c_region ?_
  refine s_val (v_assignC rfl) rfl ?_
  refine s_nil ?_
  refine S_ ?_
  refine c_region ?_
  refine s_val (v_assignC rfl) rfl ?_
  refine s_nil ?_
  refine S_ ?_
  refine c_region ?_
  first
    | refine s_val (v_moveC rfl) rfl ?_
    | refine s_val (v_moveA rfl) rfl ?_
    | refine s_val (v_moveT rfl) rfl ?_
  first
    | refine s_val (v_lenS rfl Tryz.underlying23) rfl ?_
    | refine s_val (v_lenN rfl Tryz.underlying23) rfl ?_
    | refine s_val (v_lenE rfl Tryz.underlying23) rfl ?_
    | refine s_val (v_lenB rfl Tryz.underlying23 rfl) rfl ?_
    | refine s_val (v_lenZ rfl Tryz.underlying23 rfl) rfl ?_
  refine s_val (v_moveC rfl) rfl ?_
  refine s_nil ?_
  refine S_ ?_
  refine c_clean [2, 3, 6, 7, 8] rfl ?_
  refine c_loop [2, 3, 6, 7, 8] (fun (x : Nat × BitVec 64) => ⟨22, keepT [2, 3, 6, 7, 8] [.c (.val (.int .u64 0)), .c (.val (U64 x.2)), .c (.sl 0 o n cap 1), .c (.val (.int .i64 n)), .c (.val (.int .i64 x.1))], [.row false (.a8 r)]⟩) (fun j => (j, lowAt r o j)) n rfl ?r ?e
  case r =>
    intro j hj
    simp only [lowAt]
    refine S_ ?_
    refine c_region ?_
    first
      | refine s_val (v_lssN rfl rfl) rfl ?_
      | refine s_val (v_lssI rfl rfl) rfl ?_
    refine s_nil ?_
    refine S_ ?_
    refine c_region ?_
    first
      | refine s_val (v_moveC rfl) rfl ?_
      | refine s_val (v_moveA rfl) rfl ?_
      | refine s_val (v_moveT rfl) rfl ?_
    first
      | refine s_val (v_idxS1 rfl rfl Tryz.underlying23 sz_5 (by omega)) rfl ?_
      | refine s_val (v_idxSo rfl rfl Tryz.underlying23 sz_5 (by omega)) rfl ?_
      | refine s_val (v_idxS rfl rfl Tryz.underlying23 sz_5 (by omega)) rfl ?_
      | refine s_val (v_idxB rfl rfl Tryz.underlying23 sz_5 LT_) rfl ?_
    first
      | refine s_val (v_load8 rfl rfl row_5 LT_) rfl ?_
      | refine s_val (v_loadQ rfl row_5 LT_) rfl ?_
    first
      | refine s_val (v_assignC rfl) rfl ?_
      | refine s_val (v_assignA rfl) rfl ?_
      | refine s_val (v_assignT rfl) rfl ?_
    first
      | refine s_val (v_assignC rfl) rfl ?_
      | refine s_val (v_assignA rfl) rfl ?_
      | refine s_val (v_assignT rfl) rfl ?_
    refine s_nil ?_
    refine S_ ?_
    refine c_region ?_
    first
      | refine s_val (v_moveC rfl) rfl ?_
      | refine s_val (v_moveA rfl) rfl ?_
      | refine s_val (v_moveT rfl) rfl ?_
    first
      | refine s_val (v_moveC rfl) rfl ?_
      | refine s_val (v_moveA rfl) rfl ?_
      | refine s_val (v_moveT rfl) rfl ?_
    refine s_val (v_conv rfl Tryz.underlying5 Tryz.underlying70 (w8_64 _)) rfl ?_
    first
      | refine s_val (v_moveC rfl) rfl ?_
      | refine s_val (v_moveA rfl) rfl ?_
      | refine s_val (v_moveT rfl) rfl ?_
    refine s_val (v_mulN (a := 8) rfl rfl (by omega)) rfl ?_
    refine s_val (v_shl64n rfl rfl) rfl ?_
    refine s_val (v_or64 rfl rfl) rfl ?_
    first
      | refine s_val (v_assignC rfl) rfl ?_
      | refine s_val (v_assignA rfl) rfl ?_
      | refine s_val (v_assignT rfl) rfl ?_
    refine s_nil ?_
    refine S_ ?_
    refine c_region ?_
    first
      | refine s_val (v_addN (b := 1) rfl rfl (by omega)) rfl ?_
      | refine s_val (v_addI rfl rfl (by omega)) rfl ?_
    first
      | refine s_val (v_moveC rfl) rfl ?_
      | refine s_val (v_moveA rfl) rfl ?_
      | refine s_val (v_moveT rfl) rfl ?_
    refine s_nil ?_
    exact ⟨_, by kernel_rfl, rfl⟩
  case e =>
    dsimp only
    refine S_ ?_
    refine c_region ?_
    first
      | refine s_val (v_lssN rfl rfl) rfl ?_
      | refine s_val (v_lssI rfl rfl) rfl ?_
    refine s_nil ?_
    refine S_ ?_
    refine S_ ?_
    refine c_region ?_
    first
      | refine s_val (v_moveC rfl) rfl ?_
      | refine s_val (v_moveA rfl) rfl ?_
      | refine s_val (v_moveT rfl) rfl ?_
    first
      | refine s_val (v_assignC rfl) rfl ?_
      | refine s_val (v_assignA rfl) rfl ?_
      | refine s_val (v_assignT rfl) rfl ?_
    refine s_nil ?_
    refine S_ ?_
    exact k_1 (by first | exact r_tmpC rfl | exact r_tmpA rfl) (by first | kernel_rfl | rfl)
end Go.Proofs.YtmbepikkgkcgkaaGreatDoor
namespace Go.Proofs.YtmbepikkgkcgkaaGreatDoor
open Go.RowKit
def wordAt (r : List (BitVec 8)) (i : Nat) : BitVec 64 := (lowAt r (i / 8) (min (i / 8 + 5) r.length - i / 8) >>> (i % 8)) &&& 67108863#64
set_option maxRecDepth 100000 in
theorem word26_ev (r : List (BitVec 8)) (n cap i : Nat) (hl : r.length = n) (hn : n ≤ 65536) (hi : i / 8 ≤ n) : Ev Tryz.prog (.call 184 [.c (.sl 0 0 n cap 1), .c (.val (.int .i64 i))] [.row false (.a8 r)]) (.val (.c (.val (U64 (wordAt r i)))) [.row false (.a8 r)]) := by
  subst hl
  refine c_call Tryz.func184 rfl Tryz.ntmps184 rfl LEN_ ?_
  refine S_ ?_
  refine c_region ?_
  refine s_val (v_assignC rfl) rfl ?_
  refine s_nil ?_
  refine S_ ?_
  refine c_region ?_
  first
    | refine s_val (v_moveC rfl) rfl ?_
    | refine s_val (v_moveA rfl) rfl ?_
    | refine s_val (v_moveT rfl) rfl ?_
  first
    | refine s_val (v_moveC rfl) rfl ?_
    | refine s_val (v_moveA rfl) rfl ?_
    | refine s_val (v_moveT rfl) rfl ?_
  refine s_val (v_quoN (b := 8) rfl rfl (by omega) (by omega)) rfl ?_
  first
    | refine s_val (v_moveC rfl) rfl ?_
    | refine s_val (v_moveA rfl) rfl ?_
    | refine s_val (v_moveT rfl) rfl ?_
  refine s_val (v_quoN (b := 8) rfl rfl (by omega) (by omega)) rfl ?_
  first
    | refine s_val (v_addN (b := 5) rfl rfl (by omega)) rfl ?_
    | refine s_val (v_addI rfl rfl (by omega)) rfl ?_
  first
    | refine s_val (v_moveC rfl) rfl ?_
    | refine s_val (v_moveA rfl) rfl ?_
    | refine s_val (v_moveT rfl) rfl ?_
  first
    | refine s_val (v_lenS rfl Tryz.underlying23) rfl ?_
    | refine s_val (v_lenN rfl Tryz.underlying23) rfl ?_
    | refine s_val (v_lenE rfl Tryz.underlying23) rfl ?_
    | refine s_val (v_lenB rfl Tryz.underlying23 rfl) rfl ?_
    | refine s_val (v_lenZ rfl Tryz.underlying23 rfl) rfl ?_
  first
    | refine s_val (v_minN rfl rfl) rfl ?_
    | refine s_val (v_minL rfl rfl (by omega)) rfl ?_
    | refine s_val (v_minR rfl rfl (by omega)) rfl ?_
  first
    | refine s_val (v_slS1 rfl Tryz.underlying23 sz_5 rfl rfl (by omega) (by omega)) rfl ?_
    | refine s_val (v_slSo rfl Tryz.underlying23 sz_5 rfl rfl (by omega) (by omega)) rfl ?_
    | refine s_val (v_slB rfl Tryz.underlying23 sz_5 rfl rfl LE_ LE_) rfl ?_
  refine s_evN (e_callR (low_ev r _ _ _ (by omega) (by omega)) ok_196 rfl rfl rfl VAL_) APP_ rfl ?_
  first
    | refine s_val (v_moveC rfl) rfl ?_
    | refine s_val (v_moveA rfl) rfl ?_
    | refine s_val (v_moveT rfl) rfl ?_
  refine s_val (v_remN (b := 8) rfl rfl (by omega) (by omega)) rfl ?_
  refine s_val (v_shr64n rfl rfl) rfl ?_
  refine s_val (v_and64 (b := 67108863#64) rfl rfl) rfl ?_
  first
    | refine s_val (v_assignC rfl) rfl ?_
    | refine s_val (v_assignA rfl) rfl ?_
    | refine s_val (v_assignT rfl) rfl ?_
  refine s_nil ?_
  refine S_ ?_
  exact k_1 (by first | exact r_tmpC rfl | exact r_tmpA rfl) (by first | kernel_rfl | rfl)
end Go.Proofs.YtmbepikkgkcgkaaGreatDoor
namespace Go.Proofs.YtmbepikkgkcgkaaGreatDoor
open Go.RowKit
def carrySt (l : List (BitVec 64)) : Nat → List (BitVec 64) × BitVec 64
  | 0 => (l, 0#64)
  | k + 1 => (put (carrySt l k).1 k ((nth (carrySt l k).1 k + (carrySt l k).2) &&& 67108863#64), (nth (carrySt l k).1 k + (carrySt l k).2) >>> 26)
theorem carrySt_succ (l : List (BitVec 64)) (k : Nat) : carrySt l (k + 1) = (put (carrySt l k).1 k ((nth (carrySt l k).1 k + (carrySt l k).2) &&& 67108863#64), (nth (carrySt l k).1 k + (carrySt l k).2) >>> 26) := rfl
theorem carrySt_length (l : List (BitVec 64)) (k : Nat) : (carrySt l k).1.length = l.length := by
  induction k with
  | zero => rfl
  | succ k ih => simp [carrySt, ih]
def carriedL (l : List (BitVec 64)) : List (BitVec 64) := put (carrySt l 5).1 0 (nth (carrySt l 5).1 0 + 5#64 * (carrySt l 5).2)
set_option maxRecDepth 100000 in
theorem carried_ev (l : List (BitVec 64)) (hl : l.length = 5) : Ev Tryz.prog (.call 197 [.agg (.a64 l)] []) (.val (.agg (.a64 (carriedL l))) []) := by
  refine c_call Tryz.func197 rfl Tryz.ntmps197 rfl LEN_ ?_
  refine S_ ?_
  refine c_region ?_
  refine s_memN (m_box BX_ LEN_) APP_ rfl ?_
  refine s_memN (m_alloc al_213 LEN_) APP_ rfl ?_
  refine s_nil ?_
  refine S_ ?_
  refine c_region ?_
  refine s_val (v_assignC rfl) rfl ?_
  refine s_nil ?_
  refine S_ ?_
  refine c_region ?_
  refine s_val (v_moveC rfl) rfl ?_
  refine s_nil ?_
  refine c_clean [5, 3, 1, 2] rfl ?_
  refine S_ ?_
  refine c_loop [5, 3, 1, 2] (fun (x : Nat × BitVec 64 × List (BitVec 64)) => ⟨31, keepT [5, 3, 1, 2] [.c (.val (.int .i64 x.1)), .c (.val (U64 x.2.1)), .c (.ptr 0 0), .c (.ptr 1 0)], [.row true (.a64 x.2.2), .row true (.a64 (zer64 5))]⟩) (fun j => (j, (carrySt l j).2, (carrySt l j).1)) 5 rfl ?r ?e
  case r =>
    intro j hj
    have h1 : (carrySt l j).1.length = 5 := by rw [carrySt_length, hl]
    generalize hS : (carrySt l j).1 = S at *
    generalize hC : (carrySt l j).2 = C at *
    dsimp only
    refine S_ ?_
    refine c_region ?_
    first
      | refine s_val (v_lssN (b := 5) rfl rfl) rfl ?_
      | refine s_val (v_lssI rfl rfl) rfl ?_
    refine s_nil ?_
    refine S_ ?_
    refine c_region ?_
    first
      | refine s_val (v_moveC rfl) rfl ?_
      | refine s_val (v_moveA rfl) rfl ?_
      | refine s_val (v_moveT rfl) rfl ?_
    first
      | refine s_val (v_assignC rfl) rfl ?_
      | refine s_val (v_assignA rfl) rfl ?_
      | refine s_val (v_assignT rfl) rfl ?_
    refine s_nil ?_
    refine S_ ?_
    refine c_region ?_
    first
      | refine s_val (v_moveC rfl) rfl ?_
      | refine s_val (v_moveA rfl) rfl ?_
      | refine s_val (v_moveT rfl) rfl ?_
    first
      | refine s_val (v_idxA1 rfl rfl Tryz.underlying213 sz_70 (by omega)) rfl ?_
      | refine s_val (v_idxA rfl rfl Tryz.underlying213 sz_70 (by omega)) rfl ?_
    refine s_val (v_load64 rfl rfl row_70 LT_) rfl ?_
    first
      | refine s_val (v_moveC rfl) rfl ?_
      | refine s_val (v_moveA rfl) rfl ?_
      | refine s_val (v_moveT rfl) rfl ?_
    refine s_val (v_add64 rfl rfl) rfl ?_
    first
      | refine s_val (v_idxA1 rfl rfl Tryz.underlying213 sz_70 (by omega)) rfl ?_
      | refine s_val (v_idxA rfl rfl Tryz.underlying213 sz_70 (by omega)) rfl ?_
    refine s_store64 rfl rfl rfl sz_70 LT_ SET_ ?_
    refine s_nil ?_
    refine S_ ?_
    refine c_region ?_
    first
      | refine s_val (v_moveC rfl) rfl ?_
      | refine s_val (v_moveA rfl) rfl ?_
      | refine s_val (v_moveT rfl) rfl ?_
    first
      | refine s_val (v_idxA1 rfl rfl Tryz.underlying213 sz_70 (by omega)) rfl ?_
      | refine s_val (v_idxA rfl rfl Tryz.underlying213 sz_70 (by omega)) rfl ?_
    refine s_val (v_load64 rfl rfl row_70 LT_) rfl ?_
    refine s_val (v_shr64n (j := 26) rfl rfl) rfl ?_
    first
      | refine s_val (v_assignC rfl) rfl ?_
      | refine s_val (v_assignA rfl) rfl ?_
      | refine s_val (v_assignT rfl) rfl ?_
    refine s_nil ?_
    refine S_ ?_
    refine c_region ?_
    first
      | refine s_val (v_moveC rfl) rfl ?_
      | refine s_val (v_moveA rfl) rfl ?_
      | refine s_val (v_moveT rfl) rfl ?_
    first
      | refine s_val (v_idxA1 rfl rfl Tryz.underlying213 sz_70 (by omega)) rfl ?_
      | refine s_val (v_idxA rfl rfl Tryz.underlying213 sz_70 (by omega)) rfl ?_
    refine s_val (v_load64 rfl rfl row_70 LT_) rfl ?_
    refine s_val (v_and64 (b := 67108863#64) rfl rfl) rfl ?_
    first
      | refine s_val (v_idxA1 rfl rfl Tryz.underlying213 sz_70 (by omega)) rfl ?_
      | refine s_val (v_idxA rfl rfl Tryz.underlying213 sz_70 (by omega)) rfl ?_
    refine s_store64 rfl rfl rfl sz_70 LT_ SET_ ?_
    refine s_nil ?_
    refine S_ ?_
    refine c_region ?_
    first
      | refine s_val (v_addN (b := 1) rfl rfl (by omega)) rfl ?_
      | refine s_val (v_addI rfl rfl (by omega)) rfl ?_
    first
      | refine s_val (v_moveC rfl) rfl ?_
      | refine s_val (v_moveA rfl) rfl ?_
      | refine s_val (v_moveT rfl) rfl ?_
    refine s_nil ?_
    refine ⟨(_, _, _), rfl, ?_⟩
    simp only [carrySt, hS, hC, set_put, put_again, nth_put _ _ _ _ (show j < S.length by omega), if_true]
  case e =>
    have h1 : (carrySt l 5).1.length = 5 := by rw [carrySt_length, hl]
    have hE : carriedL l = put (carrySt l 5).1 0 (nth (carrySt l 5).1 0 + 5#64 * (carrySt l 5).2) := rfl
    generalize hS : (carrySt l 5).1 = S at *
    generalize hC : (carrySt l 5).2 = C at *
    rw [hE]
    dsimp only
    refine S_ ?_
    refine c_region ?_
    first
      | refine s_val (v_lssN (b := 5) rfl rfl) rfl ?_
      | refine s_val (v_lssI rfl rfl) rfl ?_
    refine s_nil ?_
    refine S_ ?_
    refine S_ ?_
    refine c_region ?_
    first
      | refine s_val (v_idxA1 (j := 0) rfl rfl Tryz.underlying213 sz_70 (by omega)) rfl ?_
      | refine s_val (v_idxA (j := 0) rfl rfl Tryz.underlying213 sz_70 (by omega)) rfl ?_
    refine s_val (v_load64 rfl rfl row_70 LT_) rfl ?_
    first
      | refine s_val (v_moveC rfl) rfl ?_
      | refine s_val (v_moveA rfl) rfl ?_
      | refine s_val (v_moveT rfl) rfl ?_
    refine s_val (v_mul64 (a := 5#64) rfl rfl) rfl ?_
    refine s_val (v_add64 rfl rfl) rfl ?_
    first
      | refine s_val (v_idxA1 (j := 0) rfl rfl Tryz.underlying213 sz_70 (by omega)) rfl ?_
      | refine s_val (v_idxA (j := 0) rfl rfl Tryz.underlying213 sz_70 (by omega)) rfl ?_
    refine s_store64 rfl rfl rfl sz_70 LT_ SET_ ?_
    refine s_nil ?_
    refine S_ ?_
    refine c_region ?_
    first
      | refine s_val (v_loadR rfl rfl row_213 sz_213 EQ_ (by decide)) rfl ?_
      | refine s_val (v_loadW8 rfl rfl row_213 sz_213 LE_ (by decide)) rfl ?_
      | refine s_val (v_loadW64 rfl rfl row_213 sz_213 LE_ (by decide)) rfl ?_
    refine s_storeR rfl rfl rfl rfl sz_213 EQ_ EQ_ SET_ ?_
    refine s_nil ?_
    refine S_ ?_
    exact k_1 (r_row rfl rfl row_213 sz_213 EQ_ (by decide)) (by first | kernel_rfl | rfl)
@[simp] theorem carriedL_length (l : List (BitVec 64)) : (carriedL l).length = l.length := by simp [carriedL, carrySt_length]
attribute [irreducible] carriedL
end Go.Proofs.YtmbepikkgkcgkaaGreatDoor
namespace Go.Proofs.YtmbepikkgkcgkaaGreatDoor
open Go.RowKit
def mulStep (a b s : List (BitVec 64)) (i j : Nat) : List (BitVec 64) :=
  put s ((i + j) % 5) (nth s ((i + j) % 5) + if 5 ≤ i + j then nth a i * nth b j * 5#64 else nth a i * nth b j)
def mulRow (a b s : List (BitVec 64)) (i : Nat) : Nat → List (BitVec 64)
  | 0 => s
  | j + 1 => mulStep a b (mulRow a b s i j) i j
def mulAll (a b : List (BitVec 64)) : Nat → List (BitVec 64)
  | 0 => zer64 5
  | i + 1 => mulRow a b (mulAll a b i) i 5
theorem mulRow_length (a b s : List (BitVec 64)) (i : Nat) : ∀ j, (mulRow a b s i j).length = s.length
  | 0 => rfl
  | j + 1 => by simp [mulRow, mulStep, mulRow_length a b s i j]
theorem mulAll_length (a b : List (BitVec 64)) : ∀ i, (mulAll a b i).length = 5
  | 0 => rfl
  | i + 1 => by rw [mulAll, mulRow_length, mulAll_length a b i]
def timesL (a b : List (BitVec 64)) : List (BitVec 64) := carriedL (carriedL (mulAll a b 5))
theorem timesL_eq (a b : List (BitVec 64)) : timesL a b = carriedL (carriedL (mulAll a b 5)) := rfl
@[simp] theorem timesL_length (a b : List (BitVec 64)) : (timesL a b).length = 5 := by rw [timesL, carriedL_length, carriedL_length, mulAll_length]
attribute [irreducible] timesL
set_option maxRecDepth 100000 in
set_option maxHeartbeats 1000000 in
theorem times_ev (a b : List (BitVec 64)) (ha : a.length = 5) (hb : b.length = 5) : Ev Tryz.prog (.call 185 [.agg (.a64 a), .agg (.a64 b)] []) (.val (.agg (.a64 (timesL a b))) []) := by
  refine c_call Tryz.func185 rfl Tryz.ntmps185 rfl LEN_ ?_
  refine S_ ?_
  refine c_region ?_
  refine s_memN (m_box BX_ LEN_) APP_ rfl ?_
  refine s_memN (m_box BX_ LEN_) APP_ rfl ?_
  refine s_memN (m_alloc al_213 LEN_) APP_ rfl ?_
  refine s_nil ?_
  refine S_ ?_
  refine c_region ?_
  refine s_memN (m_alloc al_213 LEN_) APP_ rfl ?_
  refine s_nil ?_
  refine S_ ?_
  refine c_region ?_
  refine s_val (v_moveC rfl) rfl ?_
  refine s_nil ?_
  refine S_ ?_
  refine c_loopC [2, 3, 5, 9, 4] (fun (x : Nat × List (BitVec 64)) => ⟨42, keepT [2, 3, 5, 9, 4] [.c (.ptr 0 0), .c (.ptr 1 0), .c (.ptr 2 0), .c (.val (.int .i64 (x.1))), .c (.ptr 3 0)], [.row true (.a64 (a)), .row true (.a64 (b)), .row true (.a64 (x.2)), .row true (.a64 (zer64 5))]⟩) (fun j => (j, mulAll a b j)) (5) (by kernel_rfl) ?_ ?_
  · intro i hi
    have h1 : (mulAll a b i).length = 5 := mulAll_length a b i
    simp only [mulAll]
    generalize mulAll a b i = S at *
    refine S_ ?_
    refine c_region ?_
    first
      | refine s_val (v_lssN (b := 5) rfl rfl) rfl ?_
      | refine s_val (v_lssI rfl rfl) rfl ?_
    refine s_nil ?_
    refine S_ ?_
    refine c_region ?_
    first
      | refine s_val (v_moveC rfl) rfl ?_
      | refine s_val (v_moveA rfl) rfl ?_
      | refine s_val (v_moveT rfl) rfl ?_
    first
      | refine s_val (v_assignC rfl) rfl ?_
      | refine s_val (v_assignA rfl) rfl ?_
      | refine s_val (v_assignT rfl) rfl ?_
    refine s_nil ?_
    refine S_ ?_
    refine c_region ?_
    refine s_val (v_moveC rfl) rfl ?_
    refine s_nil ?_
    refine S_ ?_
    refine c_loopC [2, 3, 5, 9, 4, 6, 12] (fun (x : Nat × List (BitVec 64)) => ⟨42, keepT [2, 3, 5, 9, 4, 6, 12] [.c (.ptr 0 0), .c (.ptr 1 0), .c (.ptr 2 0), .c (.val (.int .i64 (i))), .c (.ptr 3 0), .c (.val (.int .i64 (i))), .c (.val (.int .i64 (x.1)))], [.row true (.a64 (a)), .row true (.a64 (b)), .row true (.a64 (x.2)), .row true (.a64 (zer64 5))]⟩) (fun j => (j, mulRow a b S i j)) (5) (by kernel_rfl) ?_ ?_
    · intro j hj
      have h2 : (mulRow a b S i j).length = 5 := by rw [mulRow_length, h1]
      simp only [mulRow]
      generalize mulRow a b S i j = U at *
      unfold mulStep
      refine S_ ?_
      refine c_region ?_
      first
        | refine s_val (v_lssN (b := 5) rfl rfl) rfl ?_
        | refine s_val (v_lssI rfl rfl) rfl ?_
      refine s_nil ?_
      refine S_ ?_
      refine c_region ?_
      first
        | refine s_val (v_moveC rfl) rfl ?_
        | refine s_val (v_moveA rfl) rfl ?_
        | refine s_val (v_moveT rfl) rfl ?_
      first
        | refine s_val (v_assignC rfl) rfl ?_
        | refine s_val (v_assignA rfl) rfl ?_
        | refine s_val (v_assignT rfl) rfl ?_
      refine s_nil ?_
      refine S_ ?_
      refine c_draw 8 mixed (by kernel_rfl) rfl rfl rfl ?_
      first
        | refine h_val (v_moveC rfl) rfl ?_
        | refine h_val (v_moveA rfl) rfl ?_
        | refine h_val (v_moveT rfl) rfl ?_
      first
        | refine h_val (v_idxA1 rfl rfl Tryz.underlying213 sz_70 (by omega)) rfl ?_
        | refine h_val (v_idxA rfl rfl Tryz.underlying213 sz_70 (by omega)) rfl ?_
      refine h_val (v_load64 rfl rfl row_70 LT_) rfl ?_
      first
        | refine h_val (v_moveC rfl) rfl ?_
        | refine h_val (v_moveA rfl) rfl ?_
        | refine h_val (v_moveT rfl) rfl ?_
      first
        | refine h_val (v_idxA1 rfl rfl Tryz.underlying213 sz_70 (by omega)) rfl ?_
        | refine h_val (v_idxA rfl rfl Tryz.underlying213 sz_70 (by omega)) rfl ?_
      refine h_val (v_load64 rfl rfl row_70 LT_) rfl ?_
      refine h_val (v_mul64 rfl rfl) rfl ?_
      first
        | refine h_val (v_assignC rfl) rfl ?_
        | refine h_val (v_assignA rfl) rfl ?_
        | refine h_val (v_assignT rfl) rfl ?_
      refine h_nil ?_
      refine s_nil ?_
      refine S_ ?_
      refine c_region ?_
      first
        | refine s_val (v_moveC rfl) rfl ?_
        | refine s_val (v_moveA rfl) rfl ?_
        | refine s_val (v_moveT rfl) rfl ?_
      first
        | refine s_val (v_moveC rfl) rfl ?_
        | refine s_val (v_moveA rfl) rfl ?_
        | refine s_val (v_moveT rfl) rfl ?_
      first
        | refine s_val (v_addN rfl rfl (by omega)) rfl ?_
        | refine s_val (v_addI rfl rfl (by omega)) rfl ?_
      first
        | refine s_val (v_geqN (b := 5) rfl rfl) rfl ?_
        | refine s_val (v_geqI rfl rfl) rfl ?_
      refine s_nil ?_
      by_cases h5 : 5 ≤ i + j
      · rw [if_pos h5]
        refine S_ ?_
        refine c_region ?_
        first
          | refine s_val (v_moveC rfl) rfl ?_
          | refine s_val (v_moveA rfl) rfl ?_
          | refine s_val (v_moveT rfl) rfl ?_
        refine s_val (v_mul64 (b := 5#64) rfl rfl) rfl ?_
        first
          | refine s_val (v_assignC rfl) rfl ?_
          | refine s_val (v_assignA rfl) rfl ?_
          | refine s_val (v_assignT rfl) rfl ?_
        refine s_nil ?_
        refine S_ ?_
        refine c_region ?_
        first
          | refine s_val (v_moveC rfl) rfl ?_
          | refine s_val (v_moveA rfl) rfl ?_
          | refine s_val (v_moveT rfl) rfl ?_
        first
          | refine s_val (v_moveC rfl) rfl ?_
          | refine s_val (v_moveA rfl) rfl ?_
          | refine s_val (v_moveT rfl) rfl ?_
        first
          | refine s_val (v_addN rfl rfl (by omega)) rfl ?_
          | refine s_val (v_addI rfl rfl (by omega)) rfl ?_
        refine s_val (v_remN (b := 5) rfl rfl (by omega) (by omega)) rfl ?_
        first
          | refine s_val (v_idxA1 rfl rfl Tryz.underlying213 sz_70 (by omega)) rfl ?_
          | refine s_val (v_idxA rfl rfl Tryz.underlying213 sz_70 (by omega)) rfl ?_
        refine s_val (v_load64 rfl rfl row_70 LT_) rfl ?_
        first
          | refine s_val (v_moveC rfl) rfl ?_
          | refine s_val (v_moveA rfl) rfl ?_
          | refine s_val (v_moveT rfl) rfl ?_
        refine s_val (v_add64 rfl rfl) rfl ?_
        first
          | refine s_val (v_idxA1 rfl rfl Tryz.underlying213 sz_70 (by omega)) rfl ?_
          | refine s_val (v_idxA rfl rfl Tryz.underlying213 sz_70 (by omega)) rfl ?_
        refine s_store64 rfl rfl rfl sz_70 LT_ SET_ ?_
        refine s_nil ?_
        refine S_ ?_
        refine c_region ?_
        first
          | refine s_val (v_addN (b := 1) rfl rfl (by omega)) rfl ?_
          | refine s_val (v_addI rfl rfl (by omega)) rfl ?_
        first
          | refine s_val (v_moveC rfl) rfl ?_
          | refine s_val (v_moveA rfl) rfl ?_
          | refine s_val (v_moveT rfl) rfl ?_
        refine s_nil ?_
        exact ⟨_, by kernel_rfl, rfl⟩
      · rw [if_neg h5]
        refine S_ ?_
        refine c_region ?_
        first
          | refine s_val (v_moveC rfl) rfl ?_
          | refine s_val (v_moveA rfl) rfl ?_
          | refine s_val (v_moveT rfl) rfl ?_
        first
          | refine s_val (v_moveC rfl) rfl ?_
          | refine s_val (v_moveA rfl) rfl ?_
          | refine s_val (v_moveT rfl) rfl ?_
        first
          | refine s_val (v_addN rfl rfl (by omega)) rfl ?_
          | refine s_val (v_addI rfl rfl (by omega)) rfl ?_
        refine s_val (v_remN (b := 5) rfl rfl (by omega) (by omega)) rfl ?_
        first
          | refine s_val (v_idxA1 rfl rfl Tryz.underlying213 sz_70 (by omega)) rfl ?_
          | refine s_val (v_idxA rfl rfl Tryz.underlying213 sz_70 (by omega)) rfl ?_
        refine s_val (v_load64 rfl rfl row_70 LT_) rfl ?_
        first
          | refine s_val (v_moveC rfl) rfl ?_
          | refine s_val (v_moveA rfl) rfl ?_
          | refine s_val (v_moveT rfl) rfl ?_
        refine s_val (v_add64 rfl rfl) rfl ?_
        first
          | refine s_val (v_idxA1 rfl rfl Tryz.underlying213 sz_70 (by omega)) rfl ?_
          | refine s_val (v_idxA rfl rfl Tryz.underlying213 sz_70 (by omega)) rfl ?_
        refine s_store64 rfl rfl rfl sz_70 LT_ SET_ ?_
        refine s_nil ?_
        refine S_ ?_
        refine c_region ?_
        first
          | refine s_val (v_addN (b := 1) rfl rfl (by omega)) rfl ?_
          | refine s_val (v_addI rfl rfl (by omega)) rfl ?_
        first
          | refine s_val (v_moveC rfl) rfl ?_
          | refine s_val (v_moveA rfl) rfl ?_
          | refine s_val (v_moveT rfl) rfl ?_
        refine s_nil ?_
        exact ⟨_, by kernel_rfl, rfl⟩
    · dsimp only
      have h3 : (mulRow a b S i 5).length = 5 := by rw [mulRow_length, h1]
      refine S_ ?_
      refine c_region ?_
      first
        | refine s_val (v_lssN (b := 5) rfl rfl) rfl ?_
        | refine s_val (v_lssI rfl rfl) rfl ?_
      refine s_nil ?_
      refine S_ ?_
      refine c_region ?_
      first
        | refine s_val (v_addN (b := 1) rfl rfl (by omega)) rfl ?_
        | refine s_val (v_addI rfl rfl (by omega)) rfl ?_
      first
        | refine s_val (v_moveC rfl) rfl ?_
        | refine s_val (v_moveA rfl) rfl ?_
        | refine s_val (v_moveT rfl) rfl ?_
      refine s_nil ?_
      exact ⟨_, by kernel_rfl, rfl⟩
  · dsimp only
    have h1 : (mulAll a b 5).length = 5 := mulAll_length a b 5
    rw [timesL_eq]
    generalize mulAll a b 5 = S at *
    refine S_ ?_
    refine c_region ?_
    first
      | refine s_val (v_lssN (b := 5) rfl rfl) rfl ?_
      | refine s_val (v_lssI rfl rfl) rfl ?_
    refine s_nil ?_
    refine S_ ?_
    refine c_region ?_
    first
      | refine s_val (v_loadR rfl rfl row_213 sz_213 EQ_ (by decide)) rfl ?_
      | refine s_val (v_loadW8 rfl rfl row_213 sz_213 LE_ (by decide)) rfl ?_
      | refine s_val (v_loadW64 rfl rfl row_213 sz_213 LE_ (by decide)) rfl ?_
    refine s_evN (e_callR (carried_ev _ h1) ok_197 rfl rfl rfl VAL_) APP_ rfl ?_
    refine s_evN (e_callR (carried_ev _ (by rw [carriedL_length]; exact h1)) ok_197 rfl rfl rfl VAL_) APP_ rfl ?_
    refine s_storeR rfl rfl rfl rfl sz_213 EQ_ EQ_ SET_ ?_
    refine s_nil ?_
    refine S_ ?_
    exact k_1 (r_row rfl rfl row_213 sz_213 EQ_ (by decide)) (by first | kernel_rfl | rfl)
end Go.Proofs.YtmbepikkgkcgkaaGreatDoor
namespace Go.Proofs.YtmbepikkgkcgkaaGreatDoor
open Go.RowKit
theorem addC_le (x y c : BitVec 64) (h : c.toNat ≤ 1) : (addC x y c).toNat ≤ 1 := by
  unfold addC
  rw [BitVec.toNat_ofNat]
  have := x.isLt
  have := y.isLt
  omega
def modL (h : List (BitVec 64)) : List (BitVec 64) :=
  if 0 < (carrySt (put (carriedL (carriedL (carriedL h))) 0 (nth (carriedL (carriedL (carriedL h))) 0 + 5#64)) 5).2.toNat
  then (carrySt (put (carriedL (carriedL (carriedL h))) 0 (nth (carriedL (carriedL (carriedL h))) 0 + 5#64)) 5).1 else carriedL (carriedL (carriedL h))
def loL (h : List (BitVec 64)) : BitVec 64 := (nth h 0 ||| (nth h 1 <<< 26)) ||| (nth h 2 <<< 52)
def hiL (h : List (BitVec 64)) : BitVec 64 := ((nth h 2 >>> 12) ||| (nth h 3 <<< 14)) ||| (nth h 4 <<< 40)
def sixteen (lo hi : BitVec 64) : Nat → List (BitVec 8)
  | 0 => zer8 16
  | k + 1 => put (put (sixteen lo hi k) k ((lo >>> (8 * k)).setWidth 8)) (8 + k) ((hi >>> (8 * k)).setWidth 8)
theorem sixteen_length (lo hi : BitVec 64) (k : Nat) : (sixteen lo hi k).length = 16 := by
  induction k with
  | zero => rfl
  | succ k ih => simp [sixteen, ih]
def tagEnd (h : List (BitVec 64)) (key : List (BitVec 8)) : List (BitVec 8) :=
  sixteen (loL (modL h) + lowAt key 16 8 + 0#64) (hiL (modL h) + lowAt key 24 8 + addC (loL (modL h)) (lowAt key 16 8) 0#64) 8
theorem tagEnd_eq (h : List (BitVec 64)) (key : List (BitVec 8)) : tagEnd h key = sixteen (loL (modL h) + lowAt key 16 8 + 0#64) (hiL (modL h) + lowAt key 24 8 + addC (loL (modL h)) (lowAt key 16 8) 0#64) 8 := rfl
@[simp] theorem tagEnd_length (h : List (BitVec 64)) (key : List (BitVec 8)) : (tagEnd h key).length = 16 := by rw [tagEnd_eq, sixteen_length]
theorem modL_eq (h S : List (BitVec 64)) (e : carriedL (carriedL (carriedL h)) = S) : modL h = if 0 < (carrySt (put S 0 (nth S 0 + 5#64)) 5).2.toNat then (carrySt (put S 0 (nth S 0 + 5#64)) 5).1 else S := by subst e; rfl
theorem modL_length (h : List (BitVec 64)) : (modL h).length = h.length := by
  unfold modL
  split <;> simp [carrySt_length]
attribute [irreducible] tagEnd loL hiL modL
attribute [local irreducible] lowAt
set_option maxRecDepth 100000 in
set_option maxHeartbeats 1000000 in
theorem tag_ev (h : List (BitVec 64)) (key : List (BitVec 8)) (hh : h.length = 5) (hk : key.length = 32) : Ev Tryz.prog (.call 186 [.agg (.a64 h), .agg (.a8 key)] []) (.val (.agg (.a8 (tagEnd h key))) []) := by
  have hS : (carriedL (carriedL (carriedL h))).length = 5 := by simp [hh]
  have hM := modL_eq h _ rfl
  have hE := tagEnd_eq h key
  refine c_call Tryz.func186 rfl Tryz.ntmps186 rfl LEN_ ?_
  refine S_ ?_
  refine c_region ?_
  refine s_memN (m_box BX_ LEN_) APP_ rfl ?_
  refine s_memN (m_box BX_ LEN_) APP_ rfl ?_
  refine s_memN (m_alloc al_121 LEN_) APP_ rfl ?_
  refine s_nil ?_
  refine S_ ?_
  refine c_region ?_
  first
    | refine s_val (v_loadR rfl rfl row_213 sz_213 EQ_ (by decide)) rfl ?_
    | refine s_val (v_loadW8 rfl rfl row_213 sz_213 LE_ (by decide)) rfl ?_
    | refine s_val (v_loadW64 rfl rfl row_213 sz_213 LE_ (by decide)) rfl ?_
  refine s_evN (e_callR (carried_ev _ hh) ok_197 rfl rfl rfl VAL_) APP_ rfl ?_
  refine s_evN (e_callR (carried_ev _ (by simp [hh])) ok_197 rfl rfl rfl VAL_) APP_ rfl ?_
  refine s_evN (e_callR (carried_ev _ (by simp [hh])) ok_197 rfl rfl rfl VAL_) APP_ rfl ?_
  refine s_storeR rfl rfl rfl rfl sz_213 EQ_ EQ_ SET_ ?_
  refine s_nil ?_
  generalize carriedL (carriedL (carriedL h)) = S at *
  refine S_ ?_
  refine c_region ?_
  first
    | refine s_val (v_loadR rfl rfl row_213 sz_213 EQ_ (by decide)) rfl ?_
    | refine s_val (v_loadW8 rfl rfl row_213 sz_213 LE_ (by decide)) rfl ?_
    | refine s_val (v_loadW64 rfl rfl row_213 sz_213 LE_ (by decide)) rfl ?_
  refine s_memN (m_alloc al_213 LEN_) APP_ rfl ?_
  refine s_storeR rfl rfl rfl rfl sz_213 EQ_ EQ_ SET_ ?_
  refine s_nil ?_
  refine S_ ?_
  refine c_region ?_
  first
    | refine s_val (v_idxA1 (j := 0) rfl rfl Tryz.underlying213 sz_70 (by omega)) rfl ?_
    | refine s_val (v_idxA (j := 0) rfl rfl Tryz.underlying213 sz_70 (by omega)) rfl ?_
  refine s_val (v_load64 rfl rfl row_70 LT_) rfl ?_
  refine s_val (v_add64 (b := 5#64) rfl rfl) rfl ?_
  first
    | refine s_val (v_idxA1 (j := 0) rfl rfl Tryz.underlying213 sz_70 (by omega)) rfl ?_
    | refine s_val (v_idxA (j := 0) rfl rfl Tryz.underlying213 sz_70 (by omega)) rfl ?_
  refine s_store64 rfl rfl rfl sz_70 LT_ SET_ ?_
  refine s_nil ?_
  refine S_ ?_
  refine c_region ?_
  refine s_val (v_assignC rfl) rfl ?_
  refine s_nil ?_
  refine S_ ?_
  refine c_region ?_
  refine s_val (v_moveC rfl) rfl ?_
  refine s_nil ?_
  refine S_ ?_
  refine c_loopC [2, 3, 4, 5, 6, 21] (fun (x : Nat × List (BitVec 64) × BitVec 64) => ⟨99, keepT [2, 3, 4, 5, 6, 21] [.c (.ptr 0 0), .c (.ptr 1 0), .c (.ptr 2 0), .c (.ptr 3 0), .c (.val (U64 (x.2.2))), .c (.val (.int .i64 (x.1)))], [.row true (.a64 (S)), .row true (.a8 (key)), .row true (.a8 (zer8 16)), .row true (.a64 (x.2.1))]⟩) (fun j => (j, carrySt (put S 0 (nth S 0 + 5#64)) j)) (5) (by kernel_rfl) ?_ ?_
  · intro j hj
    have h1 : (carrySt (put S 0 (nth S 0 + 5#64)) j).1.length = 5 := by rw [carrySt_length, put_length, hS]
    rw [carrySt_succ]
    generalize carrySt (put S 0 (nth S 0 + 5#64)) j = U at *
    obtain ⟨U, C⟩ := U
    dsimp only at h1 ⊢
    refine S_ ?_
    refine c_region ?_
    first
      | refine s_val (v_lssN (b := 5) rfl rfl) rfl ?_
      | refine s_val (v_lssI rfl rfl) rfl ?_
    refine s_nil ?_
    refine S_ ?_
    refine c_region ?_
    first
      | refine s_val (v_moveC rfl) rfl ?_
      | refine s_val (v_moveA rfl) rfl ?_
      | refine s_val (v_moveT rfl) rfl ?_
    first
      | refine s_val (v_assignC rfl) rfl ?_
      | refine s_val (v_assignA rfl) rfl ?_
      | refine s_val (v_assignT rfl) rfl ?_
    refine s_nil ?_
    refine S_ ?_
    refine c_region ?_
    first
      | refine s_val (v_moveC rfl) rfl ?_
      | refine s_val (v_moveA rfl) rfl ?_
      | refine s_val (v_moveT rfl) rfl ?_
    first
      | refine s_val (v_idxA1 rfl rfl Tryz.underlying213 sz_70 (by omega)) rfl ?_
      | refine s_val (v_idxA rfl rfl Tryz.underlying213 sz_70 (by omega)) rfl ?_
    refine s_val (v_load64 rfl rfl row_70 LT_) rfl ?_
    first
      | refine s_val (v_moveC rfl) rfl ?_
      | refine s_val (v_moveA rfl) rfl ?_
      | refine s_val (v_moveT rfl) rfl ?_
    refine s_val (v_add64 rfl rfl) rfl ?_
    first
      | refine s_val (v_idxA1 rfl rfl Tryz.underlying213 sz_70 (by omega)) rfl ?_
      | refine s_val (v_idxA rfl rfl Tryz.underlying213 sz_70 (by omega)) rfl ?_
    refine s_store64 rfl rfl rfl sz_70 LT_ SET_ ?_
    refine s_nil ?_
    refine S_ ?_
    refine c_region ?_
    first
      | refine s_val (v_moveC rfl) rfl ?_
      | refine s_val (v_moveA rfl) rfl ?_
      | refine s_val (v_moveT rfl) rfl ?_
    first
      | refine s_val (v_idxA1 rfl rfl Tryz.underlying213 sz_70 (by omega)) rfl ?_
      | refine s_val (v_idxA rfl rfl Tryz.underlying213 sz_70 (by omega)) rfl ?_
    refine s_val (v_load64 rfl rfl row_70 LT_) rfl ?_
    refine s_val (v_shr64n (j := 26) rfl rfl) rfl ?_
    first
      | refine s_val (v_assignC rfl) rfl ?_
      | refine s_val (v_assignA rfl) rfl ?_
      | refine s_val (v_assignT rfl) rfl ?_
    refine s_nil ?_
    refine S_ ?_
    refine c_region ?_
    first
      | refine s_val (v_moveC rfl) rfl ?_
      | refine s_val (v_moveA rfl) rfl ?_
      | refine s_val (v_moveT rfl) rfl ?_
    first
      | refine s_val (v_idxA1 rfl rfl Tryz.underlying213 sz_70 (by omega)) rfl ?_
      | refine s_val (v_idxA rfl rfl Tryz.underlying213 sz_70 (by omega)) rfl ?_
    refine s_val (v_load64 rfl rfl row_70 LT_) rfl ?_
    refine s_val (v_and64 (b := 67108863#64) rfl rfl) rfl ?_
    first
      | refine s_val (v_idxA1 rfl rfl Tryz.underlying213 sz_70 (by omega)) rfl ?_
      | refine s_val (v_idxA rfl rfl Tryz.underlying213 sz_70 (by omega)) rfl ?_
    refine s_store64 rfl rfl rfl sz_70 LT_ SET_ ?_
    refine s_nil ?_
    refine S_ ?_
    refine c_region ?_
    first
      | refine s_val (v_addN (b := 1) rfl rfl (by omega)) rfl ?_
      | refine s_val (v_addI rfl rfl (by omega)) rfl ?_
    first
      | refine s_val (v_moveC rfl) rfl ?_
      | refine s_val (v_moveA rfl) rfl ?_
      | refine s_val (v_moveT rfl) rfl ?_
    refine s_nil ?_
    refine ⟨(_, _, _), rfl, ?_⟩
    simp only [set_put, put_again, nth_put _ _ _ _ (show j < U.length by omega), if_true]
  · have h1 : (carrySt (put S 0 (nth S 0 + 5#64)) 5).1.length = 5 := by rw [carrySt_length, put_length, hS]
    generalize carrySt (put S 0 (nth S 0 + 5#64)) 5 = U at *
    obtain ⟨U, C⟩ := U
    dsimp only at h1 hM ⊢
    refine S_ ?_
    refine c_region ?_
    first
      | refine s_val (v_lssN (b := 5) rfl rfl) rfl ?_
      | refine s_val (v_lssI rfl rfl) rfl ?_
    refine s_nil ?_
    refine S_ ?_
    refine c_region ?_
    first
      | refine s_val (v_moveC rfl) rfl ?_
      | refine s_val (v_moveA rfl) rfl ?_
      | refine s_val (v_moveT rfl) rfl ?_
    refine s_val (v_gtr64 (b := 0#64) rfl rfl) rfl ?_
    refine s_nil ?_
    refine Q_ ?_
    refine c_join [2, 3, 4] (fun (x : List (BitVec 64)) => ⟨99, keepT [2, 3, 4] [.c (.ptr 0 0), .c (.ptr 1 0), .c (.ptr 2 0)], [.row true (.a64 (x)), .row true (.a8 (key)), .row true (.a8 (zer8 16))]⟩) (modL h) rfl (fun hb => ?_) (fun hb => ?_) ?_
    · refine S_ ?_
      refine S_ ?_
      refine c_region ?_
      first
        | refine s_val (v_loadR rfl rfl row_213 sz_213 EQ_ (by decide)) rfl ?_
        | refine s_val (v_loadW8 rfl rfl row_213 sz_213 LE_ (by decide)) rfl ?_
        | refine s_val (v_loadW64 rfl rfl row_213 sz_213 LE_ (by decide)) rfl ?_
      refine s_storeR rfl rfl rfl rfl sz_213 EQ_ EQ_ SET_ ?_
      refine s_nil ?_
      refine ⟨_, rfl, ?_⟩
      rw [hM, if_pos (show 0 < C.toNat from of_decide_eq_true hb)]
    · refine S_ ?_
      refine ⟨_, rfl, ?_⟩
      rw [hM, if_neg (show ¬ 0 < C.toNat from of_decide_eq_false hb)]
    have hL : (modL h).length = 5 := by rw [modL_length, hh]
    have hlo : loL (modL h) = (nth (modL h) 0 ||| (nth (modL h) 1 <<< 26)) ||| (nth (modL h) 2 <<< 52) := by with_unfolding_all rfl
    have hhi : hiL (modL h) = ((nth (modL h) 2 >>> 12) ||| (nth (modL h) 3 <<< 14)) ||| (nth (modL h) 4 <<< 40) := by with_unfolding_all rfl
    rw [hlo, hhi] at hE
    clear hM hlo hhi
    generalize modL h = U at *
    refine S_ ?_
    refine c_region ?_
    first
      | refine s_val (v_idxA1 (j := 0) rfl rfl Tryz.underlying213 sz_70 (by omega)) rfl ?_
      | refine s_val (v_idxA (j := 0) rfl rfl Tryz.underlying213 sz_70 (by omega)) rfl ?_
    refine s_val (v_load64 rfl rfl row_70 LT_) rfl ?_
    first
      | refine s_val (v_idxA1 (j := 1) rfl rfl Tryz.underlying213 sz_70 (by omega)) rfl ?_
      | refine s_val (v_idxA (j := 1) rfl rfl Tryz.underlying213 sz_70 (by omega)) rfl ?_
    refine s_val (v_load64 rfl rfl row_70 LT_) rfl ?_
    refine s_val (v_shl64n (j := 26) rfl rfl) rfl ?_
    refine s_val (v_or64 rfl rfl) rfl ?_
    first
      | refine s_val (v_idxA1 (j := 2) rfl rfl Tryz.underlying213 sz_70 (by omega)) rfl ?_
      | refine s_val (v_idxA (j := 2) rfl rfl Tryz.underlying213 sz_70 (by omega)) rfl ?_
    refine s_val (v_load64 rfl rfl row_70 LT_) rfl ?_
    refine s_val (v_shl64n (j := 52) rfl rfl) rfl ?_
    refine s_val (v_or64 rfl rfl) rfl ?_
    first
      | refine s_val (v_assignC rfl) rfl ?_
      | refine s_val (v_assignA rfl) rfl ?_
      | refine s_val (v_assignT rfl) rfl ?_
    refine s_nil ?_
    refine S_ ?_
    refine c_region ?_
    first
      | refine s_val (v_idxA1 (j := 2) rfl rfl Tryz.underlying213 sz_70 (by omega)) rfl ?_
      | refine s_val (v_idxA (j := 2) rfl rfl Tryz.underlying213 sz_70 (by omega)) rfl ?_
    refine s_val (v_load64 rfl rfl row_70 LT_) rfl ?_
    refine s_val (v_shr64n (j := 12) rfl rfl) rfl ?_
    first
      | refine s_val (v_idxA1 (j := 3) rfl rfl Tryz.underlying213 sz_70 (by omega)) rfl ?_
      | refine s_val (v_idxA (j := 3) rfl rfl Tryz.underlying213 sz_70 (by omega)) rfl ?_
    refine s_val (v_load64 rfl rfl row_70 LT_) rfl ?_
    refine s_val (v_shl64n (j := 14) rfl rfl) rfl ?_
    refine s_val (v_or64 rfl rfl) rfl ?_
    first
      | refine s_val (v_idxA1 (j := 4) rfl rfl Tryz.underlying213 sz_70 (by omega)) rfl ?_
      | refine s_val (v_idxA (j := 4) rfl rfl Tryz.underlying213 sz_70 (by omega)) rfl ?_
    refine s_val (v_load64 rfl rfl row_70 LT_) rfl ?_
    refine s_val (v_shl64n (j := 40) rfl rfl) rfl ?_
    refine s_val (v_or64 rfl rfl) rfl ?_
    first
      | refine s_val (v_assignC rfl) rfl ?_
      | refine s_val (v_assignA rfl) rfl ?_
      | refine s_val (v_assignT rfl) rfl ?_
    refine s_nil ?_
    refine S_ ?_
    refine c_region ?_
    first
      | refine s_val (v_moveC rfl) rfl ?_
      | refine s_val (v_moveA rfl) rfl ?_
      | refine s_val (v_moveT rfl) rfl ?_
    first
      | refine s_val (v_slA1 (l := 16) (h := 24) (len := 8) (cp := 16) rfl Tryz.underlying37 sz_5 rfl rfl rfl (by omega) (by omega) FIT_ rfl rfl) rfl ?_
      | refine s_val (v_slA (l := 16) (h := 24) rfl Tryz.underlying37 sz_5 rfl rfl rfl (by omega) (by omega) FIT_) rfl ?_
    refine s_evN (e_callR (low_ev key _ 8 _ (by omega) (by omega)) ok_196 rfl rfl rfl VAL_) APP_ rfl ?_
    refine s_evN (e_add ext_162 rfl rfl rfl (c := 0#64) rfl (by decide)) APP_ rfl ?_
    first
      | refine s_val (v_moveC rfl) rfl ?_
      | refine s_val (v_moveA rfl) rfl ?_
      | refine s_val (v_moveT rfl) rfl ?_
    refine s_val (v_extract rfl rfl) rfl ?_
    refine s_val (v_extract rfl rfl) rfl ?_
    first
      | refine s_val (v_assignC rfl) rfl ?_
      | refine s_val (v_assignA rfl) rfl ?_
      | refine s_val (v_assignT rfl) rfl ?_
    first
      | refine s_val (v_assignC rfl) rfl ?_
      | refine s_val (v_assignA rfl) rfl ?_
      | refine s_val (v_assignT rfl) rfl ?_
    refine s_nil ?_
    refine S_ ?_
    refine c_region ?_
    first
      | refine s_val (v_moveC rfl) rfl ?_
      | refine s_val (v_moveA rfl) rfl ?_
      | refine s_val (v_moveT rfl) rfl ?_
    first
      | refine s_val (v_slA1 (l := 24) (h := 32) (len := 8) (cp := 8) rfl Tryz.underlying37 sz_5 rfl rfl rfl (by omega) (by omega) FIT_ rfl rfl) rfl ?_
      | refine s_val (v_slA (l := 24) (h := 32) rfl Tryz.underlying37 sz_5 rfl rfl rfl (by omega) (by omega) FIT_) rfl ?_
    refine s_evN (e_callR (low_ev key _ 8 _ (by omega) (by omega)) ok_196 rfl rfl rfl VAL_) APP_ rfl ?_
    first
      | refine s_val (v_moveC rfl) rfl ?_
      | refine s_val (v_moveA rfl) rfl ?_
      | refine s_val (v_moveT rfl) rfl ?_
    refine s_evN (e_add ext_162 rfl rfl rfl rfl (addC_le _ _ _ (by decide))) APP_ rfl ?_
    first
      | refine s_val (v_moveC rfl) rfl ?_
      | refine s_val (v_moveA rfl) rfl ?_
      | refine s_val (v_moveT rfl) rfl ?_
    refine s_val (v_extract rfl rfl) rfl ?_
    refine s_val (v_extract rfl rfl) rfl ?_
    first
      | refine s_val (v_assignC rfl) rfl ?_
      | refine s_val (v_assignA rfl) rfl ?_
      | refine s_val (v_assignT rfl) rfl ?_
    refine s_nil ?_
    refine S_ ?_
    refine c_region ?_
    refine s_memN (m_alloc al_121 LEN_) APP_ rfl ?_
    refine s_nil ?_
    refine S_ ?_
    refine c_region ?_
    refine s_val (v_moveC rfl) rfl ?_
    refine s_nil ?_
    rw [hE]
    generalize (nth U 0 ||| nth U 1 <<< 26 ||| nth U 2 <<< 52) + lowAt key 16 8 + 0#64 = lo
    generalize (nth U 2 >>> 12 ||| nth U 3 <<< 14 ||| nth U 4 <<< 40) + lowAt key 24 8 + addC (nth U 0 ||| nth U 1 <<< 26 ||| nth U 2 <<< 52) (lowAt key 16 8) 0#64 = hi
    refine S_ ?_
    refine c_loopC [4, 8, 9, 10, 79] (fun (x : Nat × List (BitVec 8)) => ⟨99, keepT [4, 8, 9, 10, 79] [.c (.ptr 0 0), .c (.val (U64 (lo))), .c (.val (U64 (hi))), .c (.ptr 1 0), .c (.val (.int .i64 (x.1)))], [.row true (.a8 (zer8 16)), .row true (.a8 (x.2))]⟩) (fun j => (j, sixteen lo hi j)) (8) (by kernel_rfl) ?_ ?_
    · intro j hj
      have h2 : (sixteen lo hi j).length = 16 := sixteen_length lo hi j
      simp only [sixteen]
      generalize sixteen lo hi j = V at *
      refine S_ ?_
      refine c_region ?_
      first
        | refine s_val (v_lssN (b := 8) rfl rfl) rfl ?_
        | refine s_val (v_lssI rfl rfl) rfl ?_
      refine s_nil ?_
      refine S_ ?_
      refine c_region ?_
      first
        | refine s_val (v_moveC rfl) rfl ?_
        | refine s_val (v_moveA rfl) rfl ?_
        | refine s_val (v_moveT rfl) rfl ?_
      first
        | refine s_val (v_assignC rfl) rfl ?_
        | refine s_val (v_assignA rfl) rfl ?_
        | refine s_val (v_assignT rfl) rfl ?_
      refine s_nil ?_
      refine S_ ?_
      refine c_stores mixed (by kernel_rfl) ?_
      first
        | refine d_val (v_moveC rfl) rfl ?_
        | refine d_val (v_moveA rfl) rfl ?_
        | refine d_val (v_moveT rfl) rfl ?_
      first
        | refine d_val (v_moveC rfl) rfl ?_
        | refine d_val (v_moveA rfl) rfl ?_
        | refine d_val (v_moveT rfl) rfl ?_
      first
        | refine d_val (v_addN (a := 8) rfl rfl (by omega)) rfl ?_
        | refine d_val (v_addI rfl rfl (by omega)) rfl ?_
      first
        | refine d_val (v_moveC rfl) rfl ?_
        | refine d_val (v_moveA rfl) rfl ?_
        | refine d_val (v_moveT rfl) rfl ?_
      first
        | refine d_val (v_moveC rfl) rfl ?_
        | refine d_val (v_moveA rfl) rfl ?_
        | refine d_val (v_moveT rfl) rfl ?_
      refine d_val (v_mulN (a := 8) rfl rfl (by omega)) rfl ?_
      refine d_val (v_shr64n rfl rfl) rfl ?_
      refine d_val (v_conv rfl Tryz.underlying70 Tryz.underlying5 (w64_8 _)) rfl ?_
      first
        | refine d_val (v_moveC rfl) rfl ?_
        | refine d_val (v_moveA rfl) rfl ?_
        | refine d_val (v_moveT rfl) rfl ?_
      first
        | refine d_val (v_moveC rfl) rfl ?_
        | refine d_val (v_moveA rfl) rfl ?_
        | refine d_val (v_moveT rfl) rfl ?_
      refine d_val (v_mulN (a := 8) rfl rfl (by omega)) rfl ?_
      refine d_val (v_shr64n rfl rfl) rfl ?_
      refine d_val (v_conv rfl Tryz.underlying70 Tryz.underlying5 (w64_8 _)) rfl ?_
      first
        | refine d_val (v_idxA1 rfl rfl Tryz.underlying121 sz_5 (by omega)) rfl ?_
        | refine d_val (v_idxA rfl rfl Tryz.underlying121 sz_5 (by omega)) rfl ?_
      refine d_store8 rfl rfl rfl sz_5 LT_ SET_ ?_
      first
        | refine d_val (v_idxA1 rfl rfl Tryz.underlying121 sz_5 (by omega)) rfl ?_
        | refine d_val (v_idxA rfl rfl Tryz.underlying121 sz_5 (by omega)) rfl ?_
      refine d_store8 rfl rfl rfl sz_5 LT_ SET_ ?_
      refine d_nil ?_
      refine S_ ?_
      refine c_region ?_
      first
        | refine s_val (v_addN (b := 1) rfl rfl (by omega)) rfl ?_
        | refine s_val (v_addI rfl rfl (by omega)) rfl ?_
      first
        | refine s_val (v_moveC rfl) rfl ?_
        | refine s_val (v_moveA rfl) rfl ?_
        | refine s_val (v_moveT rfl) rfl ?_
      refine s_nil ?_
      exact ⟨_, by kernel_rfl, rfl⟩
    · dsimp only
      have h2 : (sixteen lo hi 8).length = 16 := sixteen_length lo hi 8
      generalize sixteen lo hi 8 = V at *
      refine S_ ?_
      refine c_region ?_
      first
        | refine s_val (v_lssN (b := 8) rfl rfl) rfl ?_
        | refine s_val (v_lssI rfl rfl) rfl ?_
      refine s_nil ?_
      refine S_ ?_
      refine c_region ?_
      first
        | refine s_val (v_loadR rfl rfl row_121 sz_121 EQ_ (by decide)) rfl ?_
        | refine s_val (v_loadW8 rfl rfl row_121 sz_121 LE_ (by decide)) rfl ?_
        | refine s_val (v_loadW64 rfl rfl row_121 sz_121 LE_ (by decide)) rfl ?_
      refine s_storeR rfl rfl rfl rfl sz_121 EQ_ EQ_ SET_ ?_
      refine s_nil ?_
      refine S_ ?_
      exact k_1 (r_row rfl rfl row_121 sz_121 EQ_ (by decide)) (by first | kernel_rfl | rfl)
end Go.Proofs.YtmbepikkgkcgkaaGreatDoor
namespace Go.Proofs.YtmbepikkgkcgkaaGreatDoor
open Go.RowKit
def clampA (l : List (BitVec 8)) : Nat → List (BitVec 8)
  | 0 => l
  | k + 1 => put (clampA l k) (4 * k + 3) (nth (clampA l k) (4 * k + 3) &&& 15#8)
def clampB (l : List (BitVec 8)) : Nat → List (BitVec 8)
  | 0 => l
  | k + 1 => put (clampB l k) (4 * k + 4) (nth (clampB l k) (4 * k + 4) &&& 252#8)
theorem clampA_length (l : List (BitVec 8)) (k : Nat) : (clampA l k).length = l.length := by
  induction k with
  | zero => rfl
  | succ k ih => simp [clampA, ih]
theorem clampB_length (l : List (BitVec 8)) (k : Nat) : (clampB l k).length = l.length := by
  induction k with
  | zero => rfl
  | succ k ih => simp [clampB, ih]
def rBytes (key : List (BitVec 8)) : List (BitVec 8) := clampB (clampA (cut key 0 16) 4) 3 ++ [0#8]
def wordsL (b : List (BitVec 8)) : Nat → List (BitVec 64)
  | 0 => zer64 5
  | k + 1 => put (wordsL b k) k (wordAt b (26 * k))
theorem wordsL_length (b : List (BitVec 8)) (k : Nat) : (wordsL b k).length = 5 := by
  induction k with
  | zero => rfl
  | succ k ih => simp [wordsL, ih]
def hAdd (p : List (BitVec 8)) (h : List (BitVec 64)) : Nat → List (BitVec 64)
  | 0 => h
  | k + 1 => put (hAdd p h k) k (nth (hAdd p h k) k + wordAt p (26 * k))
theorem hAdd_length (p : List (BitVec 8)) (h : List (BitVec 64)) (k : Nat) : (hAdd p h k).length = h.length := by
  induction k with
  | zero => rfl
  | succ k ih => simp [hAdd, ih]
def padL (l : List (BitVec 8)) : Nat → List (BitVec 8)
  | 0 => l
  | k + 1 => padL l k ++ [0#8]
theorem padL_length (l : List (BitVec 8)) (k : Nat) : (padL l k).length = l.length + k := by
  induction k with
  | zero => rfl
  | succ k ih => simp [padL, ih]; omega
def piece (t : List (BitVec 8)) (i : Nat) : List (BitVec 8) := cut t i (min (i + 16) t.length - i) ++ [1#8]
def tagSt (r : List (BitVec 64)) (t : List (BitVec 8)) : Nat → List (BitVec 64)
  | 0 => zer64 5
  | q + 1 => timesL (hAdd (padL (piece t (16 * q)) (17 - (piece t (16 * q)).length)) (tagSt r t q) 5) r
theorem tagSt_length (r : List (BitVec 64)) (t : List (BitVec 8)) (q : Nat) : (tagSt r t q).length = 5 := by
  cases q with
  | zero => rfl
  | succ q => rw [tagSt, timesL_length]
def polyTag (key t : List (BitVec 8)) : List (BitVec 8) := tagEnd (tagSt (wordsL (rBytes key) 5) t ((t.length + 15) / 16)) key
theorem three7 {j : Nat} (h : j < 4) : ntn [3, 7, 11, 15] j = 4 * j + 3 := by
  match j, h with
  | 0, _ => rfl
  | 1, _ => rfl
  | 2, _ => rfl
  | 3, _ => rfl
theorem four8 {j : Nat} (h : j < 3) : ntn [4, 8, 12] j = 4 * j + 4 := by
  match j, h with
  | 0, _ => rfl
  | 1, _ => rfl
  | 2, _ => rfl
attribute [local irreducible] wordAt
set_option maxRecDepth 100000 in
set_option maxHeartbeats 2000000 in
theorem polyTag_ev (key t : List (BitVec 8)) (n cap : Nat) (hk : key.length = 32) (ht : t.length = n) (hn : n ≤ 1099511627776) : Ev Tryz.prog (.call 147 [.agg (.a8 key), .c (.sl 0 0 n cap 1)] [.row false (.a8 t)]) (.val (.agg (.a8 (polyTag key t))) [.row false (.a8 t)]) := by
  have hP : polyTag key t = tagEnd (tagSt (wordsL (clampB (clampA (cut key 0 16) 4) 3 ++ [0#8]) 5) t ((n + 15) / 16)) key := by rw [← ht]; rfl
  have hcut : (cut key 0 16).length = 16 := by rw [cut_length]; omega
  refine c_call Tryz.func147 rfl Tryz.ntmps147 rfl LEN_ ?_
  refine S_ ?_
  refine c_region ?_
  refine s_memN (m_box BX_ LEN_) APP_ rfl ?_
  refine s_memN (m_alloc al_121 LEN_) APP_ rfl ?_
  refine s_nil ?_
  refine S_ ?_
  refine c_region ?_
  refine s_memN (m_bs0 Tryz.underlying23 el_5) APP_ rfl ?_
  first
    | refine s_val (v_slA1 (l := 0) (h := 16) (len := 16) (cp := 32) rfl Tryz.underlying37 sz_5 rfl rfl rfl (by omega) (by omega) FIT_ rfl rfl) rfl ?_
    | refine s_val (v_slA (l := 0) (h := 16) rfl Tryz.underlying37 sz_5 rfl rfl rfl (by omega) (by omega) FIT_) rfl ?_
  first
    | refine s_memN (m_appE8 rfl rfl rfl Tryz.underlying23 Tryz.underlying23 el_5 EQL_ (by omega) LEN_) APP_ rfl ?_
    | refine s_memN (m_appN8 rfl rfl rfl Tryz.underlying23 Tryz.underlying23 el_5 EQL_ (by omega) LEN_) APP_ rfl ?_
    | refine s_app8 rfl rfl rfl rfl Tryz.underlying23 Tryz.underlying23 el_5 EQL_ EQL_ (by omega) LEN_ KILL_ rfl ?_
    | refine s_memN (m_appE8c rfl rfl rfl Tryz.underlying23 Tryz.underlying23 el_5 LE_ (by omega) LEN_) APP_ rfl ?_
    | refine s_memN (m_appN8c rfl rfl rfl Tryz.underlying23 Tryz.underlying23 el_5 LE_ (by omega) LEN_) APP_ rfl ?_
    | refine s_app8c rfl rfl rfl rfl Tryz.underlying23 Tryz.underlying23 el_5 EQL_ LE_ (by omega) LEN_ KILL_ rfl ?_
    | refine s_memN (m_appZ rfl rfl Tryz.underlying23 Tryz.underlying23 el_5 rfl) APP_ rfl ?_
    | refine s_memN (m_appZe rfl rfl Tryz.underlying23 Tryz.underlying23 el_5 rfl) APP_ rfl ?_
    | refine s_memN (m_appNB rfl rfl Tryz.underlying23 Tryz.underlying23 el_5 EQL_ (by omega) LEN_) APP_ rfl ?_
    | refine s_memN (m_appEB rfl rfl Tryz.underlying23 Tryz.underlying23 el_5 EQL_ (by omega) LEN_) APP_ rfl ?_
    | refine s_appB rfl rfl rfl Tryz.underlying23 Tryz.underlying23 el_5 EQL_ EQL_ (by omega) LEN_ KILL_ rfl ?_
  first
    | refine s_val (v_assignC rfl) rfl ?_
    | refine s_val (v_assignA rfl) rfl ?_
    | refine s_val (v_assignT rfl) rfl ?_
  refine s_nil ?_
  refine S_ ?_
  refine c_region ?_
  refine s_memN (m_bsI (l := natI [3, 7, 11, 15]) Tryz.underlying41 el_3 rfl rfl (by decide) (by decide) LEN_) APP_ rfl ?_
  first
    | refine s_val (v_lenS rfl Tryz.underlying41) rfl ?_
    | refine s_val (v_lenN rfl Tryz.underlying41) rfl ?_
    | refine s_val (v_lenE rfl Tryz.underlying41) rfl ?_
    | refine s_val (v_lenB rfl Tryz.underlying41 rfl) rfl ?_
    | refine s_val (v_lenZ rfl Tryz.underlying41 rfl) rfl ?_
  refine s_val (v_moveC rfl) rfl ?_
  refine s_nil ?_
  generalize cut key 0 16 = K at *
  refine S_ ?_
  refine c_loopC [2, 4, 5, 19, 20, 21, 1] (fun (x : Nat × List (BitVec 8)) => ⟨101, keepT [2, 4, 5, 19, 20, 21, 1] [.c (.ptr 1 0), .c (.ptr 2 0), .c (.sl 3 0 16 16 1), .c (.sl 4 0 4 4 1), .c (.val (.int .i64 (((4 : Nat) : Int)))), .c (.val (.int .i64 (x.1))), .c (.sl 0 0 n cap 1)], [.row false (.a8 (t)), .row true (.a8 (key)), .row true (.a8 (zer8 16)), .row true (.a8 (x.2)), .row true (.ai (natI [3, 7, 11, 15]))]⟩) (fun j => (j, clampA K j)) (4) (by kernel_rfl) ?_ ?_
  · intro j hj
    have h1 : (clampA K j).length = 16 := by rw [clampA_length, hcut]
    simp only [clampA]
    generalize clampA K j = U at *
    refine S_ ?_
    refine c_region ?_
    first
      | refine s_val (v_lssN rfl rfl) rfl ?_
      | refine s_val (v_lssI rfl rfl) rfl ?_
    refine s_nil ?_
    refine S_ ?_
    refine c_region ?_
    first
      | refine s_val (v_idxS1 rfl rfl Tryz.underlying41 sz_3 (by omega)) rfl ?_
      | refine s_val (v_idxSo rfl rfl Tryz.underlying41 sz_3 (by omega)) rfl ?_
      | refine s_val (v_idxS rfl rfl Tryz.underlying41 sz_3 (by omega)) rfl ?_
      | refine s_val (v_idxZ rfl rfl Tryz.underlying41 sz_3 LT_) rfl ?_
    first
      | refine s_val (v_loadN rfl rfl row_3 LT_) rfl ?_
      | refine s_val (v_loadI rfl rfl row_3 LT_) rfl ?_
      | refine s_val (v_loadZ rfl row_3 LT_) rfl ?_
      | refine s_val (v_ndK rfl rfl rfl row_3 LT_) rfl ?_
    first
      | refine s_val (v_assignC rfl) rfl ?_
      | refine s_val (v_assignA rfl) rfl ?_
      | refine s_val (v_assignT rfl) rfl ?_
    refine s_nil ?_
    rw [three7 hj]
    refine S_ ?_
    refine c_region ?_
    first
      | refine s_val (v_moveC rfl) rfl ?_
      | refine s_val (v_moveA rfl) rfl ?_
      | refine s_val (v_moveT rfl) rfl ?_
    first
      | refine s_val (v_moveC rfl) rfl ?_
      | refine s_val (v_moveA rfl) rfl ?_
      | refine s_val (v_moveT rfl) rfl ?_
    first
      | refine s_val (v_idxS1 rfl rfl Tryz.underlying23 sz_5 (by omega)) rfl ?_
      | refine s_val (v_idxSo rfl rfl Tryz.underlying23 sz_5 (by omega)) rfl ?_
      | refine s_val (v_idxS rfl rfl Tryz.underlying23 sz_5 (by omega)) rfl ?_
      | refine s_val (v_idxB rfl rfl Tryz.underlying23 sz_5 LT_) rfl ?_
    first
      | refine s_val (v_load8 rfl rfl row_5 LT_) rfl ?_
      | refine s_val (v_loadQ rfl row_5 LT_) rfl ?_
    refine s_val (v_and8 (b := 15#8) rfl rfl) rfl ?_
    first
      | refine s_val (v_idxS1 rfl rfl Tryz.underlying23 sz_5 (by omega)) rfl ?_
      | refine s_val (v_idxSo rfl rfl Tryz.underlying23 sz_5 (by omega)) rfl ?_
      | refine s_val (v_idxS rfl rfl Tryz.underlying23 sz_5 (by omega)) rfl ?_
      | refine s_val (v_idxB rfl rfl Tryz.underlying23 sz_5 LT_) rfl ?_
    refine s_store8 rfl rfl rfl sz_5 LT_ SET_ ?_
    refine s_nil ?_
    refine S_ ?_
    refine c_region ?_
    first
      | refine s_val (v_addN (b := 1) rfl rfl (by omega)) rfl ?_
      | refine s_val (v_addI rfl rfl (by omega)) rfl ?_
    first
      | refine s_val (v_moveC rfl) rfl ?_
      | refine s_val (v_moveA rfl) rfl ?_
      | refine s_val (v_moveT rfl) rfl ?_
    refine s_nil ?_
    exact ⟨_, by kernel_rfl, rfl⟩
  · have h1 : (clampA K 4).length = 16 := by rw [clampA_length, hcut]
    generalize clampA K 4 = U at *
    dsimp only
    refine S_ ?_
    refine c_region ?_
    first
      | refine s_val (v_lssN rfl rfl) rfl ?_
      | refine s_val (v_lssI rfl rfl) rfl ?_
    refine s_nil ?_
    refine S_ ?_
    refine c_region ?_
    refine s_memN (m_bsI (l := natI [4, 8, 12]) Tryz.underlying41 el_3 rfl rfl (by decide) (by decide) LEN_) APP_ rfl ?_
    first
      | refine s_val (v_lenS rfl Tryz.underlying41) rfl ?_
      | refine s_val (v_lenN rfl Tryz.underlying41) rfl ?_
      | refine s_val (v_lenE rfl Tryz.underlying41) rfl ?_
      | refine s_val (v_lenB rfl Tryz.underlying41 rfl) rfl ?_
      | refine s_val (v_lenZ rfl Tryz.underlying41 rfl) rfl ?_
    refine s_val (v_moveC rfl) rfl ?_
    refine s_nil ?_
    refine S_ ?_
    refine c_loopC [2, 4, 5, 32, 33, 34, 1] (fun (x : Nat × List (BitVec 8)) => ⟨101, keepT [2, 4, 5, 32, 33, 34, 1] [.c (.ptr 1 0), .c (.ptr 2 0), .c (.sl 3 0 16 16 1), .c (.sl 4 0 3 3 1), .c (.val (.int .i64 (((3 : Nat) : Int)))), .c (.val (.int .i64 (x.1))), .c (.sl 0 0 n cap 1)], [.row false (.a8 (t)), .row true (.a8 (key)), .row true (.a8 (zer8 16)), .row true (.a8 (x.2)), .row true (.ai (natI [4, 8, 12]))]⟩) (fun j => (j, clampB U j)) (3) (by kernel_rfl) ?_ ?_
    · intro j hj
      have h2 : (clampB U j).length = 16 := by rw [clampB_length, h1]
      simp only [clampB]
      generalize clampB U j = V at *
      refine S_ ?_
      refine c_region ?_
      first
        | refine s_val (v_lssN rfl rfl) rfl ?_
        | refine s_val (v_lssI rfl rfl) rfl ?_
      refine s_nil ?_
      refine S_ ?_
      refine c_region ?_
      first
        | refine s_val (v_idxS1 rfl rfl Tryz.underlying41 sz_3 (by omega)) rfl ?_
        | refine s_val (v_idxSo rfl rfl Tryz.underlying41 sz_3 (by omega)) rfl ?_
        | refine s_val (v_idxS rfl rfl Tryz.underlying41 sz_3 (by omega)) rfl ?_
        | refine s_val (v_idxZ rfl rfl Tryz.underlying41 sz_3 LT_) rfl ?_
      first
        | refine s_val (v_loadN rfl rfl row_3 LT_) rfl ?_
        | refine s_val (v_loadI rfl rfl row_3 LT_) rfl ?_
        | refine s_val (v_loadZ rfl row_3 LT_) rfl ?_
        | refine s_val (v_ndK rfl rfl rfl row_3 LT_) rfl ?_
      first
        | refine s_val (v_assignC rfl) rfl ?_
        | refine s_val (v_assignA rfl) rfl ?_
        | refine s_val (v_assignT rfl) rfl ?_
      refine s_nil ?_
      rw [four8 hj]
      refine S_ ?_
      refine c_region ?_
      first
        | refine s_val (v_moveC rfl) rfl ?_
        | refine s_val (v_moveA rfl) rfl ?_
        | refine s_val (v_moveT rfl) rfl ?_
      first
        | refine s_val (v_moveC rfl) rfl ?_
        | refine s_val (v_moveA rfl) rfl ?_
        | refine s_val (v_moveT rfl) rfl ?_
      first
        | refine s_val (v_idxS1 rfl rfl Tryz.underlying23 sz_5 (by omega)) rfl ?_
        | refine s_val (v_idxSo rfl rfl Tryz.underlying23 sz_5 (by omega)) rfl ?_
        | refine s_val (v_idxS rfl rfl Tryz.underlying23 sz_5 (by omega)) rfl ?_
        | refine s_val (v_idxB rfl rfl Tryz.underlying23 sz_5 LT_) rfl ?_
      first
        | refine s_val (v_load8 rfl rfl row_5 LT_) rfl ?_
        | refine s_val (v_loadQ rfl row_5 LT_) rfl ?_
      refine s_val (v_and8 (b := 252#8) rfl rfl) rfl ?_
      first
        | refine s_val (v_idxS1 rfl rfl Tryz.underlying23 sz_5 (by omega)) rfl ?_
        | refine s_val (v_idxSo rfl rfl Tryz.underlying23 sz_5 (by omega)) rfl ?_
        | refine s_val (v_idxS rfl rfl Tryz.underlying23 sz_5 (by omega)) rfl ?_
        | refine s_val (v_idxB rfl rfl Tryz.underlying23 sz_5 LT_) rfl ?_
      refine s_store8 rfl rfl rfl sz_5 LT_ SET_ ?_
      refine s_nil ?_
      refine S_ ?_
      refine c_region ?_
      first
        | refine s_val (v_addN (b := 1) rfl rfl (by omega)) rfl ?_
        | refine s_val (v_addI rfl rfl (by omega)) rfl ?_
      first
        | refine s_val (v_moveC rfl) rfl ?_
        | refine s_val (v_moveA rfl) rfl ?_
        | refine s_val (v_moveT rfl) rfl ?_
      refine s_nil ?_
      exact ⟨_, by kernel_rfl, rfl⟩
    · have h2 : (clampB U 3).length = 16 := by rw [clampB_length, h1]
      generalize clampB U 3 = V at *
      dsimp only
      refine S_ ?_
      refine c_region ?_
      first
        | refine s_val (v_lssN rfl rfl) rfl ?_
        | refine s_val (v_lssI rfl rfl) rfl ?_
      refine s_nil ?_
      refine S_ ?_
      refine c_region ?_
      refine s_memN (m_alloc al_213 LEN_) APP_ rfl ?_
      refine s_memN (m_alloc al_213 LEN_) APP_ rfl ?_
      refine s_nil ?_
      refine S_ ?_
      refine c_region ?_
      first
        | refine s_val (v_moveC rfl) rfl ?_
        | refine s_val (v_moveA rfl) rfl ?_
        | refine s_val (v_moveT rfl) rfl ?_
      refine s_memN (m_bs8 (l := [0#8]) Tryz.underlying23 el_5 rfl rfl (by decide) (by decide) LEN_) APP_ rfl ?_
      first
        | refine s_memN (m_appE8 rfl rfl rfl Tryz.underlying23 Tryz.underlying23 el_5 EQL_ (by omega) LEN_) APP_ rfl ?_
        | refine s_memN (m_appN8 rfl rfl rfl Tryz.underlying23 Tryz.underlying23 el_5 EQL_ (by omega) LEN_) APP_ rfl ?_
        | refine s_app8 rfl rfl rfl rfl Tryz.underlying23 Tryz.underlying23 el_5 EQL_ EQL_ (by omega) LEN_ KILL_ rfl ?_
        | refine s_memN (m_appE8c rfl rfl rfl Tryz.underlying23 Tryz.underlying23 el_5 LE_ (by omega) LEN_) APP_ rfl ?_
        | refine s_memN (m_appN8c rfl rfl rfl Tryz.underlying23 Tryz.underlying23 el_5 LE_ (by omega) LEN_) APP_ rfl ?_
        | refine s_app8c rfl rfl rfl rfl Tryz.underlying23 Tryz.underlying23 el_5 EQL_ LE_ (by omega) LEN_ KILL_ rfl ?_
        | refine s_memN (m_appZ rfl rfl Tryz.underlying23 Tryz.underlying23 el_5 rfl) APP_ rfl ?_
        | refine s_memN (m_appZe rfl rfl Tryz.underlying23 Tryz.underlying23 el_5 rfl) APP_ rfl ?_
        | refine s_memN (m_appNB rfl rfl Tryz.underlying23 Tryz.underlying23 el_5 EQL_ (by omega) LEN_) APP_ rfl ?_
        | refine s_memN (m_appEB rfl rfl Tryz.underlying23 Tryz.underlying23 el_5 EQL_ (by omega) LEN_) APP_ rfl ?_
        | refine s_appB rfl rfl rfl Tryz.underlying23 Tryz.underlying23 el_5 EQL_ EQL_ (by omega) LEN_ KILL_ rfl ?_
      first
        | refine s_val (v_assignC rfl) rfl ?_
        | refine s_val (v_assignA rfl) rfl ?_
        | refine s_val (v_assignT rfl) rfl ?_
      refine s_nil ?_
      refine S_ ?_
      refine c_region ?_
      refine s_val (v_moveC rfl) rfl ?_
      refine s_nil ?_
      have h3 : (V ++ [0#8]).length = 17 := by simp [h2]
      generalize V ++ [0#8] = W at *
      refine S_ ?_
      refine c_loopC [2, 4, 5, 10, 11, 48, 1] (fun (x : Nat × List (BitVec 64)) => ⟨101, keepT [2, 4, 5, 10, 11, 48, 1] [.c (.ptr 1 0), .c (.ptr 2 0), .c (.sl 3 0 17 17 1), .c (.ptr 4 0), .c (.ptr 5 0), .c (.val (.int .i64 (x.1))), .c (.sl 0 0 n cap 1)], [.row false (.a8 (t)), .row true (.a8 (key)), .row true (.a8 (zer8 16)), .row true (.a8 (W)), .row true (.a64 (x.2)), .row true (.a64 (zer64 5))]⟩) (fun j => (j, wordsL W j)) (5) (by kernel_rfl) ?_ ?_
      · intro j hj
        have h4 : (wordsL W j).length = 5 := wordsL_length W j
        simp only [wordsL]
        generalize wordsL W j = X at *
        refine S_ ?_
        refine c_region ?_
        first
          | refine s_val (v_lssN (b := 5) rfl rfl) rfl ?_
          | refine s_val (v_lssI rfl rfl) rfl ?_
        refine s_nil ?_
        refine S_ ?_
        refine c_region ?_
        first
          | refine s_val (v_moveC rfl) rfl ?_
          | refine s_val (v_moveA rfl) rfl ?_
          | refine s_val (v_moveT rfl) rfl ?_
        first
          | refine s_val (v_assignC rfl) rfl ?_
          | refine s_val (v_assignA rfl) rfl ?_
          | refine s_val (v_assignT rfl) rfl ?_
        refine s_nil ?_
        refine S_ ?_
        refine c_region ?_
        first
          | refine s_val (v_moveC rfl) rfl ?_
          | refine s_val (v_moveA rfl) rfl ?_
          | refine s_val (v_moveT rfl) rfl ?_
        first
          | refine s_val (v_moveC rfl) rfl ?_
          | refine s_val (v_moveA rfl) rfl ?_
          | refine s_val (v_moveT rfl) rfl ?_
        first
          | refine s_val (v_moveC rfl) rfl ?_
          | refine s_val (v_moveA rfl) rfl ?_
          | refine s_val (v_moveT rfl) rfl ?_
        refine s_val (v_mulN (a := 26) rfl rfl (by omega)) rfl ?_
        refine s_evN (e_callR (word26_ev W 17 _ _ h3 (by omega) (by omega)) ok_184 rfl rfl rfl VAL_) APP_ rfl ?_
        first
          | refine s_val (v_idxA1 rfl rfl Tryz.underlying213 sz_70 (by omega)) rfl ?_
          | refine s_val (v_idxA rfl rfl Tryz.underlying213 sz_70 (by omega)) rfl ?_
        refine s_store64 rfl rfl rfl sz_70 LT_ SET_ ?_
        refine s_nil ?_
        refine S_ ?_
        refine c_region ?_
        first
          | refine s_val (v_addN (b := 1) rfl rfl (by omega)) rfl ?_
          | refine s_val (v_addI rfl rfl (by omega)) rfl ?_
        first
          | refine s_val (v_moveC rfl) rfl ?_
          | refine s_val (v_moveA rfl) rfl ?_
          | refine s_val (v_moveT rfl) rfl ?_
        refine s_nil ?_
        exact ⟨_, by kernel_rfl, rfl⟩
      · have h4 : (wordsL W 5).length = 5 := wordsL_length W 5
        generalize wordsL W 5 = X at *
        dsimp only
        refine S_ ?_
        refine c_region ?_
        first
          | refine s_val (v_lssN (b := 5) rfl rfl) rfl ?_
          | refine s_val (v_lssI rfl rfl) rfl ?_
        refine s_nil ?_
        refine S_ ?_
        refine c_region ?_
        refine s_val (v_assignC rfl) rfl ?_
        refine s_nil ?_
        refine S_ ?_
        refine c_loopC [2, 4, 10, 11, 13, 1] (fun (x : Nat × List (BitVec 64)) => ⟨101, keepT [2, 4, 10, 11, 13, 1] [.c (.ptr 1 0), .c (.ptr 2 0), .c (.ptr 3 0), .c (.ptr 4 0), .c (.val (.int .i64 (x.1))), .c (.sl 0 0 n cap 1)], [.row false (.a8 (t)), .row true (.a8 (key)), .row true (.a8 (zer8 16)), .row true (.a64 (X)), .row true (.a64 (x.2))]⟩) (fun q => (16 * q, tagSt X t q)) ((n + 15) / 16) (by kernel_rfl) ?_ ?_
        · intro q hq
          have h5 : (tagSt X t q).length = 5 := tagSt_length X t q
          have hp : piece t (16 * q) = cut t (16 * q) (min (16 * q + 16) n - 16 * q) ++ [1#8] := by rw [← ht]; rfl
          have hc : (cut t (16 * q) (min (16 * q + 16) n - 16 * q)).length = min (16 * q + 16) n - 16 * q := by rw [cut_length]; omega
          have hz : (cut t (16 * q) (min (16 * q + 16) n - 16 * q) ++ [1#8]).length = min (16 * q + 16) n - 16 * q + 1 := by rw [List.length_append, hc]; rfl
          rw [tagSt, hp, hz]
          generalize tagSt X t q = H at *
          refine S_ ?_
          refine c_region ?_
          first
            | refine s_val (v_moveC rfl) rfl ?_
            | refine s_val (v_moveA rfl) rfl ?_
            | refine s_val (v_moveT rfl) rfl ?_
          first
            | refine s_val (v_moveC rfl) rfl ?_
            | refine s_val (v_moveA rfl) rfl ?_
            | refine s_val (v_moveT rfl) rfl ?_
          first
            | refine s_val (v_lenS rfl Tryz.underlying23) rfl ?_
            | refine s_val (v_lenN rfl Tryz.underlying23) rfl ?_
            | refine s_val (v_lenE rfl Tryz.underlying23) rfl ?_
            | refine s_val (v_lenB rfl Tryz.underlying23 rfl) rfl ?_
            | refine s_val (v_lenZ rfl Tryz.underlying23 rfl) rfl ?_
          first
            | refine s_val (v_lssN rfl rfl) rfl ?_
            | refine s_val (v_lssI rfl rfl) rfl ?_
          refine s_nil ?_
          refine S_ ?_
          refine c_region ?_
          refine s_memN (m_bs0 Tryz.underlying23 el_5) APP_ rfl ?_
          first
            | refine s_val (v_moveC rfl) rfl ?_
            | refine s_val (v_moveA rfl) rfl ?_
            | refine s_val (v_moveT rfl) rfl ?_
          first
            | refine s_val (v_moveC rfl) rfl ?_
            | refine s_val (v_moveA rfl) rfl ?_
            | refine s_val (v_moveT rfl) rfl ?_
          first
            | refine s_val (v_moveC rfl) rfl ?_
            | refine s_val (v_moveA rfl) rfl ?_
            | refine s_val (v_moveT rfl) rfl ?_
          first
            | refine s_val (v_addN (b := 16) rfl rfl (by omega)) rfl ?_
            | refine s_val (v_addI rfl rfl (by omega)) rfl ?_
          first
            | refine s_val (v_moveC rfl) rfl ?_
            | refine s_val (v_moveA rfl) rfl ?_
            | refine s_val (v_moveT rfl) rfl ?_
          first
            | refine s_val (v_lenS rfl Tryz.underlying23) rfl ?_
            | refine s_val (v_lenN rfl Tryz.underlying23) rfl ?_
            | refine s_val (v_lenE rfl Tryz.underlying23) rfl ?_
            | refine s_val (v_lenB rfl Tryz.underlying23 rfl) rfl ?_
            | refine s_val (v_lenZ rfl Tryz.underlying23 rfl) rfl ?_
          first
            | refine s_val (v_minN rfl rfl) rfl ?_
            | refine s_val (v_minL rfl rfl (by omega)) rfl ?_
            | refine s_val (v_minR rfl rfl (by omega)) rfl ?_
          first
            | refine s_val (v_slS1 rfl Tryz.underlying23 sz_5 rfl rfl (by omega) (by omega)) rfl ?_
            | refine s_val (v_slSo rfl Tryz.underlying23 sz_5 rfl rfl (by omega) (by omega)) rfl ?_
            | refine s_val (v_slB rfl Tryz.underlying23 sz_5 rfl rfl LE_ LE_) rfl ?_
          first
            | refine s_memN (m_appE8 rfl rfl rfl Tryz.underlying23 Tryz.underlying23 el_5 EQL_ (by omega) LEN_) APP_ rfl ?_
            | refine s_memN (m_appN8 rfl rfl rfl Tryz.underlying23 Tryz.underlying23 el_5 EQL_ (by omega) LEN_) APP_ rfl ?_
            | refine s_app8 rfl rfl rfl rfl Tryz.underlying23 Tryz.underlying23 el_5 EQL_ EQL_ (by omega) LEN_ KILL_ rfl ?_
            | refine s_memN (m_appE8c rfl rfl rfl Tryz.underlying23 Tryz.underlying23 el_5 LE_ (by omega) LEN_) APP_ rfl ?_
            | refine s_memN (m_appN8c rfl rfl rfl Tryz.underlying23 Tryz.underlying23 el_5 LE_ (by omega) LEN_) APP_ rfl ?_
            | refine s_app8c rfl rfl rfl rfl Tryz.underlying23 Tryz.underlying23 el_5 EQL_ LE_ (by omega) LEN_ KILL_ rfl ?_
            | refine s_memN (m_appZ rfl rfl Tryz.underlying23 Tryz.underlying23 el_5 rfl) APP_ rfl ?_
            | refine s_memN (m_appZe rfl rfl Tryz.underlying23 Tryz.underlying23 el_5 rfl) APP_ rfl ?_
            | refine s_memN (m_appNB rfl rfl Tryz.underlying23 Tryz.underlying23 el_5 EQL_ (by omega) LEN_) APP_ rfl ?_
            | refine s_memN (m_appEB rfl rfl Tryz.underlying23 Tryz.underlying23 el_5 EQL_ (by omega) LEN_) APP_ rfl ?_
            | refine s_appB rfl rfl rfl Tryz.underlying23 Tryz.underlying23 el_5 EQL_ EQL_ (by omega) LEN_ KILL_ rfl ?_
          refine s_memN (m_bs8 (l := [1#8]) Tryz.underlying23 el_5 rfl rfl (by decide) (by decide) LEN_) APP_ rfl ?_
          first
            | refine s_memN (m_appE8 rfl rfl rfl Tryz.underlying23 Tryz.underlying23 el_5 EQL_ (by omega) LEN_) APP_ rfl ?_
            | refine s_memN (m_appN8 rfl rfl rfl Tryz.underlying23 Tryz.underlying23 el_5 EQL_ (by omega) LEN_) APP_ rfl ?_
            | refine s_app8 rfl rfl rfl rfl Tryz.underlying23 Tryz.underlying23 el_5 EQL_ EQL_ (by omega) LEN_ KILL_ rfl ?_
            | refine s_memN (m_appE8c rfl rfl rfl Tryz.underlying23 Tryz.underlying23 el_5 LE_ (by omega) LEN_) APP_ rfl ?_
            | refine s_memN (m_appN8c rfl rfl rfl Tryz.underlying23 Tryz.underlying23 el_5 LE_ (by omega) LEN_) APP_ rfl ?_
            | refine s_app8c rfl rfl rfl rfl Tryz.underlying23 Tryz.underlying23 el_5 EQL_ LE_ (by omega) LEN_ KILL_ rfl ?_
            | refine s_memN (m_appZ rfl rfl Tryz.underlying23 Tryz.underlying23 el_5 rfl) APP_ rfl ?_
            | refine s_memN (m_appZe rfl rfl Tryz.underlying23 Tryz.underlying23 el_5 rfl) APP_ rfl ?_
            | refine s_memN (m_appNB rfl rfl Tryz.underlying23 Tryz.underlying23 el_5 EQL_ (by omega) LEN_) APP_ rfl ?_
            | refine s_memN (m_appEB rfl rfl Tryz.underlying23 Tryz.underlying23 el_5 EQL_ (by omega) LEN_) APP_ rfl ?_
            | refine s_appB rfl rfl rfl Tryz.underlying23 Tryz.underlying23 el_5 EQL_ EQL_ (by omega) LEN_ KILL_ rfl ?_
          first
            | refine s_val (v_assignC rfl) rfl ?_
            | refine s_val (v_assignA rfl) rfl ?_
            | refine s_val (v_assignT rfl) rfl ?_
          refine s_nil ?_
          clear hp hc
          have hz1 : min (16 * q + 16) n - 16 * q + 1 ≤ 17 := by omega
          generalize cut t (16 * q) (min (16 * q + 16) n - 16 * q) ++ [1#8] = Z at *
          generalize min (16 * q + 16) n - 16 * q + 1 = z at *
          refine S_ ?_
          refine c_loopC [2, 4, 10, 11, 13, 1, 14] (fun (x : Nat × List (BitVec 8)) => ⟨101, keepT [2, 4, 10, 11, 13, 1, 14] [.c (.ptr 1 0), .c (.ptr 2 0), .c (.ptr 3 0), .c (.ptr 4 0), .c (.val (.int .i64 (((16 * q : Nat) : Int)))), .c (.sl 0 0 n cap 1), .c (.sl 5 0 (z + x.1) (z + x.1) 1)], [.row false (.a8 (t)), .row true (.a8 (key)), .row true (.a8 (zer8 16)), .row true (.a64 (X)), .row true (.a64 (H)), .row true (.a8 (x.2))]⟩) (fun k => (k, padL Z k)) (17 - z) (by kernel_rfl) ?_ ?_
          · intro k hk
            have h6 : (padL Z k).length = z + k := by rw [padL_length, hz]
            simp only [padL]
            generalize padL Z k = Y at *
            refine S_ ?_
            refine c_region ?_
            first
              | refine s_val (v_moveC rfl) rfl ?_
              | refine s_val (v_moveA rfl) rfl ?_
              | refine s_val (v_moveT rfl) rfl ?_
            first
              | refine s_val (v_lenS rfl Tryz.underlying23) rfl ?_
              | refine s_val (v_lenN rfl Tryz.underlying23) rfl ?_
              | refine s_val (v_lenE rfl Tryz.underlying23) rfl ?_
              | refine s_val (v_lenB rfl Tryz.underlying23 rfl) rfl ?_
              | refine s_val (v_lenZ rfl Tryz.underlying23 rfl) rfl ?_
            first
              | refine s_val (v_lssN (b := 17) rfl rfl) rfl ?_
              | refine s_val (v_lssI rfl rfl) rfl ?_
            refine s_nil ?_
            refine S_ ?_
            refine c_region ?_
            first
              | refine s_val (v_moveC rfl) rfl ?_
              | refine s_val (v_moveA rfl) rfl ?_
              | refine s_val (v_moveT rfl) rfl ?_
            refine s_memN (m_bs8 (l := [0#8]) Tryz.underlying23 el_5 rfl rfl (by decide) (by decide) LEN_) APP_ rfl ?_
            first
              | refine s_memN (m_appE8 rfl rfl rfl Tryz.underlying23 Tryz.underlying23 el_5 EQL_ (by omega) LEN_) APP_ rfl ?_
              | refine s_memN (m_appN8 rfl rfl rfl Tryz.underlying23 Tryz.underlying23 el_5 EQL_ (by omega) LEN_) APP_ rfl ?_
              | refine s_app8 rfl rfl rfl rfl Tryz.underlying23 Tryz.underlying23 el_5 EQL_ EQL_ (by omega) LEN_ KILL_ rfl ?_
              | refine s_memN (m_appE8c rfl rfl rfl Tryz.underlying23 Tryz.underlying23 el_5 LE_ (by omega) LEN_) APP_ rfl ?_
              | refine s_memN (m_appN8c rfl rfl rfl Tryz.underlying23 Tryz.underlying23 el_5 LE_ (by omega) LEN_) APP_ rfl ?_
              | refine s_app8c rfl rfl rfl rfl Tryz.underlying23 Tryz.underlying23 el_5 EQL_ LE_ (by omega) LEN_ KILL_ rfl ?_
              | refine s_memN (m_appZ rfl rfl Tryz.underlying23 Tryz.underlying23 el_5 rfl) APP_ rfl ?_
              | refine s_memN (m_appZe rfl rfl Tryz.underlying23 Tryz.underlying23 el_5 rfl) APP_ rfl ?_
              | refine s_memN (m_appNB rfl rfl Tryz.underlying23 Tryz.underlying23 el_5 EQL_ (by omega) LEN_) APP_ rfl ?_
              | refine s_memN (m_appEB rfl rfl Tryz.underlying23 Tryz.underlying23 el_5 EQL_ (by omega) LEN_) APP_ rfl ?_
              | refine s_appB rfl rfl rfl Tryz.underlying23 Tryz.underlying23 el_5 EQL_ EQL_ (by omega) LEN_ KILL_ rfl ?_
            first
              | refine s_val (v_assignC rfl) rfl ?_
              | refine s_val (v_assignA rfl) rfl ?_
              | refine s_val (v_assignT rfl) rfl ?_
            refine s_nil ?_
            exact ⟨_, by kernel_rfl, rfl⟩
          · have h6 : (padL Z (17 - z)).length = z + (17 - z) := by rw [padL_length, hz]
            have hy : z + (17 - z) = 17 := by omega
            dsimp only
            generalize padL Z (17 - z) = Y at *
            generalize z + (17 - z) = y at *
            refine S_ ?_
            refine c_region ?_
            first
              | refine s_val (v_moveC rfl) rfl ?_
              | refine s_val (v_moveA rfl) rfl ?_
              | refine s_val (v_moveT rfl) rfl ?_
            first
              | refine s_val (v_lenS rfl Tryz.underlying23) rfl ?_
              | refine s_val (v_lenN rfl Tryz.underlying23) rfl ?_
              | refine s_val (v_lenE rfl Tryz.underlying23) rfl ?_
              | refine s_val (v_lenB rfl Tryz.underlying23 rfl) rfl ?_
              | refine s_val (v_lenZ rfl Tryz.underlying23 rfl) rfl ?_
            first
              | refine s_val (v_lssN (b := 17) rfl rfl) rfl ?_
              | refine s_val (v_lssI rfl rfl) rfl ?_
            refine s_nil ?_
            refine S_ ?_
            refine c_region ?_
            refine s_val (v_moveC rfl) rfl ?_
            refine s_nil ?_
            refine S_ ?_
            refine c_loopC [2, 4, 10, 11, 13, 1, 14, 82] (fun (x : Nat × List (BitVec 64)) => ⟨101, keepT [2, 4, 10, 11, 13, 1, 14, 82] [.c (.ptr 1 0), .c (.ptr 2 0), .c (.ptr 3 0), .c (.ptr 4 0), .c (.val (.int .i64 (((16 * q : Nat) : Int)))), .c (.sl 0 0 n cap 1), .c (.sl 5 0 y y 1), .c (.val (.int .i64 (x.1)))], [.row false (.a8 (t)), .row true (.a8 (key)), .row true (.a8 (zer8 16)), .row true (.a64 (X)), .row true (.a64 (x.2)), .row true (.a8 (Y))]⟩) (fun i => (i, hAdd Y H i)) (5) (by kernel_rfl) ?_ ?_
            · intro i hi
              have h7 : (hAdd Y H i).length = 5 := by rw [hAdd_length, h5]
              simp only [hAdd]
              generalize hAdd Y H i = G at *
              refine S_ ?_
              refine c_region ?_
              first
                | refine s_val (v_lssN (b := 5) rfl rfl) rfl ?_
                | refine s_val (v_lssI rfl rfl) rfl ?_
              refine s_nil ?_
              refine S_ ?_
              refine c_region ?_
              first
                | refine s_val (v_moveC rfl) rfl ?_
                | refine s_val (v_moveA rfl) rfl ?_
                | refine s_val (v_moveT rfl) rfl ?_
              first
                | refine s_val (v_assignC rfl) rfl ?_
                | refine s_val (v_assignA rfl) rfl ?_
                | refine s_val (v_assignT rfl) rfl ?_
              refine s_nil ?_
              refine S_ ?_
              refine c_draw 8 mixed (by kernel_rfl) rfl rfl rfl ?_
              first
                | refine h_val (v_moveC rfl) rfl ?_
                | refine h_val (v_moveA rfl) rfl ?_
                | refine h_val (v_moveT rfl) rfl ?_
              first
                | refine h_val (v_idxA1 rfl rfl Tryz.underlying213 sz_70 (by omega)) rfl ?_
                | refine h_val (v_idxA rfl rfl Tryz.underlying213 sz_70 (by omega)) rfl ?_
              refine h_val (v_load64 rfl rfl row_70 LT_) rfl ?_
              first
                | refine h_val (v_moveC rfl) rfl ?_
                | refine h_val (v_moveA rfl) rfl ?_
                | refine h_val (v_moveT rfl) rfl ?_
              first
                | refine h_val (v_moveC rfl) rfl ?_
                | refine h_val (v_moveA rfl) rfl ?_
                | refine h_val (v_moveT rfl) rfl ?_
              refine h_val (v_mulN (a := 26) rfl rfl (by omega)) rfl ?_
              refine h_evN (e_callR (word26_ev Y y _ _ h6 (by omega) (by omega)) ok_184 rfl rfl rfl VAL_) APP_ rfl ?_
              refine h_val (v_add64 rfl rfl) rfl ?_
              refine h_nil ?_
              first
                | refine s_val (v_idxA1 rfl rfl Tryz.underlying213 sz_70 (by omega)) rfl ?_
                | refine s_val (v_idxA rfl rfl Tryz.underlying213 sz_70 (by omega)) rfl ?_
              refine s_store64 rfl rfl rfl sz_70 LT_ SET_ ?_
              refine s_nil ?_
              refine S_ ?_
              refine c_region ?_
              first
                | refine s_val (v_addN (b := 1) rfl rfl (by omega)) rfl ?_
                | refine s_val (v_addI rfl rfl (by omega)) rfl ?_
              first
                | refine s_val (v_moveC rfl) rfl ?_
                | refine s_val (v_moveA rfl) rfl ?_
                | refine s_val (v_moveT rfl) rfl ?_
              refine s_nil ?_
              exact ⟨_, by kernel_rfl, rfl⟩
            · have h7 : (hAdd Y H 5).length = 5 := by rw [hAdd_length, h5]
              dsimp only
              generalize hAdd Y H 5 = G at *
              refine S_ ?_
              refine c_region ?_
              first
                | refine s_val (v_lssN (b := 5) rfl rfl) rfl ?_
                | refine s_val (v_lssI rfl rfl) rfl ?_
              refine s_nil ?_
              refine S_ ?_
              refine c_region ?_
              first
                | refine s_val (v_loadR rfl rfl row_213 sz_213 EQ_ (by decide)) rfl ?_
                | refine s_val (v_loadW8 rfl rfl row_213 sz_213 LE_ (by decide)) rfl ?_
                | refine s_val (v_loadW64 rfl rfl row_213 sz_213 LE_ (by decide)) rfl ?_
              first
                | refine s_val (v_loadR rfl rfl row_213 sz_213 EQ_ (by decide)) rfl ?_
                | refine s_val (v_loadW8 rfl rfl row_213 sz_213 LE_ (by decide)) rfl ?_
                | refine s_val (v_loadW64 rfl rfl row_213 sz_213 LE_ (by decide)) rfl ?_
              refine s_evN (e_callR (times_ev G X h7 h4) ok_185 rfl rfl rfl VAL_) APP_ rfl ?_
              refine s_storeR rfl rfl rfl rfl sz_213 EQ_ EQ_ SET_ ?_
              refine s_nil ?_
              refine S_ ?_
              refine c_region ?_
              first
                | refine s_val (v_moveC rfl) rfl ?_
                | refine s_val (v_moveA rfl) rfl ?_
                | refine s_val (v_moveT rfl) rfl ?_
              first
                | refine s_val (v_addN (b := 16) rfl rfl (by omega)) rfl ?_
                | refine s_val (v_addI rfl rfl (by omega)) rfl ?_
              first
                | refine s_val (v_assignC rfl) rfl ?_
                | refine s_val (v_assignA rfl) rfl ?_
                | refine s_val (v_assignT rfl) rfl ?_
              refine s_nil ?_
              exact ⟨(16 * q + 16, _), by kernel_rfl, by rw [Nat.mul_succ]⟩
        · have h5 : (tagSt X t ((n + 15) / 16)).length = 5 := tagSt_length X t _
          rw [hP]
          dsimp only
          generalize tagSt X t ((n + 15) / 16) = H at *
          refine S_ ?_
          refine c_region ?_
          first
            | refine s_val (v_moveC rfl) rfl ?_
            | refine s_val (v_moveA rfl) rfl ?_
            | refine s_val (v_moveT rfl) rfl ?_
          first
            | refine s_val (v_moveC rfl) rfl ?_
            | refine s_val (v_moveA rfl) rfl ?_
            | refine s_val (v_moveT rfl) rfl ?_
          first
            | refine s_val (v_lenS rfl Tryz.underlying23) rfl ?_
            | refine s_val (v_lenN rfl Tryz.underlying23) rfl ?_
            | refine s_val (v_lenE rfl Tryz.underlying23) rfl ?_
            | refine s_val (v_lenB rfl Tryz.underlying23 rfl) rfl ?_
            | refine s_val (v_lenZ rfl Tryz.underlying23 rfl) rfl ?_
          first
            | refine s_val (v_lssN rfl rfl) rfl ?_
            | refine s_val (v_lssI rfl rfl) rfl ?_
          refine s_nil ?_
          refine S_ ?_
          refine c_region ?_
          first
            | refine s_val (v_loadR rfl rfl row_213 sz_213 EQ_ (by decide)) rfl ?_
            | refine s_val (v_loadW8 rfl rfl row_213 sz_213 LE_ (by decide)) rfl ?_
            | refine s_val (v_loadW64 rfl rfl row_213 sz_213 LE_ (by decide)) rfl ?_
          first
            | refine s_val (v_loadR rfl rfl row_37 sz_37 EQ_ (by decide)) rfl ?_
            | refine s_val (v_loadW8 rfl rfl row_37 sz_37 LE_ (by decide)) rfl ?_
            | refine s_val (v_loadW64 rfl rfl row_37 sz_37 LE_ (by decide)) rfl ?_
          refine s_evN (e_callR (tag_ev H key h5 hk) ok_186 rfl rfl rfl VAL_) APP_ rfl ?_
          refine s_storeR rfl rfl rfl rfl sz_121 EQ_ EQ_ SET_ ?_
          refine s_nil ?_
          refine S_ ?_
          exact k_1 (r_row rfl rfl row_121 sz_121 EQ_ (by decide)) (by first | kernel_rfl | rfl)
@[simp] theorem polyTag_len (key t : List (BitVec 8)) : (polyTag key t).length = 16 := by with_unfolding_all exact tagEnd_length _ _
end Go.Proofs.YtmbepikkgkcgkaaGreatDoor
namespace Go.Proofs.YtmbepikkgkcgkaaGreatDoor
open Go.RowKit
def adTag_L8_S (ad : List (BitVec 8)) (tx : List (BitVec 8)) (j5 : Nat) (X5 : List (BitVec 8)) (j8 : Nat) : List (BitVec 8) := X5 ++ [((BitVec.ofNat 64 (ntn [ad.length, tx.length] j5)) >>> (8 * j8)).setWidth 8]
def adTag_L8 (ad : List (BitVec 8)) (tx : List (BitVec 8)) (X4 : List (BitVec 8)) (j5 : Nat) : Nat → List (BitVec 8)
  | 0 => X4
  | j8 + 1 => adTag_L8_S ad tx j5 (adTag_L8 ad tx X4 j5 j8) j8
@[simp] theorem adTag_L8_len (ad : List (BitVec 8)) (tx : List (BitVec 8)) (X4 : List (BitVec 8)) (j5 : Nat) (j8 : Nat) : (adTag_L8 ad tx X4 j5 j8).length = X4.length + j8 := by
  induction j8 with
  | zero => first | (simp [adTag_L8, *]; done) | (simp [adTag_L8, *]; omega)
  | succ j8 ih => rw [adTag_L8.eq_2, adTag_L8_S]; first | (simp [ih]; done) | (simp [ih]; omega) | (simp [*]; done) | (simp [*]; omega) | (split <;> first | (simp [ih]; done) | (simp [ih]; omega) | (simp [*]; done))
def adTag_L5_S (ad : List (BitVec 8)) (tx : List (BitVec 8)) (X4 : List (BitVec 8)) (j5 : Nat) : List (BitVec 8) := (adTag_L8 ad tx X4 j5 8)
def adTag_L5 (ad : List (BitVec 8)) (tx : List (BitVec 8)) : Nat → List (BitVec 8)
  | 0 => adFull ((adFull ad) ++ tx)
  | j5 + 1 => adTag_L5_S ad tx (adTag_L5 ad tx j5) j5
@[simp] theorem adTag_L5_len (ad : List (BitVec 8)) (tx : List (BitVec 8)) (j5 : Nat) : (adTag_L5 ad tx j5).length = (((ad.length + (16 - ad.length % 16) % 16) + tx.length) + (16 - ((ad.length + (16 - ad.length % 16) % 16) + tx.length) % 16) % 16) + 8 * j5 := by
  induction j5 with
  | zero => first | (simp [adTag_L5, *]; done) | (simp [adTag_L5, *]; omega)
  | succ j5 ih => rw [adTag_L5.eq_2, adTag_L5_S]; first | (simp [ih]; done) | (simp [ih]; omega) | (simp [adTag_L8_len, *]; done) | (simp [adTag_L8_len, *]; omega) | (split <;> first | (simp [ih]; done) | (simp [ih]; omega) | (simp [adTag_L8_len, *]; done))
def adTag (key : List (BitVec 8)) (nonce : List (BitVec 8)) (ad : List (BitVec 8)) (tx : List (BitVec 8)) : List (BitVec 8) := polyTag (cut (chBlock key 0#32 nonce) 0 32) (adTag_L5 ad tx 2)
set_option maxRecDepth 100000 in
set_option maxHeartbeats 2000000 in
theorem adTag_ev (key : List (BitVec 8)) (nonce : List (BitVec 8)) (ad : List (BitVec 8)) (an : Nat) (acap : Nat) (b : List (BitVec 8)) (o : Nat) (n : Nat) (cap : Nat) (hkey : key.length = 32) (hnonce : nonce.length = 12) (had : ad.length = an) (han : an ≤ 1099511627) (hb : o + n ≤ b.length) (hn : n ≤ 1099511627) : Ev Tryz.prog (.call 108 [.agg (.a8 (key)), .agg (.a8 (nonce)), .c (.sl 0 0 an acap 1), .c (.sl 1 o n cap 1)] [.row false (.a8 (ad)), .row false (.a8 (b))]) (.val (.agg (.a8 (adTag key nonce ad (cut b o n)))) [.row false (.a8 (ad)), .row false (.a8 (b))]) := by
  have hP : Hid (adTag key nonce ad (cut b o n) = polyTag (cut (chBlock key 0#32 nonce) 0 32) (adTag_L5 ad (cut b o n) 2)) := ⟨rfl⟩
  subst had
  have htx : (cut b o n).length = n := by rw [cut_length]; omega
  try simp only [htx] at hP
  refine c_call Tryz.func108 rfl Tryz.ntmps108 rfl LEN_ ?_
  refine S_ ?_
  refine c_region ?_
  refine s_memN (m_box BX_ LEN_) APP_ rfl ?_
  refine s_memN (m_box BX_ LEN_) APP_ rfl ?_
  refine s_memN (m_alloc al_121 LEN_) APP_ rfl ?_
  refine s_nil ?_
  have hQ1 : (chBlock key 0#32 nonce).length = 64 := LQ_
  refine S_ ?_
  refine c_region ?_
  refine s_val (v_loadR rfl rfl row_37 sz_37 EQ_ (by decide)) rfl ?_
  refine s_val (v_loadR rfl rfl row_98 sz_98 EQ_ (by decide)) rfl ?_
  refine s_evN (e_callR (bs := []) (chBlock_ev key 0#32 nonce HYP_ HYP_) ok_109 (by kernel_rfl) (by kernel_rfl) rfl VAL_) APP_ rfl ?_
  refine s_memN (m_alloc al_105 LEN_) APP_ rfl ?_
  refine s_storeR rfl rfl rfl rfl sz_105 EQ_ EQ_ SET_ ?_
  refine s_nil ?_
  have hQ2 : (adFull ad).length = ad.length + (16 - ad.length % 16) % 16 := LQ_
  refine S_ ?_
  refine c_region ?_
  refine s_memN (m_bs0 Tryz.underlying23 el_5) APP_ rfl ?_
  refine s_val (v_moveC rfl) rfl ?_
  refine s_memN (m_appE8 rfl rfl rfl Tryz.underlying23 Tryz.underlying23 el_5 EQL_ (by omega) LEN_) APP_ rfl ?_
  refine s_ev (e_callK (bs := [6]) (adFull_ev ad ad.length ad.length HYP_ HYP_) ok_146 (by kernel_rfl) rfl rfl VAL_ APP_) rfl ?_
  refine s_val (v_assignC rfl) rfl ?_
  refine s_nil ?_
  have hQ3 : (adFull ((adFull ad) ++ (cut b o n))).length = ((ad.length + (16 - ad.length % 16) % 16) + n) + (16 - ((ad.length + (16 - ad.length % 16) % 16) + n) % 16) % 16 := LQ_
  refine S_ ?_
  refine c_region ?_
  refine s_val (v_moveC rfl) rfl ?_
  refine s_val (v_moveC rfl) rfl ?_
  refine s_app8c rfl rfl rfl rfl Tryz.underlying23 Tryz.underlying23 el_5 EQL_ LE_ (by omega) LEN_ KILL_ rfl ?_
  refine s_ev (e_callK (bs := [8]) (adFull_ev ((adFull ad) ++ (cut b o n)) ((ad.length + (16 - ad.length % 16) % 16) + n) ((ad.length + (16 - ad.length % 16) % 16) + n) HYP_ HYP_) ok_146 (by kernel_rfl) rfl rfl VAL_ APP_) rfl ?_
  refine s_val (v_assignC rfl) rfl ?_
  refine s_nil ?_
  refine S_ ?_
  refine c_region ?_
  refine s_val (v_moveC rfl) rfl ?_
  refine s_val (v_lenS rfl Tryz.underlying23) rfl ?_
  refine s_val (v_moveC rfl) rfl ?_
  refine s_val (v_lenS rfl Tryz.underlying23) rfl ?_
  refine s_memN (m_bsI (l := [_, _]) Tryz.underlying41 el_3 rfl rfl (by decide) (by decide) LEN_) APP_ rfl ?_
  refine s_val (v_lenS rfl Tryz.underlying41) rfl ?_
  refine s_val (v_moveC rfl) rfl ?_
  refine s_nil ?_
  refine S_ ?_
  refine c_loopC [8, 9, 10, 29, 30, 31] (fun (zz : Nat × List (BitVec 8)) => ⟨54, keepT [8, 9, 10, 29, 30, 31] [.c (.ptr 2 0), .c (.ptr 3 0), .c (.sl 4 0 ((((ad.length + (16 - ad.length % 16) % 16) + n) + (16 - ((ad.length + (16 - ad.length % 16) % 16) + n) % 16) % 16) + 8 * zz.1) ((((ad.length + (16 - ad.length % 16) % 16) + n) + (16 - ((ad.length + (16 - ad.length % 16) % 16) + n) % 16) % 16) + 8 * zz.1) 1), .c (.sl 5 0 2 2 1), .c (.val (.int .i64 (((2 : Nat) : Int)))), .c (.val (.int .i64 (((zz.1 : Nat) : Int))))], [.row false (.a8 (ad)), .row false (.a8 (b)), .row true (.a8 (zer8 16)), .row true (.a8 (chBlock key 0#32 nonce)), .row true (.a8 (zz.2)), .row true (.ai (natI [ad.length, n]))]⟩) (fun j5 => (j5, adTag_L5 ad (cut b o n) j5)) (2) (by kernel_rfl) ?_ ?_
  · intro j5 hj5
    try dsimp only
    have hX4 : (adTag_L5 ad (cut b o n) j5).length = (((ad.length + (16 - ad.length % 16) % 16) + n) + (16 - ((ad.length + (16 - ad.length % 16) % 16) + n) % 16) % 16) + 8 * j5 := by rw [adTag_L5_len ad (cut b o n) _]; try omega
    rw [adTag_L5.eq_2, adTag_L5_S]
    try simp only [htx]
    generalize adTag_L5 ad (cut b o n) j5 = X4 at *
    refine S_ ?_
    refine c_region ?_
    refine s_val (v_lssN (b := 2) rfl rfl) rfl ?_
    refine s_nil ?_
    refine S_ ?_
    refine c_region ?_
    refine s_val (v_idxS1 rfl rfl Tryz.underlying41 sz_3 (by omega)) rfl ?_
    refine s_val (v_loadN rfl rfl row_3 LT_) rfl ?_
    refine s_val (v_assignC rfl) rfl ?_
    refine s_nil ?_
    refine S_ ?_
    refine c_region ?_
    refine s_val (v_moveC rfl) rfl ?_
    refine s_nil ?_
    refine S_ ?_
    refine c_loopC [8, 9, 10, 12, 29, 30, 31, 35] (fun (zz : Nat × List (BitVec 8)) => ⟨54, keepT [8, 9, 10, 12, 29, 30, 31, 35] [.c (.ptr 2 0), .c (.ptr 3 0), .c (.sl 4 0 (((((ad.length + (16 - ad.length % 16) % 16) + n) + (16 - ((ad.length + (16 - ad.length % 16) % 16) + n) % 16) % 16) + 8 * j5) + zz.1) (((((ad.length + (16 - ad.length % 16) % 16) + n) + (16 - ((ad.length + (16 - ad.length % 16) % 16) + n) % 16) % 16) + 8 * j5) + zz.1) 1), .c (.val (.int .i64 (((ntn [ad.length, n] j5 : Nat) : Int)))), .c (.sl 5 0 2 2 1), .c (.val (.int .i64 (((2 : Nat) : Int)))), .c (.val (.int .i64 (((j5 : Nat) : Int)))), .c (.val (.int .i64 (((zz.1 : Nat) : Int))))], [.row false (.a8 (ad)), .row false (.a8 (b)), .row true (.a8 (zer8 16)), .row true (.a8 (chBlock key 0#32 nonce)), .row true (.a8 (zz.2)), .row true (.ai (natI [ad.length, n]))]⟩) (fun j8 => (j8, adTag_L8 ad (cut b o n) X4 j5 j8)) (8) (by kernel_rfl) ?_ ?_
    · intro j8 hj8
      try dsimp only
      have hX5 : (adTag_L8 ad (cut b o n) X4 j5 j8).length = ((((ad.length + (16 - ad.length % 16) % 16) + n) + (16 - ((ad.length + (16 - ad.length % 16) % 16) + n) % 16) % 16) + 8 * j5) + j8 := by rw [adTag_L8_len ad (cut b o n) X4 j5 _]; try omega
      rw [adTag_L8.eq_2, adTag_L8_S]
      try simp only [htx]
      generalize adTag_L8 ad (cut b o n) X4 j5 j8 = X5 at *
      refine S_ ?_
      refine c_region ?_
      refine s_val (v_lssN (b := 8) rfl rfl) rfl ?_
      refine s_nil ?_
      refine S_ ?_
      refine c_region ?_
      refine s_val (v_moveC rfl) rfl ?_
      refine s_val (v_assignC rfl) rfl ?_
      refine s_nil ?_
      refine S_ ?_
      refine c_region ?_
      refine s_val (v_moveC rfl) rfl ?_
      refine s_val (v_moveC rfl) rfl ?_
      refine s_val (v_conv rfl Tryz.underlying3 Tryz.underlying70 (wi_64 _)) rfl ?_
      refine s_val (v_moveC rfl) rfl ?_
      refine s_val (v_mulN (a := 8) rfl rfl (by omega)) rfl ?_
      refine s_val (v_shr64n rfl rfl) rfl ?_
      refine s_val (v_conv rfl Tryz.underlying70 Tryz.underlying5 (w64_8 _)) rfl ?_
      refine s_memN (m_bs8 (l := [_]) Tryz.underlying23 el_5 rfl rfl (by decide) (by decide) LEN_) APP_ rfl ?_
      refine s_app8 rfl rfl rfl rfl Tryz.underlying23 Tryz.underlying23 el_5 EQL_ EQL_ (by omega) LEN_ KILL_ rfl ?_
      refine s_val (v_assignC rfl) rfl ?_
      refine s_nil ?_
      refine S_ ?_
      refine c_region ?_
      refine s_val (v_addN (b := 1) rfl rfl (by omega)) rfl ?_
      refine s_val (v_moveC rfl) rfl ?_
      refine s_nil ?_
      exact ⟨(j8 + 1, _), by kernel_rfl, rfl⟩
    · try dsimp only
      have hY6 : (adTag_L8 ad (cut b o n) X4 j5 8).length = ((((ad.length + (16 - ad.length % 16) % 16) + n) + (16 - ((ad.length + (16 - ad.length % 16) % 16) + n) % 16) % 16) + 8 * j5) + 8 := by rw [adTag_L8_len ad (cut b o n) X4 j5 _]; try omega
      generalize adTag_L8 ad (cut b o n) X4 j5 8 = Y6 at *
      refine S_ ?_
      refine c_region ?_
      refine s_val (v_lssN (a := 8) (b := 8) rfl rfl) rfl ?_
      refine s_nil ?_
      refine S_ ?_
      refine c_region ?_
      refine s_val (v_addN (b := 1) rfl rfl (by omega)) rfl ?_
      refine s_val (v_moveC rfl) rfl ?_
      refine s_nil ?_
      exact ⟨(j5 + 1, _), by kernel_rfl, rfl⟩
  · try dsimp only
    have hY7 : (adTag_L5 ad (cut b o n) 2).length = (((ad.length + (16 - ad.length % 16) % 16) + n) + (16 - ((ad.length + (16 - ad.length % 16) % 16) + n) % 16) % 16) + 8 * 2 := by rw [adTag_L5_len ad (cut b o n) _]; try omega
    generalize adTag_L5 ad (cut b o n) 2 = Y7 at *
    refine S_ ?_
    refine c_region ?_
    refine s_val (v_lssN (a := 2) (b := 2) rfl rfl) rfl ?_
    refine s_nil ?_
    have hQ8 : (cut (chBlock key 0#32 nonce) 0 32).length = 32 := LQ_
    have hQ9 : (polyTag (cut (chBlock key 0#32 nonce) 0 32) Y7).length = 16 := LQ_
    refine S_ ?_
    refine c_region ?_
    refine s_val (v_slA1 (l := 0) (h := 32) (len := 32) (cp := 64) rfl Tryz.underlying105 sz_5 rfl rfl rfl (by omega) (by omega) FIT_ rfl rfl) rfl ?_
    refine s_val (v_arrP rfl Tryz.underlying37 (by omega) (by decide)) rfl ?_
    refine s_val (v_loadW8 rfl rfl row_37 sz_37 LE_ (by decide)) rfl ?_
    refine s_val (v_moveC rfl) rfl ?_
    refine s_evN (e_callR (polyTag_ev (cut (chBlock key 0#32 nonce) 0 32) Y7 ((((ad.length + (16 - ad.length % 16) % 16) + n) + (16 - ((ad.length + (16 - ad.length % 16) % 16) + n) % 16) % 16) + 8 * 2) ((((ad.length + (16 - ad.length % 16) % 16) + n) + (16 - ((ad.length + (16 - ad.length % 16) % 16) + n) % 16) % 16) + 8 * 2) HYP_ HYP_ HYP_) ok_147 rfl rfl rfl VAL_) APP_ rfl ?_
    refine s_storeR rfl rfl rfl rfl sz_121 EQ_ EQ_ SET_ ?_
    refine s_nil ?_
    refine S_ ?_
    rw [hP.out]
    exact k_1 (r_row rfl rfl row_121 sz_121 EQ_ (by decide)) (by first | kernel_rfl | rfl)
theorem adTag_evS (key : List (BitVec 8)) (nonce : List (BitVec 8)) (ad : List (BitVec 8)) (an : Nat) (acap : Nat) (b : List (BitVec 8)) (n : Nat) (cap : Nat) (hkey : key.length = 32) (hnonce : nonce.length = 12) (had : ad.length = an) (han : an ≤ 1099511627) (hb : b.length = n) (hn : n ≤ 1099511627) : Ev Tryz.prog (.call 108 [.agg (.a8 (key)), .agg (.a8 (nonce)), .c (.sl 0 0 an acap 1), .c (.sl 1 0 n cap 1)] [.row false (.a8 (ad)), .row false (.a8 (b))]) (.val (.agg (.a8 (adTag key nonce ad b))) [.row false (.a8 (ad)), .row false (.a8 (b))]) := by
  have h_ := adTag_ev key nonce ad an acap b 0 n cap hkey hnonce had han (by omega) hn
  rw [cut_all hb] at h_
  exact h_
@[simp] theorem adTag_len (key : List (BitVec 8)) (nonce : List (BitVec 8)) (ad : List (BitVec 8)) (tx : List (BitVec 8)) (_hkey : key.length = 32) (_hnonce : nonce.length = 12) : (adTag key nonce ad tx).length = 16 := by
  unfold adTag
  first | (simp [*]; done) | (simp [adTag_L8_len, adTag_L5_len, *]; omega)
attribute [irreducible] adTag
end Go.Proofs.YtmbepikkgkcgkaaGreatDoor
namespace Go.Proofs.YtmbepikkgkcgkaaGreatDoor
open Go.RowKit
def adWork00 (key : List (BitVec 8)) (nonce : List (BitVec 8)) (text : List (BitVec 8)) : List (BitVec 8) := chXor key 1#32 nonce text
def adWork01 (key : List (BitVec 8)) (nonce : List (BitVec 8)) (ad : List (BitVec 8)) (text : List (BitVec 8)) : List (BitVec 8) := adTag key nonce ad (chXor key 1#32 nonce text)
set_option maxRecDepth 100000 in
set_option maxHeartbeats 2000000 in
theorem adWork0_ev (key : List (BitVec 8)) (nonce : List (BitVec 8)) (ad : List (BitVec 8)) (an : Nat) (acap : Nat) (text : List (BitVec 8)) (tn : Nat) (tcap : Nat) (hkey : key.length = 32) (hnonce : nonce.length = 12) (had : ad.length = an) (han : an ≤ 1099511627) (htext : text.length = tn) (htn : tn ≤ 1099511627) : Ev Tryz.prog (.call 75 [.c (.val (.int .i64 ((0 : Nat) : Int))), .agg (.a8 (key)), .agg (.a8 (nonce)), .c (.sl 0 0 an acap 1), .c (.sl 1 0 tn tcap 1)] [.row false (.a8 (ad)), .row false (.a8 (text))]) (.val (.tup [.c (.sl 2 0 tn tn 1), .agg (.a8 (adWork01 key nonce ad text))]) [.row false (.a8 (ad)), .row false (.a8 (text)), .row true (.a8 (adWork00 key nonce text))]) := by
  have hP_adWork00 : Hid (adWork00 key nonce text = chXor key 1#32 nonce text) := ⟨rfl⟩
  have hP_adWork01 : Hid (adWork01 key nonce ad text = adTag key nonce ad (chXor key 1#32 nonce text)) := ⟨rfl⟩
  subst had
  subst htext
  refine c_call Tryz.func75 rfl Tryz.ntmps75 rfl LEN_ ?_
  refine S_ ?_
  refine c_region ?_
  refine s_memN (m_box BX_ LEN_) APP_ rfl ?_
  refine s_memN (m_box BX_ LEN_) APP_ rfl ?_
  refine s_val (v_assignC rfl) rfl ?_
  refine s_memN (m_alloc al_121 LEN_) APP_ rfl ?_
  refine s_nil ?_
  refine S_ ?_
  refine c_region ?_
  refine s_val (v_moveC rfl) rfl ?_
  refine s_nil ?_
  refine S_ ?_
  refine c_region ?_
  refine s_val (v_eqlN (a := 0) (b := 0) rfl rfl) rfl ?_
  refine s_val (v_assignC rfl) rfl ?_
  refine s_nil ?_
  have hQ1 : (chXor key 1#32 nonce text).length = text.length := LQ_
  refine S_ ?_
  refine c_region ?_
  refine s_val (v_loadR rfl rfl row_37 sz_37 EQ_ (by decide)) rfl ?_
  refine s_val (v_loadR rfl rfl row_98 sz_98 EQ_ (by decide)) rfl ?_
  refine s_val (v_moveC rfl) rfl ?_
  refine s_evN (e_callR (bs := [1]) (chXor_evS key 1#32 nonce text text.length tcap HYP_ HYP_ HYP_ HYP_) ok_76 (by kernel_rfl) (by kernel_rfl) rfl VAL_) APP_ rfl ?_
  refine s_val (v_assignC rfl) rfl ?_
  refine s_nil ?_
  have hQ2 : (adTag key nonce ad (chXor key 1#32 nonce text)).length = 16 := LQ_
  refine S_ ?_
  refine c_region ?_
  refine s_val (v_loadR rfl rfl row_37 sz_37 EQ_ (by decide)) rfl ?_
  refine s_val (v_loadR rfl rfl row_98 sz_98 EQ_ (by decide)) rfl ?_
  refine s_val (v_moveC rfl) rfl ?_
  refine s_val (v_moveC rfl) rfl ?_
  refine s_evN (e_callR (bs := [0,5]) (adTag_evS key nonce ad ad.length acap (chXor key 1#32 nonce text) text.length text.length HYP_ HYP_ HYP_ HYP_ HYP_ HYP_) ok_108 (by kernel_rfl) (by kernel_rfl) rfl VAL_) APP_ rfl ?_
  refine s_storeR rfl rfl rfl rfl sz_121 EQ_ EQ_ SET_ ?_
  refine s_nil ?_
  refine S_ ?_
  refine c_draw 3 mixed (by kernel_rfl) rfl rfl rfl ?_
  refine h_val (v_moveC rfl) rfl ?_
  refine h_val (v_loadR rfl rfl row_121 sz_121 EQ_ (by decide)) rfl ?_
  refine h_val (v_assignC rfl) rfl ?_
  refine h_nil ?_
  refine s_storeR rfl rfl rfl rfl sz_121 EQ_ EQ_ SET_ ?_
  refine s_nil ?_
  refine S_ ?_
  rw [hP_adWork00.out, hP_adWork01.out]
  exact k_2 (by first | exact r_tmpC rfl | exact r_tmpA rfl) (r_row rfl rfl row_121 sz_121 EQ_ (by decide)) (by first | kernel_rfl | rfl)
@[simp] theorem adWork00_len (key : List (BitVec 8)) (nonce : List (BitVec 8)) (text : List (BitVec 8)) (hkey : key.length = 32) (hnonce : nonce.length = 12) : (adWork00 key nonce text).length = text.length := by
  unfold adWork00
  first | (simp [*]; done) | (simp [*]; omega)
attribute [irreducible] adWork00
@[simp] theorem adWork01_len (key : List (BitVec 8)) (nonce : List (BitVec 8)) (ad : List (BitVec 8)) (text : List (BitVec 8)) (hkey : key.length = 32) (hnonce : nonce.length = 12) : (adWork01 key nonce ad text).length = 16 := by
  unfold adWork01
  first | (simp [*]; done) | (simp [*]; omega)
attribute [irreducible] adWork01
def adWork11 (key : List (BitVec 8)) (nonce : List (BitVec 8)) (ad : List (BitVec 8)) (tx : List (BitVec 8)) : List (BitVec 8) := adTag key nonce ad tx
set_option maxRecDepth 100000 in
set_option maxHeartbeats 2000000 in
theorem adWork1_ev (key : List (BitVec 8)) (nonce : List (BitVec 8)) (ad : List (BitVec 8)) (an : Nat) (acap : Nat) (b : List (BitVec 8)) (o : Nat) (n : Nat) (cap : Nat) (hkey : key.length = 32) (hnonce : nonce.length = 12) (had : ad.length = an) (han : an ≤ 1099511627) (hb : o + n ≤ b.length) (hn : n ≤ 1099511627) : Ev Tryz.prog (.call 75 [.c (.val (.int .i64 ((1 : Nat) : Int))), .agg (.a8 (key)), .agg (.a8 (nonce)), .c (.sl 0 0 an acap 1), .c (.sl 1 o n cap 1)] [.row false (.a8 (ad)), .row false (.a8 (b))]) (.val (.tup [.c (.sl 1 o n cap 1), .agg (.a8 (adWork11 key nonce ad (cut b o n)))]) [.row false (.a8 (ad)), .row false (.a8 (b))]) := by
  have hP_adWork11 : Hid (adWork11 key nonce ad (cut b o n) = adTag key nonce ad (cut b o n)) := ⟨rfl⟩
  subst had
  have htx : (cut b o n).length = n := by rw [cut_length]; omega
  try simp only [htx] at hP_adWork11
  refine c_call Tryz.func75 rfl Tryz.ntmps75 rfl LEN_ ?_
  refine S_ ?_
  refine c_region ?_
  refine s_memN (m_box BX_ LEN_) APP_ rfl ?_
  refine s_memN (m_box BX_ LEN_) APP_ rfl ?_
  refine s_val (v_assignC rfl) rfl ?_
  refine s_memN (m_alloc al_121 LEN_) APP_ rfl ?_
  refine s_nil ?_
  refine S_ ?_
  refine c_region ?_
  refine s_val (v_moveC rfl) rfl ?_
  refine s_nil ?_
  refine S_ ?_
  refine c_region ?_
  refine s_val (v_eqlN (a := 1) (b := 0) rfl rfl) rfl ?_
  refine s_val (v_assignC rfl) rfl ?_
  refine s_nil ?_
  refine S_ ?_
  refine c_region ?_
  refine s_val (v_eqlN (a := 1) (b := 1) rfl rfl) rfl ?_
  refine s_val (v_assignC rfl) rfl ?_
  refine s_nil ?_
  have hQ1 : (adTag key nonce ad (cut b o n)).length = 16 := LQ_
  refine S_ ?_
  refine c_region ?_
  refine s_val (v_loadR rfl rfl row_37 sz_37 EQ_ (by decide)) rfl ?_
  refine s_val (v_loadR rfl rfl row_98 sz_98 EQ_ (by decide)) rfl ?_
  refine s_val (v_moveC rfl) rfl ?_
  refine s_val (v_moveC rfl) rfl ?_
  refine s_evN (e_callR (bs := [0,1]) (adTag_ev key nonce ad ad.length acap b o n cap HYP_ HYP_ HYP_ HYP_ HYP_ HYP_) ok_108 (by kernel_rfl) (by kernel_rfl) rfl VAL_) APP_ rfl ?_
  refine s_storeR rfl rfl rfl rfl sz_121 EQ_ EQ_ SET_ ?_
  refine s_nil ?_
  refine S_ ?_
  refine c_draw 3 mixed (by kernel_rfl) rfl rfl rfl ?_
  refine h_val (v_moveC rfl) rfl ?_
  refine h_val (v_loadR rfl rfl row_121 sz_121 EQ_ (by decide)) rfl ?_
  refine h_val (v_assignC rfl) rfl ?_
  refine h_nil ?_
  refine s_storeR rfl rfl rfl rfl sz_121 EQ_ EQ_ SET_ ?_
  refine s_nil ?_
  refine S_ ?_
  rw [hP_adWork11.out]
  exact k_2 (by first | exact r_tmpC rfl | exact r_tmpA rfl) (r_row rfl rfl row_121 sz_121 EQ_ (by decide)) (by first | kernel_rfl | rfl)
@[simp] theorem adWork11_len (key : List (BitVec 8)) (nonce : List (BitVec 8)) (ad : List (BitVec 8)) (tx : List (BitVec 8)) (hkey : key.length = 32) (hnonce : nonce.length = 12) : (adWork11 key nonce ad tx).length = 16 := by
  unfold adWork11
  first | (simp [*]; done) | (simp [*]; omega)
attribute [irreducible] adWork11
end Go.Proofs.YtmbepikkgkcgkaaGreatDoor
namespace Go.Proofs.YtmbepikkgkcgkaaGreatDoor
open Go.RowKit
def adSeal0 (key : List (BitVec 8)) (nonce : List (BitVec 8)) (ad : List (BitVec 8)) (text : List (BitVec 8)) : List (BitVec 8) := (adWork00 key nonce text) ++ (adWork01 key nonce ad text)
set_option maxRecDepth 100000 in
set_option maxHeartbeats 2000000 in
theorem adSeal_ev (key : List (BitVec 8)) (nonce : List (BitVec 8)) (ad : List (BitVec 8)) (an : Nat) (acap : Nat) (text : List (BitVec 8)) (tn : Nat) (tcap : Nat) (hkey : key.length = 32) (hnonce : nonce.length = 12) (had : ad.length = an) (han : an ≤ 1099511627) (htext : text.length = tn) (htn : tn ≤ 1099511627) (hA : an ≤ 65536) (hT : tn ≤ 65536) : Ev Tryz.prog (.call 103 [.agg (.a8 (key)), .agg (.a8 (nonce)), .c (.sl 0 0 an acap 1), .c (.sl 1 0 tn tcap 1)] [.row false (.a8 (ad)), .row false (.a8 (text))]) (.val (.tup [.c (.sl 2 0 (tn + 16) (tn + 16) 1), .c (.val (.int .i64 ((0 : Nat) : Int)))]) [.row false (.a8 (ad)), .row false (.a8 (text)), .row true (.a8 (adSeal0 key nonce ad text))]) := by
  have hP_adSeal0 : Hid (adSeal0 key nonce ad text = (adWork00 key nonce text) ++ (adWork01 key nonce ad text)) := ⟨rfl⟩
  subst had
  subst htext
  refine c_call Tryz.func103 rfl Tryz.ntmps103 rfl LEN_ ?_
  refine S_ ?_
  refine c_region ?_
  refine s_memN (m_box BX_ LEN_) APP_ rfl ?_
  refine s_memN (m_box BX_ LEN_) APP_ rfl ?_
  refine s_val (v_assignC rfl) rfl ?_
  refine s_val (v_assignC rfl) rfl ?_
  refine s_nil ?_
  refine S_ ?_
  refine c_region ?_
  refine s_val (v_moveC rfl) rfl ?_
  refine s_val (v_lenS rfl Tryz.underlying23) rfl ?_
  refine s_val (v_gtrN (b := 65536) rfl rfl) rfl ?_
  refine s_val (v_moveC rfl) rfl ?_
  refine s_go GO_ ?_
  refine s_val (v_moveC rfl) rfl ?_
  refine s_go GO_ ?_
  refine s_val (v_lenS rfl Tryz.underlying23) rfl ?_
  refine s_go GO_ ?_
  refine s_val (v_gtrN (b := 65536) rfl rfl) rfl ?_
  refine s_val (v_pickF rfl PK_ rfl) rfl ?_
  refine s_nil ?_
  have hQ1 : (adWork00 key nonce text).length = text.length := LQ_
  have hQ2 : (adWork01 key nonce ad text).length = 16 := LQ_
  refine S_ ?_
  refine c_region ?_
  refine s_val (v_loadR rfl rfl row_37 sz_37 EQ_ (by decide)) rfl ?_
  refine s_val (v_loadR rfl rfl row_98 sz_98 EQ_ (by decide)) rfl ?_
  refine s_val (v_moveC rfl) rfl ?_
  refine s_val (v_moveC rfl) rfl ?_
  refine s_evN (e_callR (bs := [0,1]) (adWork0_ev key nonce ad ad.length acap text text.length tcap HYP_ HYP_ HYP_ HYP_ HYP_ HYP_) ok_75 (by kernel_rfl) (by kernel_rfl) rfl VAL_) APP_ rfl ?_
  refine s_val (v_moveT rfl) rfl ?_
  refine s_val (v_extract rfl rfl) rfl ?_
  refine s_val (v_extract rfl rfl) rfl ?_
  refine s_memN (m_alloc al_121 LEN_) APP_ rfl ?_
  refine s_val (v_assignC rfl) rfl ?_
  refine s_storeR rfl rfl rfl rfl sz_121 EQ_ EQ_ SET_ ?_
  refine s_nil ?_
  refine S_ ?_
  refine c_region ?_
  refine s_val (v_moveC rfl) rfl ?_
  refine s_val (v_slA1 (l := 0) (h := 16) (len := 16) (cp := 16) rfl Tryz.underlying121 sz_5 rfl rfl rfl (by omega) (by omega) FIT_ rfl rfl) rfl ?_
  refine s_app8 rfl rfl rfl rfl Tryz.underlying23 Tryz.underlying23 el_5 EQL_ EQL_ (by omega) LEN_ KILL_ rfl ?_
  refine s_val (v_assignC rfl) rfl ?_
  refine s_val (v_assignC rfl) rfl ?_
  refine s_nil ?_
  refine S_ ?_
  rw [hP_adSeal0.out]
  exact k_2 (by first | exact r_tmpC rfl | exact r_tmpA rfl) (by first | exact r_tmpC rfl | exact r_tmpA rfl) (by first | kernel_rfl | rfl)
@[simp] theorem adSeal0_len (key : List (BitVec 8)) (nonce : List (BitVec 8)) (ad : List (BitVec 8)) (text : List (BitVec 8)) (hkey : key.length = 32) (hnonce : nonce.length = 12) : (adSeal0 key nonce ad text).length = text.length + 16 := by
  unfold adSeal0
  first | (simp [*]; done) | (simp [*]; omega)
attribute [irreducible] adSeal0
end Go.Proofs.YtmbepikkgkcgkaaGreatDoor
namespace Go.Proofs.YtmbepikkgkcgkaaGreatDoor
open Go.RowKit
def adOpen0 (key : List (BitVec 8)) (nonce : List (BitVec 8)) (box : List (BitVec 8)) : List (BitVec 8) := chXor key 1#32 nonce (cut box 0 (box.length - 16))
set_option maxRecDepth 100000 in
set_option maxHeartbeats 2000000 in
theorem adOpen_ev (key : List (BitVec 8)) (nonce : List (BitVec 8)) (ad : List (BitVec 8)) (an : Nat) (acap : Nat) (box : List (BitVec 8)) (bn : Nat) (bcap : Nat) (hkey : key.length = 32) (hnonce : nonce.length = 12) (had : ad.length = an) (han : an ≤ 1099511627) (hbox : box.length = bn) (hbn : bn ≤ 1099511627) (hA : an ≤ 65536) (h16 : 16 ≤ bn) (hT : bn - 16 ≤ 65536) (hE : adWork11 key nonce ad (cut box 0 (bn - 16)) = cut box (bn - 16) 16) : Ev Tryz.prog (.call 53 [.agg (.a8 (key)), .agg (.a8 (nonce)), .c (.sl 0 0 an acap 1), .c (.sl 1 0 bn bcap 1)] [.row false (.a8 (ad)), .row false (.a8 (box))]) (.val (.tup [.c (.sl 2 0 (bn - 16) (bn - 16) 1), .c (.val (.int .i64 ((0 : Nat) : Int)))]) [.row false (.a8 (ad)), .row false (.a8 (box)), .row true (.a8 (adOpen0 key nonce box))]) := by
  have hP_adOpen0 : Hid (adOpen0 key nonce box = chXor key 1#32 nonce (cut box 0 (box.length - 16))) := ⟨rfl⟩
  subst had
  subst hbox
  refine c_call Tryz.func53 rfl Tryz.ntmps53 rfl LEN_ ?_
  refine S_ ?_
  refine c_region ?_
  refine s_memN (m_box BX_ LEN_) APP_ rfl ?_
  refine s_memN (m_box BX_ LEN_) APP_ rfl ?_
  refine s_val (v_assignC rfl) rfl ?_
  refine s_val (v_assignC rfl) rfl ?_
  refine s_nil ?_
  refine S_ ?_
  refine c_region ?_
  refine s_val (v_moveC rfl) rfl ?_
  refine s_val (v_lenS rfl Tryz.underlying23) rfl ?_
  first
    | refine s_val (v_subN (b := 16) rfl rfl (by omega) (by omega)) rfl ?_
    | refine s_val (v_subI rfl rfl (by omega)) rfl ?_
  refine s_val (v_assignC rfl) rfl ?_
  refine s_nil ?_
  refine S_ ?_
  refine c_region ?_
  refine s_val (v_moveC rfl) rfl ?_
  refine s_val (v_lenS rfl Tryz.underlying23) rfl ?_
  refine s_val (v_gtrN (b := 65536) rfl rfl) rfl ?_
  refine s_val (v_moveC rfl) rfl ?_
  refine s_go GO_ ?_
  refine s_val (v_moveC rfl) rfl ?_
  refine s_go GO_ ?_
  refine s_val (v_lssN (b := 0) rfl rfl) rfl ?_
  refine s_val (v_pickF rfl PK_ rfl) rfl ?_
  refine s_val (v_moveC rfl) rfl ?_
  refine s_go GO_ ?_
  refine s_val (v_moveC rfl) rfl ?_
  refine s_go GO_ ?_
  refine s_val (v_gtrN (b := 65536) rfl rfl) rfl ?_
  refine s_val (v_pickF rfl PK_ rfl) rfl ?_
  refine s_nil ?_
  have hQ1 : (adWork11 key nonce ad (cut box 0 (box.length - 16))).length = 16 := LQ_
  refine S_ ?_
  refine c_draw 12 mixed (by kernel_rfl) rfl rfl rfl ?_
  refine h_val (v_loadR rfl rfl row_37 sz_37 EQ_ (by decide)) rfl ?_
  refine h_val (v_loadR rfl rfl row_98 sz_98 EQ_ (by decide)) rfl ?_
  refine h_val (v_moveC rfl) rfl ?_
  refine h_val (v_moveC rfl) rfl ?_
  refine h_val (v_moveC rfl) rfl ?_
  refine h_val (v_slS0 rfl Tryz.underlying23 sz_5 rfl (by omega)) rfl ?_
  refine h_evN (e_callR (bs := [0,1]) (adWork1_ev key nonce ad ad.length acap box 0 (box.length - 16) bcap HYP_ HYP_ HYP_ HYP_ HYP_ HYP_) ok_75 (by kernel_rfl) (by kernel_rfl) rfl VAL_) APP_ rfl ?_
  refine h_val (v_moveT rfl) rfl ?_
  refine h_val (v_extract rfl rfl) rfl ?_
  refine h_val (v_extract rfl rfl) rfl ?_
  refine h_memN (m_alloc al_121 LEN_) APP_ rfl ?_
  refine h_val (v_assignC rfl) rfl ?_
  refine h_nil ?_
  refine s_storeR rfl rfl rfl rfl sz_121 EQ_ EQ_ SET_ ?_
  refine s_nil ?_
  have hQ2 : (cut box (box.length - 16) 16).length = 16 := LQ_
  refine S_ ?_
  refine c_draw 7 mixed (by kernel_rfl) rfl rfl rfl ?_
  refine h_val (v_loadR rfl rfl row_121 sz_121 EQ_ (by decide)) rfl ?_
  refine h_val (v_moveC rfl) rfl ?_
  refine h_val (v_moveC rfl) rfl ?_
  refine h_val (v_slS1 rfl Tryz.underlying23 sz_5 rfl rfl (by omega) (by omega)) rfl ?_
  refine h_val (v_arrP rfl Tryz.underlying121 (by omega) (by decide)) rfl ?_
  refine h_val (v_loadW8 rfl rfl row_121 sz_121 LE_ (by decide)) rfl ?_
  refine h_val (v_neqR8 rfl rfl Tryz.underlying121 Tryz.underlying5 sz_5 EQ_ EQ_) rfl ?_
  refine h_nil ?_
  refine s_nil ?_
  refine Q_ ?_
  refine c_condF rfl (by simp [hE]) ?_
  have hQ3 : (chXor key 1#32 nonce (cut box 0 (box.length - 16))).length = box.length - 16 := LQ_
  refine S_ ?_
  refine c_region ?_
  refine s_val (v_loadR rfl rfl row_37 sz_37 EQ_ (by decide)) rfl ?_
  refine s_val (v_loadR rfl rfl row_98 sz_98 EQ_ (by decide)) rfl ?_
  refine s_val (v_moveC rfl) rfl ?_
  refine s_evN (e_callR (bs := [1]) (chXor_ev key 1#32 nonce box 0 (box.length - 16) bcap HYP_ HYP_ HYP_ HYP_) ok_76 (by kernel_rfl) (by kernel_rfl) rfl VAL_) APP_ rfl ?_
  refine s_val (v_assignC rfl) rfl ?_
  refine s_val (v_assignC rfl) rfl ?_
  refine s_nil ?_
  refine S_ ?_
  rw [hP_adOpen0.out]
  exact k_2 (by first | exact r_tmpC rfl | exact r_tmpA rfl) (by first | exact r_tmpC rfl | exact r_tmpA rfl) (by first | kernel_rfl | rfl)
@[simp] theorem adOpen0_len (key : List (BitVec 8)) (nonce : List (BitVec 8)) (box : List (BitVec 8)) (hkey : key.length = 32) (hnonce : nonce.length = 12) : (adOpen0 key nonce box).length = box.length - 16 := by
  unfold adOpen0
  first | (simp [*]; done) | (simp [*]; omega)
attribute [irreducible] adOpen0
set_option maxRecDepth 100000 in
set_option maxHeartbeats 2000000 in
theorem adOpenE_ev (key : List (BitVec 8)) (nonce : List (BitVec 8)) (ad : List (BitVec 8)) (an : Nat) (acap : Nat) (box : List (BitVec 8)) (bn : Nat) (bcap : Nat) (hkey : key.length = 32) (hnonce : nonce.length = 12) (had : ad.length = an) (han : an ≤ 1099511627) (hbox : box.length = bn) (hbn : bn ≤ 1099511627) (hA : an ≤ 65536) (h16 : 16 ≤ bn) (hT : bn - 16 ≤ 65536) (hE : ¬ (adWork11 key nonce ad (cut box 0 (bn - 16)) = cut box (bn - 16) 16)) : Ev Tryz.prog (.call 53 [.agg (.a8 (key)), .agg (.a8 (nonce)), .c (.sl 0 0 an acap 1), .c (.sl 1 0 bn bcap 1)] [.row false (.a8 (ad)), .row false (.a8 (box))]) (.val (.tup [.c .nsl, .c (.val (.int .i64 ((3 : Nat) : Int)))]) [.row false (.a8 (ad)), .row false (.a8 (box))]) := by
  subst had
  subst hbox
  refine c_call Tryz.func53 rfl Tryz.ntmps53 rfl LEN_ ?_
  refine S_ ?_
  refine c_region ?_
  refine s_memN (m_box BX_ LEN_) APP_ rfl ?_
  refine s_memN (m_box BX_ LEN_) APP_ rfl ?_
  refine s_val (v_assignC rfl) rfl ?_
  refine s_val (v_assignC rfl) rfl ?_
  refine s_nil ?_
  refine S_ ?_
  refine c_region ?_
  refine s_val (v_moveC rfl) rfl ?_
  refine s_val (v_lenS rfl Tryz.underlying23) rfl ?_
  first
    | refine s_val (v_subN (b := 16) rfl rfl (by omega) (by omega)) rfl ?_
    | refine s_val (v_subI rfl rfl (by omega)) rfl ?_
  refine s_val (v_assignC rfl) rfl ?_
  refine s_nil ?_
  refine S_ ?_
  refine c_region ?_
  refine s_val (v_moveC rfl) rfl ?_
  refine s_val (v_lenS rfl Tryz.underlying23) rfl ?_
  refine s_val (v_gtrN (b := 65536) rfl rfl) rfl ?_
  refine s_val (v_moveC rfl) rfl ?_
  refine s_go GO_ ?_
  refine s_val (v_moveC rfl) rfl ?_
  refine s_go GO_ ?_
  refine s_val (v_lssN (b := 0) rfl rfl) rfl ?_
  refine s_val (v_pickF rfl PK_ rfl) rfl ?_
  refine s_val (v_moveC rfl) rfl ?_
  refine s_go GO_ ?_
  refine s_val (v_moveC rfl) rfl ?_
  refine s_go GO_ ?_
  refine s_val (v_gtrN (b := 65536) rfl rfl) rfl ?_
  refine s_val (v_pickF rfl PK_ rfl) rfl ?_
  refine s_nil ?_
  have hQ1 : (adWork11 key nonce ad (cut box 0 (box.length - 16))).length = 16 := LQ_
  refine S_ ?_
  refine c_draw 12 mixed (by kernel_rfl) rfl rfl rfl ?_
  refine h_val (v_loadR rfl rfl row_37 sz_37 EQ_ (by decide)) rfl ?_
  refine h_val (v_loadR rfl rfl row_98 sz_98 EQ_ (by decide)) rfl ?_
  refine h_val (v_moveC rfl) rfl ?_
  refine h_val (v_moveC rfl) rfl ?_
  refine h_val (v_moveC rfl) rfl ?_
  refine h_val (v_slS0 rfl Tryz.underlying23 sz_5 rfl (by omega)) rfl ?_
  refine h_evN (e_callR (bs := [0,1]) (adWork1_ev key nonce ad ad.length acap box 0 (box.length - 16) bcap HYP_ HYP_ HYP_ HYP_ HYP_ HYP_) ok_75 (by kernel_rfl) (by kernel_rfl) rfl VAL_) APP_ rfl ?_
  refine h_val (v_moveT rfl) rfl ?_
  refine h_val (v_extract rfl rfl) rfl ?_
  refine h_val (v_extract rfl rfl) rfl ?_
  refine h_memN (m_alloc al_121 LEN_) APP_ rfl ?_
  refine h_val (v_assignC rfl) rfl ?_
  refine h_nil ?_
  refine s_storeR rfl rfl rfl rfl sz_121 EQ_ EQ_ SET_ ?_
  refine s_nil ?_
  have hQ2 : (cut box (box.length - 16) 16).length = 16 := LQ_
  refine S_ ?_
  refine c_draw 7 mixed (by kernel_rfl) rfl rfl rfl ?_
  refine h_val (v_loadR rfl rfl row_121 sz_121 EQ_ (by decide)) rfl ?_
  refine h_val (v_moveC rfl) rfl ?_
  refine h_val (v_moveC rfl) rfl ?_
  refine h_val (v_slS1 rfl Tryz.underlying23 sz_5 rfl rfl (by omega) (by omega)) rfl ?_
  refine h_val (v_arrP rfl Tryz.underlying121 (by omega) (by decide)) rfl ?_
  refine h_val (v_loadW8 rfl rfl row_121 sz_121 LE_ (by decide)) rfl ?_
  refine h_val (v_neqR8 rfl rfl Tryz.underlying121 Tryz.underlying5 sz_5 EQ_ EQ_) rfl ?_
  refine h_nil ?_
  refine s_nil ?_
  refine Q_ ?_
  refine c_condT rfl (by simp [hE]) ?_
  refine S_ ?_
  refine c_region ?_
  refine s_val (v_assignC rfl) rfl ?_
  refine s_val (v_assignC rfl) rfl ?_
  refine s_nil ?_
  refine S_ ?_
  exact k_2 (by first | exact r_tmpC rfl | exact r_tmpA rfl) (by first | exact r_tmpC rfl | exact r_tmpA rfl) (by first | kernel_rfl | rfl)
set_option maxRecDepth 100000 in
set_option maxHeartbeats 2000000 in
theorem adOpenT_ev (key : List (BitVec 8)) (nonce : List (BitVec 8)) (ad : List (BitVec 8)) (an : Nat) (acap : Nat) (box : List (BitVec 8)) (bn : Nat) (bcap : Nat) (_hkey : key.length = 32) (_hnonce : nonce.length = 12) (had : ad.length = an) (han : an ≤ 1099511627) (hbox : box.length = bn) (hbn : bn ≤ 1099511627) (hA : an ≤ 65536) (h16 : 16 ≤ bn) (hT : 65536 < bn - 16) : Ev Tryz.prog (.call 53 [.agg (.a8 (key)), .agg (.a8 (nonce)), .c (.sl 0 0 an acap 1), .c (.sl 1 0 bn bcap 1)] [.row false (.a8 (ad)), .row false (.a8 (box))]) (.val (.tup [.c .nsl, .c (.val (.int .i64 ((2 : Nat) : Int)))]) [.row false (.a8 (ad)), .row false (.a8 (box))]) := by
  subst had
  subst hbox
  refine c_call Tryz.func53 rfl Tryz.ntmps53 rfl LEN_ ?_
  refine S_ ?_
  refine c_region ?_
  refine s_memN (m_box BX_ LEN_) APP_ rfl ?_
  refine s_memN (m_box BX_ LEN_) APP_ rfl ?_
  refine s_val (v_assignC rfl) rfl ?_
  refine s_val (v_assignC rfl) rfl ?_
  refine s_nil ?_
  refine S_ ?_
  refine c_region ?_
  refine s_val (v_moveC rfl) rfl ?_
  refine s_val (v_lenS rfl Tryz.underlying23) rfl ?_
  first
    | refine s_val (v_subN (b := 16) rfl rfl (by omega) (by omega)) rfl ?_
    | refine s_val (v_subI rfl rfl (by omega)) rfl ?_
  refine s_val (v_assignC rfl) rfl ?_
  refine s_nil ?_
  refine S_ ?_
  refine c_region ?_
  refine s_val (v_moveC rfl) rfl ?_
  refine s_val (v_lenS rfl Tryz.underlying23) rfl ?_
  refine s_val (v_gtrN (b := 65536) rfl rfl) rfl ?_
  refine s_val (v_moveC rfl) rfl ?_
  refine s_go GO_ ?_
  refine s_val (v_moveC rfl) rfl ?_
  refine s_go GO_ ?_
  refine s_val (v_lssN (b := 0) rfl rfl) rfl ?_
  refine s_val (v_pickF rfl PK_ rfl) rfl ?_
  refine s_val (v_moveC rfl) rfl ?_
  refine s_go GO_ ?_
  refine s_val (v_moveC rfl) rfl ?_
  refine s_go GO_ ?_
  refine s_val (v_gtrN (b := 65536) rfl rfl) rfl ?_
  refine s_val (v_pickF rfl PK_ rfl) rfl ?_
  refine s_nil ?_
  refine S_ ?_
  refine c_region ?_
  refine s_val (v_assignC rfl) rfl ?_
  refine s_val (v_assignC rfl) rfl ?_
  refine s_nil ?_
  refine S_ ?_
  exact k_2 (by first | exact r_tmpC rfl | exact r_tmpA rfl) (by first | exact r_tmpC rfl | exact r_tmpA rfl) (by first | kernel_rfl | rfl)
set_option maxRecDepth 100000 in
set_option maxHeartbeats 2000000 in
theorem adOpenS_ev (key : List (BitVec 8)) (nonce : List (BitVec 8)) (ad : List (BitVec 8)) (an : Nat) (acap : Nat) (box : List (BitVec 8)) (bn : Nat) (bcap : Nat) (_hkey : key.length = 32) (_hnonce : nonce.length = 12) (had : ad.length = an) (han : an ≤ 1099511627) (hbox : box.length = bn) (hbn : bn ≤ 1099511627) (hA : an ≤ 65536) (h16 : bn < 16) : Ev Tryz.prog (.call 53 [.agg (.a8 (key)), .agg (.a8 (nonce)), .c (.sl 0 0 an acap 1), .c (.sl 1 0 bn bcap 1)] [.row false (.a8 (ad)), .row false (.a8 (box))]) (.val (.tup [.c .nsl, .c (.val (.int .i64 ((2 : Nat) : Int)))]) [.row false (.a8 (ad)), .row false (.a8 (box))]) := by
  subst had
  subst hbox
  refine c_call Tryz.func53 rfl Tryz.ntmps53 rfl LEN_ ?_
  refine S_ ?_
  refine c_region ?_
  refine s_memN (m_box BX_ LEN_) APP_ rfl ?_
  refine s_memN (m_box BX_ LEN_) APP_ rfl ?_
  refine s_val (v_assignC rfl) rfl ?_
  refine s_val (v_assignC rfl) rfl ?_
  refine s_nil ?_
  refine S_ ?_
  refine c_region ?_
  refine s_val (v_moveC rfl) rfl ?_
  refine s_val (v_lenS rfl Tryz.underlying23) rfl ?_
  first
    | refine s_val (v_subN (b := 16) rfl rfl (by omega) (by omega)) rfl ?_
    | refine s_val (v_subI rfl rfl (by omega)) rfl ?_
  refine s_val (v_assignC rfl) rfl ?_
  refine s_nil ?_
  refine S_ ?_
  refine c_region ?_
  refine s_val (v_moveC rfl) rfl ?_
  refine s_val (v_lenS rfl Tryz.underlying23) rfl ?_
  refine s_val (v_gtrN (b := 65536) rfl rfl) rfl ?_
  refine s_val (v_moveC rfl) rfl ?_
  refine s_go GO_ ?_
  refine s_val (v_moveC rfl) rfl ?_
  refine s_go GO_ ?_
  refine s_val (v_lssI rfl rfl) rfl ?_
  refine s_val (v_pickF rfl PK_ rfl) rfl ?_
  refine s_val (v_moveC rfl) rfl ?_
  refine s_no GO_ rfl ?_
  refine s_no GO_ rfl ?_
  refine s_val (v_pickT rfl PK_ rfl) rfl ?_
  refine s_nil ?_
  refine S_ ?_
  refine c_region ?_
  refine s_val (v_assignC rfl) rfl ?_
  refine s_val (v_assignC rfl) rfl ?_
  refine s_nil ?_
  refine S_ ?_
  exact k_2 (by first | exact r_tmpC rfl | exact r_tmpA rfl) (by first | exact r_tmpC rfl | exact r_tmpA rfl) (by first | kernel_rfl | rfl)
end Go.Proofs.YtmbepikkgkcgkaaGreatDoor
namespace Go.Proofs.YtmbepikkgkcgkaaGreatDoor
open Go.RowKit
def shaHigh_L3_S (b : List (BitVec 8)) (o : Nat) (X1 : BitVec 64) (j3 : Nat) : BitVec 64 := (X1 <<< 8) ||| ((nth b (o + j3)).setWidth 64)
def shaHigh_L3 (b : List (BitVec 8)) (o : Nat) : Nat → BitVec 64
  | 0 => 0#64
  | j3 + 1 => shaHigh_L3_S b o (shaHigh_L3 b o j3) j3
def shaHigh (b : List (BitVec 8)) (o : Nat) (n : Nat) : BitVec 64 := (shaHigh_L3 b o n)
set_option maxRecDepth 100000 in
set_option maxHeartbeats 2000000 in
theorem shaHigh_ev (b : List (BitVec 8)) (o : Nat) (n : Nat) (cap : Nat) (hb : o + n ≤ b.length) (hn : n ≤ 8796093022208) : Ev Tryz.prog (.call 62 [.c (.sl 0 o n cap 1)] [.row false (.a8 (b))]) (.val (.c (.val (U64 (shaHigh b o n)))) [.row false (.a8 (b))]) := by
  have hP : Hid (shaHigh b o n = (shaHigh_L3 b o n)) := ⟨rfl⟩
  refine c_call Tryz.func62 rfl Tryz.ntmps62 rfl LEN_ ?_
  refine S_ ?_
  refine c_region ?_
  refine s_val (v_assignC rfl) rfl ?_
  refine s_nil ?_
  refine S_ ?_
  refine c_region ?_
  refine s_val (v_assignC rfl) rfl ?_
  refine s_nil ?_
  refine S_ ?_
  refine c_region ?_
  refine s_val (v_moveC rfl) rfl ?_
  refine s_val (v_lenS rfl Tryz.underlying23) rfl ?_
  refine s_val (v_moveC rfl) rfl ?_
  refine s_nil ?_
  refine S_ ?_
  refine c_loopC [3, 6, 7, 8] (fun (zz : Nat × BitVec 64) => ⟨19, keepT [3, 6, 7, 8] [.c (.val (U64 (zz.2))), .c (.sl 0 o n cap 1), .c (.val (.int .i64 (((n : Nat) : Int)))), .c (.val (.int .i64 (((zz.1 : Nat) : Int))))], [.row false (.a8 (b))]⟩) (fun j3 => (j3, shaHigh_L3 b o j3)) (n) (by kernel_rfl) ?_ ?_
  · intro j3 hj3
    try dsimp only
    rw [shaHigh_L3.eq_2, shaHigh_L3_S]
    generalize shaHigh_L3 b o j3 = X1 at *
    refine S_ ?_
    refine c_region ?_
    refine s_val (v_lssN rfl rfl) rfl ?_
    refine s_nil ?_
    refine S_ ?_
    refine c_region ?_
    refine s_val (v_idxSo rfl rfl Tryz.underlying23 sz_5 (by omega)) rfl ?_
    refine s_val (v_load8 rfl rfl row_5 LT_) rfl ?_
    refine s_val (v_assignC rfl) rfl ?_
    refine s_nil ?_
    refine S_ ?_
    refine c_region ?_
    refine s_val (v_moveC rfl) rfl ?_
    refine s_val (v_shl64n (j := 8) rfl rfl) rfl ?_
    refine s_val (v_moveC rfl) rfl ?_
    refine s_val (v_conv rfl Tryz.underlying5 Tryz.underlying70 (w8_64 _)) rfl ?_
    refine s_val (v_or64 rfl rfl) rfl ?_
    refine s_val (v_assignC rfl) rfl ?_
    refine s_nil ?_
    refine S_ ?_
    refine c_region ?_
    refine s_val (v_addN (b := 1) rfl rfl (by omega)) rfl ?_
    refine s_val (v_moveC rfl) rfl ?_
    refine s_nil ?_
    exact ⟨(j3 + 1, _), by kernel_rfl, rfl⟩
  · try dsimp only
    generalize shaHigh_L3 b o n = Y2 at *
    refine S_ ?_
    refine c_region ?_
    refine s_val (v_lssN rfl rfl) rfl ?_
    refine s_nil ?_
    refine S_ ?_
    refine c_region ?_
    refine s_val (v_moveC rfl) rfl ?_
    refine s_val (v_assignC rfl) rfl ?_
    refine s_nil ?_
    refine S_ ?_
    rw [hP.out]
    exact k_1 (by first | exact r_tmpC rfl | exact r_tmpA rfl) (by first | kernel_rfl | rfl)
attribute [irreducible] shaHigh
def shaNumber_L2_S (x : BitVec 64) (X1 : List (BitVec 8)) (j2 : Nat) : List (BitVec 8) := X1 ++ [(x >>> (8 * (7 - j2))).setWidth 8]
def shaNumber_L2 (b : List (BitVec 8)) (x : BitVec 64) : Nat → List (BitVec 8)
  | 0 => b
  | j2 + 1 => shaNumber_L2_S x (shaNumber_L2 b x j2) j2
@[simp] theorem shaNumber_L2_len (b : List (BitVec 8)) (x : BitVec 64) (j2 : Nat) : (shaNumber_L2 b x j2).length = b.length + j2 := by
  induction j2 with
  | zero => first | (simp [shaNumber_L2, *]; done) | (simp [shaNumber_L2, *]; omega)
  | succ j2 ih => rw [shaNumber_L2.eq_2, shaNumber_L2_S]; first | (simp [ih]; done) | (simp [ih]; omega) | (simp [*]; done) | (simp [*]; omega) | (split <;> first | (simp [ih]; done) | (simp [ih]; omega) | (simp [*]; done))
def shaNumber (b : List (BitVec 8)) (x : BitVec 64) : List (BitVec 8) := (shaNumber_L2 b x 8)
set_option maxRecDepth 100000 in
set_option maxHeartbeats 2000000 in
theorem shaNumber_ev (b : List (BitVec 8)) (n : Nat) (cap : Nat) (x : BitVec 64) (hb : b.length = n) (hn : n ≤ 8796093022208) : Ev Tryz.prog (.call 101 [.c (.sl 0 0 n cap 1), .c (.val (U64 x))] [.row true (.a8 (b))]) (.val (.c (.sl 1 0 (n + 8) (n + 8) 1)) [.dead, .row true (.a8 (shaNumber b x))]) := by
  have hP : Hid (shaNumber b x = (shaNumber_L2 b x 8)) := ⟨rfl⟩
  try simp only [hb] at hP
  refine c_call Tryz.func101 rfl Tryz.ntmps101 rfl LEN_ ?_
  refine S_ ?_
  refine c_region ?_
  refine s_val (v_assignC rfl) rfl ?_
  refine s_nil ?_
  refine S_ ?_
  refine c_region ?_
  refine s_val (v_assignC rfl) rfl ?_
  refine s_nil ?_
  refine S_ ?_
  refine c_move 0 rfl rfl LEN_ rfl ?_
  refine S_ ?_
  refine c_loopC [0, 1, 5] (fun (zz : Nat × List (BitVec 8)) => ⟨19, keepT [0, 1, 5] [.c (.sl 1 0 (n + zz.1) (n + zz.1) 1), .c (.val (U64 (x))), .c (.val (.int .i64 (((7 : Nat) : Int) - ((zz.1 : Nat) : Int))))], [.dead, .row true (.a8 (zz.2))]⟩) (fun j2 => (j2, shaNumber_L2 b x j2)) (8) (by kernel_rfl) ?_ ?_
  · intro j2 hj2
    try dsimp only
    have hX1 : (shaNumber_L2 b x j2).length = n + j2 := by rw [shaNumber_L2_len b x _]; try omega
    rw [shaNumber_L2.eq_2, shaNumber_L2_S]
    try simp only [hb]
    generalize shaNumber_L2 b x j2 = X1 at *
    rw [show ((7 : Nat) : Int) - ((j2 : Nat) : Int) = ((7 - j2 : Nat) : Int) from by omega]
    refine S_ ?_
    refine c_region ?_
    refine s_val (v_moveC rfl) rfl ?_
    refine s_val (v_geqN (b := 0) rfl rfl) rfl ?_
    refine s_nil ?_
    refine S_ ?_
    refine c_region ?_
    refine s_val (v_moveC rfl) rfl ?_
    refine s_val (v_moveC rfl) rfl ?_
    refine s_val (v_moveC rfl) rfl ?_
    refine s_val (v_mulN (a := 8) rfl rfl (by omega)) rfl ?_
    refine s_val (v_shr64n rfl rfl) rfl ?_
    refine s_val (v_conv rfl Tryz.underlying70 Tryz.underlying5 (w64_8 _)) rfl ?_
    refine s_memN (m_bs8 (l := [_]) Tryz.underlying23 el_5 rfl rfl (by decide) (by decide) LEN_) APP_ rfl ?_
    refine s_app8 rfl rfl rfl rfl Tryz.underlying23 Tryz.underlying23 el_5 EQL_ EQL_ (by omega) LEN_ KILL_ rfl ?_
    refine s_val (v_assignC rfl) rfl ?_
    refine s_nil ?_
    refine S_ ?_
    refine c_region ?_
    refine s_val (v_moveC rfl) rfl ?_
    first
      | refine s_val (v_subN (b := 1) rfl rfl (by omega) (by omega)) rfl ?_
      | refine s_val (v_subI rfl rfl (by omega)) rfl ?_
    refine s_val (v_assignC rfl) rfl ?_
    refine s_nil ?_
    refine ⟨(j2 + 1, _), (by
      dsimp only
      rw [show ((7 : Nat) : Int) - ((j2 + 1 : Nat) : Int) = ((7 - j2 : Nat) : Int) - 1 from by omega]
      kernel_rfl), rfl⟩
  · try dsimp only
    have hY2 : (shaNumber_L2 b x 8).length = n + 8 := by rw [shaNumber_L2_len b x _]; try omega
    generalize shaNumber_L2 b x 8 = Y2 at *
    refine S_ ?_
    refine c_region ?_
    refine s_val (v_moveC rfl) rfl ?_
    refine s_val (v_geqI rfl rfl) rfl ?_
    refine s_nil ?_
    refine S_ ?_
    refine c_region ?_
    refine s_val (v_moveC rfl) rfl ?_
    refine s_val (v_assignC rfl) rfl ?_
    refine s_nil ?_
    refine S_ ?_
    rw [hP.out]
    exact k_1 (by first | exact r_tmpC rfl | exact r_tmpA rfl) (by first | kernel_rfl | rfl)
@[simp] theorem shaNumber_len (b : List (BitVec 8)) (x : BitVec 64) : (shaNumber b x).length = b.length + 8 := by
  unfold shaNumber
  first | (simp [shaNumber_L2_len, *]; done) | (simp [shaNumber_L2_len, *]; omega)
attribute [irreducible] shaNumber
def shaK256  : List (BitVec 32) := [1116352408#32, 1899447441#32, 3049323471#32, 3921009573#32, 961987163#32, 1508970993#32, 2453635748#32, 2870763221#32, 3624381080#32, 310598401#32, 607225278#32, 1426881987#32, 1925078388#32, 2162078206#32, 2614888103#32, 3248222580#32, 3835390401#32, 4022224774#32, 264347078#32, 604807628#32, 770255983#32, 1249150122#32, 1555081692#32, 1996064986#32, 2554220882#32, 2821834349#32, 2952996808#32, 3210313671#32, 3336571891#32, 3584528711#32, 113926993#32, 338241895#32, 666307205#32, 773529912#32, 1294757372#32, 1396182291#32, 1695183700#32, 1986661051#32, 2177026350#32, 2456956037#32, 2730485921#32, 2820302411#32, 3259730800#32, 3345764771#32, 3516065817#32, 3600352804#32, 4094571909#32, 275423344#32, 430227734#32, 506948616#32, 659060556#32, 883997877#32, 958139571#32, 1322822218#32, 1537002063#32, 1747873779#32, 1955562222#32, 2024104815#32, 2227730452#32, 2361852424#32, 2428436474#32, 2756734187#32, 3204031479#32, 3329325298#32]
set_option maxRecDepth 100000 in
set_option maxHeartbeats 2000000 in
theorem shaK256_ev   : Ev Tryz.prog (.call 60 [] []) (.val (.c (.sl 0 0 64 64 1)) [.row true (.a32 (shaK256))]) := by
  have hP : Hid (shaK256 = [1116352408#32, 1899447441#32, 3049323471#32, 3921009573#32, 961987163#32, 1508970993#32, 2453635748#32, 2870763221#32, 3624381080#32, 310598401#32, 607225278#32, 1426881987#32, 1925078388#32, 2162078206#32, 2614888103#32, 3248222580#32, 3835390401#32, 4022224774#32, 264347078#32, 604807628#32, 770255983#32, 1249150122#32, 1555081692#32, 1996064986#32, 2554220882#32, 2821834349#32, 2952996808#32, 3210313671#32, 3336571891#32, 3584528711#32, 113926993#32, 338241895#32, 666307205#32, 773529912#32, 1294757372#32, 1396182291#32, 1695183700#32, 1986661051#32, 2177026350#32, 2456956037#32, 2730485921#32, 2820302411#32, 3259730800#32, 3345764771#32, 3516065817#32, 3600352804#32, 4094571909#32, 275423344#32, 430227734#32, 506948616#32, 659060556#32, 883997877#32, 958139571#32, 1322822218#32, 1537002063#32, 1747873779#32, 1955562222#32, 2024104815#32, 2227730452#32, 2361852424#32, 2428436474#32, 2756734187#32, 3204031479#32, 3329325298#32]) := ⟨rfl⟩
  refine c_call Tryz.func60 rfl Tryz.ntmps60 rfl LEN_ ?_
  refine S_ ?_
  refine c_region ?_
  refine s_val (v_assignC rfl) rfl ?_
  refine s_nil ?_
  refine S_ ?_
  refine c_region ?_
  refine s_memN (m_bs32 (l := [1116352408#32, 1899447441#32, 3049323471#32, 3921009573#32, 961987163#32, 1508970993#32, 2453635748#32, 2870763221#32, 3624381080#32, 310598401#32, 607225278#32, 1426881987#32, 1925078388#32, 2162078206#32, 2614888103#32, 3248222580#32, 3835390401#32, 4022224774#32, 264347078#32, 604807628#32, 770255983#32, 1249150122#32, 1555081692#32, 1996064986#32, 2554220882#32, 2821834349#32, 2952996808#32, 3210313671#32, 3336571891#32, 3584528711#32, 113926993#32, 338241895#32, 666307205#32, 773529912#32, 1294757372#32, 1396182291#32, 1695183700#32, 1986661051#32, 2177026350#32, 2456956037#32, 2730485921#32, 2820302411#32, 3259730800#32, 3345764771#32, 3516065817#32, 3600352804#32, 4094571909#32, 275423344#32, 430227734#32, 506948616#32, 659060556#32, 883997877#32, 958139571#32, 1322822218#32, 1537002063#32, 1747873779#32, 1955562222#32, 2024104815#32, 2227730452#32, 2361852424#32, 2428436474#32, 2756734187#32, 3204031479#32, 3329325298#32]) Tryz.underlying108 el_106 rfl rfl (by decide) (by decide) LEN_) APP_ rfl ?_
  refine s_val (v_assignC rfl) rfl ?_
  refine s_nil ?_
  refine S_ ?_
  rw [hP.out]
  exact k_1 (by first | exact r_tmpC rfl | exact r_tmpA rfl) (by first | kernel_rfl | rfl)
@[simp] theorem shaK256_len  : (shaK256).length = 64 := by
  unfold shaK256
  first | (simp [*]; done) | (simp [*]; omega)
attribute [irreducible] shaK256
def shaK512  : List (BitVec 64) := [4794697086780616226#64, 8158064640168781261#64, 13096744586834688815#64, 16840607885511220156#64, 4131703408338449720#64, 6480981068601479193#64, 10538285296894168987#64, 12329834152419229976#64, 15566598209576043074#64, 1334009975649890238#64, 2608012711638119052#64, 6128411473006802146#64, 8268148722764581231#64, 9286055187155687089#64, 11230858885718282805#64, 13951009754708518548#64, 16472876342353939154#64, 17275323862435702243#64, 1135362057144423861#64, 2597628984639134821#64, 3308224258029322869#64, 5365058923640841347#64, 6679025012923562964#64, 8573033837759648693#64, 10970295158949994411#64, 12119686244451234320#64, 12683024718118986047#64, 13788192230050041572#64, 14330467153632333762#64, 15395433587784984357#64, 489312712824947311#64, 1452737877330783856#64, 2861767655752347644#64, 3322285676063803686#64, 5560940570517711597#64, 5996557281743188959#64, 7280758554555802590#64, 8532644243296465576#64, 9350256976987008742#64, 10552545826968843579#64, 11727347734174303076#64, 12113106623233404929#64, 14000437183269869457#64, 14369950271660146224#64, 15101387698204529176#64, 15463397548674623760#64, 17586052441742319658#64, 1182934255886127544#64, 1847814050463011016#64, 2177327727835720531#64, 2830643537854262169#64, 3796741975233480872#64, 4115178125766777443#64, 5681478168544905931#64, 6601373596472566643#64, 7507060721942968483#64, 8399075790359081724#64, 8693463985226723168#64, 9568029438360202098#64, 10144078919501101548#64, 10430055236837252648#64, 11840083180663258601#64, 13761210420658862357#64, 14299343276471374635#64, 14566680578165727644#64, 15097957966210449927#64, 16922976911328602910#64, 17689382322260857208#64, 500013540394364858#64, 748580250866718886#64, 1242879168328830382#64, 1977374033974150939#64, 2944078676154940804#64, 3659926193048069267#64, 4368137639120453308#64, 4836135668995329356#64, 5532061633213252278#64, 6448918945643986474#64, 6902733635092675308#64, 7801388544844847127#64]
@[simp] theorem shaK512_len  : (shaK512).length = 80 := by
  unfold shaK512
  first | (simp [*]; done) | (simp [*]; omega)
attribute [irreducible] shaK512
end Go.Proofs.YtmbepikkgkcgkaaGreatDoor
namespace Go.Proofs.YtmbepikkgkcgkaaGreatDoor
open Go.RowKit
def shaPad_L3_S (X1 : List (BitVec 8)) : List (BitVec 8) := X1 ++ [0#8]
def shaPad_L3 (tx : List (BitVec 8)) : Nat → List (BitVec 8)
  | 0 => tx ++ [128#8]
  | j3 + 1 => shaPad_L3_S (shaPad_L3 tx j3)
@[simp] theorem shaPad_L3_len (tx : List (BitVec 8)) (j3 : Nat) : (shaPad_L3 tx j3).length = (tx.length + 1) + j3 := by
  induction j3 with
  | zero => first | (simp [shaPad_L3, *]; done) | (simp [shaPad_L3, *]; omega)
  | succ j3 ih => rw [shaPad_L3.eq_2, shaPad_L3_S]; first | (simp [ih]; done) | (simp [ih]; omega) | (simp [*]; done) | (simp [*]; omega) | (split <;> first | (simp [ih]; done) | (simp [ih]; omega) | (simp [*]; done))
def shaPad (tx : List (BitVec 8)) : List (BitVec 8) := shaNumber (shaPad_L3 tx ((120 - (tx.length + 1) % 64) % 64)) ((BitVec.ofNat 64 tx.length) <<< 3)
set_option maxRecDepth 100000 in
set_option maxHeartbeats 2000000 in
theorem shaPad_ev (b : List (BitVec 8)) (o : Nat) (n : Nat) (cap : Nat) (hb : o + n ≤ b.length) (hn : n ≤ 4398046511104) : Ev Tryz.prog (.call 61 [.c (.sl 0 o n cap 1), .c (.val (.int .i64 ((64 : Nat) : Int))), .c (.val (.int .i64 ((8 : Nat) : Int)))] [.row false (.a8 (b))]) (.val (.c (.sl 1 0 (((n + 1) + (120 - (n + 1) % 64) % 64) + 8) (((n + 1) + (120 - (n + 1) % 64) % 64) + 8) 1)) [.row false (.a8 (b)), .row true (.a8 (shaPad (cut b o n)))]) := by
  have hP : Hid (shaPad (cut b o n) = shaNumber (shaPad_L3 (cut b o n) ((120 - ((cut b o n).length + 1) % 64) % 64)) ((BitVec.ofNat 64 (cut b o n).length) <<< 3)) := ⟨rfl⟩
  have htx : (cut b o n).length = n := by rw [cut_length]; omega
  try simp only [htx] at hP
  refine c_call Tryz.func61 rfl Tryz.ntmps61 rfl LEN_ ?_
  refine S_ ?_
  refine c_region ?_
  refine s_val (v_assignC rfl) rfl ?_
  refine s_nil ?_
  refine S_ ?_
  refine c_region ?_
  refine s_memN (m_bs0 Tryz.underlying23 el_5) APP_ rfl ?_
  refine s_val (v_moveC rfl) rfl ?_
  refine s_memN (m_appE8c rfl rfl rfl Tryz.underlying23 Tryz.underlying23 el_5 LE_ (by omega) LEN_) APP_ rfl ?_
  refine s_val (v_assignC rfl) rfl ?_
  refine s_nil ?_
  refine S_ ?_
  refine c_region ?_
  refine s_val (v_moveC rfl) rfl ?_
  refine s_memN (m_bs8 (l := [128#8]) Tryz.underlying23 el_5 rfl rfl (by decide) (by decide) LEN_) APP_ rfl ?_
  refine s_app8 rfl rfl rfl rfl Tryz.underlying23 Tryz.underlying23 el_5 EQL_ EQL_ (by omega) LEN_ KILL_ rfl ?_
  refine s_val (v_assignC rfl) rfl ?_
  refine s_nil ?_
  refine S_ ?_
  refine c_loopC [0, 1, 2, 7] (fun (zz : Nat × List (BitVec 8)) => ⟨41, keepT [0, 1, 2, 7] [.c (.sl 0 o n cap 1), .c (.val (.int .i64 (((64 : Nat) : Int)))), .c (.val (.int .i64 (((8 : Nat) : Int)))), .c (.sl 1 0 ((n + 1) + zz.1) ((n + 1) + zz.1) 1)], [.row false (.a8 (b)), .row true (.a8 (zz.2))]⟩) (fun j3 => (j3, shaPad_L3 (cut b o n) j3)) ((120 - (n + 1) % 64) % 64) (by kernel_rfl) ?_ ?_
  · intro j3 hj3
    try dsimp only
    have hX1 : (shaPad_L3 (cut b o n) j3).length = (n + 1) + j3 := by rw [shaPad_L3_len (cut b o n) _]; try omega
    rw [shaPad_L3.eq_2, shaPad_L3_S]
    try simp only [htx]
    generalize shaPad_L3 (cut b o n) j3 = X1 at *
    refine S_ ?_
    refine c_region ?_
    refine s_val (v_moveC rfl) rfl ?_
    refine s_val (v_lenS rfl Tryz.underlying23) rfl ?_
    refine s_val (v_moveC rfl) rfl ?_
    refine s_val (v_remN (b := 64) rfl rfl (by omega) (by omega)) rfl ?_
    refine s_val (v_moveC rfl) rfl ?_
    refine s_val (v_moveC rfl) rfl ?_
    refine s_val (v_subN (a := 64) (b := 8) rfl rfl (by omega) (by omega)) rfl ?_
    refine s_val (v_neqN (b := 56) rfl rfl) rfl ?_
    refine s_nil ?_
    refine S_ ?_
    refine c_region ?_
    refine s_val (v_moveC rfl) rfl ?_
    refine s_memN (m_bs8 (l := [0#8]) Tryz.underlying23 el_5 rfl rfl (by decide) (by decide) LEN_) APP_ rfl ?_
    refine s_app8 rfl rfl rfl rfl Tryz.underlying23 Tryz.underlying23 el_5 EQL_ EQL_ (by omega) LEN_ KILL_ rfl ?_
    refine s_val (v_assignC rfl) rfl ?_
    refine s_nil ?_
    exact ⟨(j3 + 1, _), by kernel_rfl, rfl⟩
  · try dsimp only
    have hY2 : (shaPad_L3 (cut b o n) ((120 - (n + 1) % 64) % 64)).length = (n + 1) + (120 - (n + 1) % 64) % 64 := by rw [shaPad_L3_len (cut b o n) _]; try omega
    generalize shaPad_L3 (cut b o n) ((120 - (n + 1) % 64) % 64) = Y2 at *
    refine S_ ?_
    refine c_region ?_
    refine s_val (v_moveC rfl) rfl ?_
    refine s_val (v_lenS rfl Tryz.underlying23) rfl ?_
    refine s_val (v_moveC rfl) rfl ?_
    refine s_val (v_remN (b := 64) rfl rfl (by omega) (by omega)) rfl ?_
    refine s_val (v_moveC rfl) rfl ?_
    refine s_val (v_moveC rfl) rfl ?_
    refine s_val (v_subN (a := 64) (b := 8) rfl rfl (by omega) (by omega)) rfl ?_
    refine s_val (v_neqN (b := 56) rfl rfl) rfl ?_
    refine s_nil ?_
    refine S_ ?_
    refine c_region ?_
    refine s_val (v_moveC rfl) rfl ?_
    refine s_val (v_lenS rfl Tryz.underlying23) rfl ?_
    refine s_val (v_conv rfl Tryz.underlying3 Tryz.underlying70 (wi_64 _)) rfl ?_
    refine s_val (v_assignC rfl) rfl ?_
    refine s_nil ?_
    refine S_ ?_
    refine c_region ?_
    refine s_val (v_moveC rfl) rfl ?_
    refine s_nil ?_
    refine S_ ?_
    refine c_region ?_
    refine s_val (v_eqlN (a := 8) (b := 16) rfl rfl) rfl ?_
    refine s_val (v_assignC rfl) rfl ?_
    refine s_nil ?_
    have hQ3 : (shaNumber Y2 ((BitVec.ofNat 64 n) <<< 3)).length = ((n + 1) + (120 - (n + 1) % 64) % 64) + 8 := LQ_
    refine S_ ?_
    refine c_region ?_
    refine s_val (v_moveC rfl) rfl ?_
    refine s_val (v_moveC rfl) rfl ?_
    refine s_val (v_shl64n (j := 3) rfl rfl) rfl ?_
    refine s_ev (e_callK (bs := [1]) (shaNumber_ev Y2 ((n + 1) + (120 - (n + 1) % 64) % 64) ((n + 1) + (120 - (n + 1) % 64) % 64) ((BitVec.ofNat 64 n) <<< 3) HYP_ HYP_) ok_101 (by kernel_rfl) rfl rfl VAL_ APP_) rfl ?_
    refine s_val (v_assignC rfl) rfl ?_
    refine s_nil ?_
    refine S_ ?_
    refine c_region ?_
    refine s_val (v_moveC rfl) rfl ?_
    refine s_val (v_assignC rfl) rfl ?_
    refine s_nil ?_
    refine S_ ?_
    rw [hP.out]
    exact k_1 (by first | exact r_tmpC rfl | exact r_tmpA rfl) (by first | kernel_rfl | rfl)
@[simp] theorem shaPad_len (tx : List (BitVec 8)) : (shaPad tx).length = ((tx.length + 1) + (120 - (tx.length + 1) % 64) % 64) + 8 := by
  unfold shaPad
  first | (simp [shaPad_L3_len, *]; done) | (simp [shaPad_L3_len, *]; omega)
attribute [irreducible] shaPad
end Go.Proofs.YtmbepikkgkcgkaaGreatDoor
namespace Go.Proofs.YtmbepikkgkcgkaaGreatDoor
open Go.RowKit
def sha256_L8_S (tx : List (BitVec 8)) (j4 : Nat) (X4 : List (BitVec 32)) (j8 : Nat) : List (BitVec 32) := if j8 < 16 then put X4 j8 ((shaHigh (shaPad tx) ((64 * j4) + (4 * j8)) (((4 * j8) + 4) - (4 * j8))).setWidth 32) else put X4 j8 ((((nth X4 (j8 - 16)) + (((rotl32 (nth X4 (j8 - 15)) (-7)) ^^^ (rotl32 (nth X4 (j8 - 15)) (-18))) ^^^ ((nth X4 (j8 - 15)) >>> 3))) + (nth X4 (j8 - 7))) + (((rotl32 (nth X4 (j8 - 2)) (-17)) ^^^ (rotl32 (nth X4 (j8 - 2)) (-19))) ^^^ ((nth X4 (j8 - 2)) >>> 10)))
def sha256_L8 (tx : List (BitVec 8)) (j4 : Nat) : Nat → List (BitVec 32)
  | 0 => zer32 64
  | j8 + 1 => sha256_L8_S tx j4 (sha256_L8 tx j4 j8) j8
@[simp] theorem sha256_L8_len (tx : List (BitVec 8)) (j4 : Nat) (j8 : Nat) : (sha256_L8 tx j4 j8).length = 64 := by
  induction j8 with
  | zero => first | (simp [sha256_L8, *]; done) | (simp [sha256_L8, *]; omega)
  | succ j8 ih => rw [sha256_L8.eq_2, sha256_L8_S]; first | (simp; done) | (simp; omega) | (simp [*]; done) | (simp [*]; omega) | (split <;> first | (simp [ih]; done) | (simp [ih]; omega) | (simp [*]; done))
def sha256_L19_S (Y5 : List (BitVec 32)) (X6 : List (BitVec 32)) (j19 : Nat) : List (BitVec 32) := [(((((nth X6 7) + (((rotl32 (nth X6 4) (-6)) ^^^ (rotl32 (nth X6 4) (-11))) ^^^ (rotl32 (nth X6 4) (-25)))) + (((nth X6 4) &&& (nth X6 5)) ^^^ ((~~~(nth X6 4)) &&& (nth X6 6)))) + (nth shaK256 j19)) + (nth Y5 j19)) + ((((rotl32 (nth X6 0) (-2)) ^^^ (rotl32 (nth X6 0) (-13))) ^^^ (rotl32 (nth X6 0) (-22))) + ((((nth X6 0) &&& (nth X6 1)) ^^^ ((nth X6 0) &&& (nth X6 2))) ^^^ ((nth X6 1) &&& (nth X6 2)))), nth X6 0, nth X6 1, nth X6 2, (nth X6 3) + (((((nth X6 7) + (((rotl32 (nth X6 4) (-6)) ^^^ (rotl32 (nth X6 4) (-11))) ^^^ (rotl32 (nth X6 4) (-25)))) + (((nth X6 4) &&& (nth X6 5)) ^^^ ((~~~(nth X6 4)) &&& (nth X6 6)))) + (nth shaK256 j19)) + (nth Y5 j19)), nth X6 4, nth X6 5, nth X6 6]
def sha256_L19 (X3 : List (BitVec 32)) (Y5 : List (BitVec 32)) : Nat → List (BitVec 32)
  | 0 => X3
  | j19 + 1 => sha256_L19_S Y5 (sha256_L19 X3 Y5 j19) j19
theorem sha256_L19_len (X3 : List (BitVec 32)) (Y5 : List (BitVec 32)) (hX3 : X3.length = 8) (_hY5 : Y5.length = 64) (j19 : Nat) : (sha256_L19 X3 Y5 j19).length = 8 := by
  induction j19 with
  | zero => first | (simp [sha256_L19, *]; done) | (simp [sha256_L19, *]; omega)
  | succ j19 ih => rw [sha256_L19.eq_2, sha256_L19_S]; first | (simp; done) | (simp [ih]; omega) | (simp [sha256_L8_len, *]; done) | (simp [sha256_L8_len, *]; omega) | (split <;> first | (simp [ih]; done) | (simp [ih]; omega) | (simp [sha256_L8_len, *]; done))
def sha256_L29_S (Y7 : List (BitVec 32)) (X8 : List (BitVec 32)) (j29 : Nat) : List (BitVec 32) := put X8 j29 ((nth X8 j29) + (nth Y7 j29))
def sha256_L29 (X3 : List (BitVec 32)) (Y7 : List (BitVec 32)) : Nat → List (BitVec 32)
  | 0 => X3
  | j29 + 1 => sha256_L29_S Y7 (sha256_L29 X3 Y7 j29) j29
theorem sha256_L29_len (X3 : List (BitVec 32)) (Y7 : List (BitVec 32)) (hX3 : X3.length = 8) (j29 : Nat) : (sha256_L29 X3 Y7 j29).length = 8 := by
  induction j29 with
  | zero => first | (simp [sha256_L29, *]; done) | (simp [sha256_L29, *]; omega)
  | succ j29 ih => rw [sha256_L29.eq_2, sha256_L29_S]; first | (simp [ih]; done) | (simp [ih]; omega) | (simp [sha256_L8_len, sha256_L19_len, *]; done) | (simp [sha256_L8_len, sha256_L19_len, *]; omega) | (split <;> first | (simp [ih]; done) | (simp [ih]; omega) | (simp [sha256_L8_len, sha256_L19_len, *]; done))
def sha256_L4_S (tx : List (BitVec 8)) (X3 : List (BitVec 32)) (j4 : Nat) : List (BitVec 32) := (sha256_L29 X3 (sha256_L19 X3 (sha256_L8 tx j4 64) 64) 8)
def sha256_L4 (tx : List (BitVec 8)) : Nat → List (BitVec 32)
  | 0 => [1779033703#32, 3144134277#32, 1013904242#32, 2773480762#32, 1359893119#32, 2600822924#32, 528734635#32, 1541459225#32]
  | j4 + 1 => sha256_L4_S tx (sha256_L4 tx j4) j4
@[simp] theorem sha256_L4_len (tx : List (BitVec 8)) (j4 : Nat) : (sha256_L4 tx j4).length = 8 := by
  induction j4 with
  | zero => first | (simp [sha256_L4, *]; done) | (simp [sha256_L4, *]; omega)
  | succ j4 ih => rw [sha256_L4.eq_2, sha256_L4_S]; first | (simp [ih]; done) | (simp [ih]; omega) | (simp [sha256_L29_len, *]; done) | (simp [sha256_L8_len, sha256_L19_len, sha256_L29_len, *]; omega) | (split <;> first | (simp [ih]; done) | (simp [ih]; omega) | (simp [sha256_L8_len, sha256_L19_len, sha256_L29_len, *]; done))
def sha256_L35_S (Y11 : List (BitVec 32)) (X12 : List (BitVec 8)) (j35 : Nat) : List (BitVec 8) := put X12 j35 (((nth Y11 (j35 / 4)) >>> (24 - (8 * (j35 % 4)))).setWidth 8)
def sha256_L35 (Y11 : List (BitVec 32)) : Nat → List (BitVec 8)
  | 0 => zer8 32
  | j35 + 1 => sha256_L35_S Y11 (sha256_L35 Y11 j35) j35
@[simp] theorem sha256_L35_len (Y11 : List (BitVec 32)) (j35 : Nat) : (sha256_L35 Y11 j35).length = 32 := by
  induction j35 with
  | zero => first | (simp [sha256_L35, *]; done) | (simp [sha256_L35, *]; omega)
  | succ j35 ih => rw [sha256_L35.eq_2, sha256_L35_S]; first | (simp [ih]; done) | (simp [ih]; omega) | (simp [sha256_L8_len, sha256_L19_len, sha256_L29_len, sha256_L4_len, *]; done) | (simp [sha256_L8_len, sha256_L19_len, sha256_L29_len, sha256_L4_len, *]; omega) | (split <;> first | (simp [ih]; done) | (simp [ih]; omega) | (simp [sha256_L8_len, sha256_L19_len, sha256_L29_len, sha256_L4_len, *]; done))
def sha256 (tx : List (BitVec 8)) : List (BitVec 8) := (sha256_L35 (sha256_L4 tx ((tx.length + 72) / 64)) 32)
set_option maxRecDepth 100000 in
set_option maxHeartbeats 2000000 in
theorem sha256_ev (b : List (BitVec 8)) (o : Nat) (n : Nat) (cap : Nat) (hb : o + n ≤ b.length) (hn : n ≤ 2199023255552) : Ev Tryz.prog (.call 38 [.c (.sl 0 o n cap 1)] [.row false (.a8 (b))]) (.val (.agg (.a8 (sha256 (cut b o n)))) [.row false (.a8 (b))]) := by
  have hP : Hid (sha256 (cut b o n) = (sha256_L35 (sha256_L4 (cut b o n) (((cut b o n).length + 72) / 64)) 32)) := ⟨rfl⟩
  have htx : (cut b o n).length = n := by rw [cut_length]; omega
  try simp only [htx] at hP
  refine c_call Tryz.func38 rfl Tryz.ntmps38 rfl LEN_ ?_
  refine S_ ?_
  refine c_region ?_
  refine s_memN (m_alloc al_37 LEN_) APP_ rfl ?_
  refine s_nil ?_
  refine S_ ?_
  refine c_region ?_
  refine s_val (v_bld32 (l := [1779033703#32, 3144134277#32, 1013904242#32, 2773480762#32, 1359893119#32, 2600822924#32, 528734635#32, 1541459225#32]) zc_107 Tryz.underlying107 sz_106 rfl rfl (by decide)) rfl ?_
  refine s_memN (m_alloc al_107 LEN_) APP_ rfl ?_
  refine s_storeR rfl rfl rfl rfl sz_107 EQ_ EQ_ SET_ ?_
  refine s_nil ?_
  have hQ1 : (shaK256).length = 64 := LQ_
  refine S_ ?_
  refine c_region ?_
  refine s_evN (e_callR (bs := []) (shaK256_ev) ok_60 (by kernel_rfl) (by kernel_rfl) rfl VAL_) APP_ rfl ?_
  refine s_val (v_assignC rfl) rfl ?_
  refine s_nil ?_
  have hQ2 : (shaPad (cut b o n)).length = ((n + 1) + (120 - (n + 1) % 64) % 64) + 8 := LQ_
  refine S_ ?_
  refine c_region ?_
  refine s_val (v_moveC rfl) rfl ?_
  refine s_evN (e_callR (bs := [0]) (shaPad_ev b o n cap HYP_ HYP_) ok_61 (by kernel_rfl) (by kernel_rfl) rfl VAL_) APP_ rfl ?_
  refine s_val (v_assignC rfl) rfl ?_
  refine s_nil ?_
  refine S_ ?_
  refine c_loopC [2, 3, 4, 5] (fun (zz : Nat × List (BitVec 32)) => ⟨201, keepT [2, 3, 4, 5] [.c (.ptr 1 0), .c (.ptr 2 0), .c (.sl 3 0 64 64 1), .c (.sl 4 (64 * zz.1) ((((n + 1) + (120 - (n + 1) % 64) % 64) + 8) - 64 * zz.1) ((((n + 1) + (120 - (n + 1) % 64) % 64) + 8) - 64 * zz.1) 1)], [.row false (.a8 (b)), .row true (.a8 (zer8 32)), .row true (.a32 (zz.2)), .row true (.a32 (shaK256)), .row true (.a8 (shaPad (cut b o n)))]⟩) (fun j4 => (j4, sha256_L4 (cut b o n) j4)) ((n + 72) / 64) (by kernel_rfl) ?_ ?_
  · intro j4 hj4
    try dsimp only
    have hX3 : (sha256_L4 (cut b o n) j4).length = 8 := by rw [sha256_L4_len (cut b o n) _]; try omega
    rw [sha256_L4.eq_2, sha256_L4_S]
    try simp only [htx]
    generalize sha256_L4 (cut b o n) j4 = X3 at *
    refine S_ ?_
    refine c_region ?_
    refine s_val (v_moveC rfl) rfl ?_
    refine s_val (v_lenS rfl Tryz.underlying23) rfl ?_
    refine s_val (v_gtrN (b := 0) rfl rfl) rfl ?_
    refine s_nil ?_
    refine S_ ?_
    refine c_region ?_
    refine s_memN (m_alloc al_111 LEN_) APP_ rfl ?_
    refine s_nil ?_
    refine S_ ?_
    refine c_region ?_
    refine s_val (v_moveC rfl) rfl ?_
    refine s_nil ?_
    refine S_ ?_
    refine c_loopC [2, 3, 4, 5, 6, 32] (fun (zz : Nat × List (BitVec 32)) => ⟨201, keepT [2, 3, 4, 5, 6, 32] [.c (.ptr 1 0), .c (.ptr 2 0), .c (.sl 3 0 64 64 1), .c (.sl 4 (64 * j4) ((((n + 1) + (120 - (n + 1) % 64) % 64) + 8) - 64 * j4) ((((n + 1) + (120 - (n + 1) % 64) % 64) + 8) - 64 * j4) 1), .c (.ptr 5 0), .c (.val (.int .i64 (((zz.1 : Nat) : Int))))], [.row false (.a8 (b)), .row true (.a8 (zer8 32)), .row true (.a32 (X3)), .row true (.a32 (shaK256)), .row true (.a8 (shaPad (cut b o n))), .row true (.a32 (zz.2))]⟩) (fun j8 => (j8, sha256_L8 (cut b o n) j4 j8)) (64) (by kernel_rfl) ?_ ?_
    · intro j8 hj8
      try dsimp only
      have hX4 : (sha256_L8 (cut b o n) j4 j8).length = 64 := by rw [sha256_L8_len (cut b o n) j4 _]; try omega
      rw [sha256_L8.eq_2, sha256_L8_S]
      try simp only [htx]
      generalize sha256_L8 (cut b o n) j4 j8 = X4 at *
      refine S_ ?_
      refine c_region ?_
      refine s_val (v_lssN (b := 64) rfl rfl) rfl ?_
      refine s_nil ?_
      refine S_ ?_
      refine c_region ?_
      refine s_val (v_moveC rfl) rfl ?_
      refine s_val (v_assignC rfl) rfl ?_
      refine s_nil ?_
      refine S_ ?_
      refine c_region ?_
      refine s_val (v_moveC rfl) rfl ?_
      refine s_val (v_lssN (b := 16) rfl rfl) rfl ?_
      refine s_nil ?_
      refine Q_ ?_
      by_cases hc5 : j8 < 16
      · try simp only [if_pos hc5] at *
        refine c_condT rfl (decide_eq_true hc5) ?_
        refine S_ ?_
        refine c_region ?_
        refine s_val (v_moveC rfl) rfl ?_
        refine s_val (v_moveC rfl) rfl ?_
        refine s_val (v_moveC rfl) rfl ?_
        refine s_val (v_mulN (a := 4) rfl rfl (by omega)) rfl ?_
        refine s_val (v_moveC rfl) rfl ?_
        refine s_val (v_mulN (a := 4) rfl rfl (by omega)) rfl ?_
        refine s_val (v_addN (b := 4) rfl rfl (by omega)) rfl ?_
        refine s_val (v_slSo rfl Tryz.underlying23 sz_5 rfl rfl (by omega) (by omega)) rfl ?_
        refine s_evN (e_callR (bs := [4]) (shaHigh_ev (shaPad (cut b o n)) ((64 * j4) + (4 * j8)) (((4 * j8) + 4) - (4 * j8)) (((((n + 1) + (120 - (n + 1) % 64) % 64) + 8) - 64 * j4) - (4 * j8)) HYP_ HYP_) ok_62 (by kernel_rfl) (by kernel_rfl) rfl VAL_) APP_ rfl ?_
        refine s_val (v_conv rfl Tryz.underlying70 Tryz.underlying106 (w64_32 _)) rfl ?_
        refine s_val (v_idxA1 rfl rfl Tryz.underlying111 sz_106 (by omega)) rfl ?_
        refine s_store32 rfl rfl rfl sz_106 LT_ SET_ ?_
        refine s_nil ?_
        refine S_ ?_
        refine c_region ?_
        refine s_val (v_addN (b := 1) rfl rfl (by omega)) rfl ?_
        refine s_val (v_moveC rfl) rfl ?_
        refine s_nil ?_
        exact ⟨(j8 + 1, _), by kernel_rfl, rfl⟩
      · try simp only [if_neg hc5] at *
        refine c_condF rfl (decide_eq_false hc5) ?_
        refine S_ ?_
        refine c_draw 10 mixed (by kernel_rfl) rfl rfl rfl ?_
        refine h_val (v_moveC rfl) rfl ?_
        first
          | refine h_val (v_subN (b := 15) rfl rfl (by omega) (by omega)) rfl ?_
          | refine h_val (v_subI rfl rfl (by omega)) rfl ?_
        refine h_val (v_idxA1 rfl rfl Tryz.underlying111 sz_106 (by omega)) rfl ?_
        refine h_val (v_load32 rfl rfl row_106 LT_) rfl ?_
        refine h_val (v_moveC rfl) rfl ?_
        first
          | refine h_val (v_subN (b := 2) rfl rfl (by omega) (by omega)) rfl ?_
          | refine h_val (v_subI rfl rfl (by omega)) rfl ?_
        refine h_val (v_idxA1 rfl rfl Tryz.underlying111 sz_106 (by omega)) rfl ?_
        refine h_val (v_load32 rfl rfl row_106 LT_) rfl ?_
        refine h_val (v_assignC rfl) rfl ?_
        refine h_val (v_assignC rfl) rfl ?_
        refine h_nil ?_
        refine s_nil ?_
        refine S_ ?_
        refine c_region ?_
        refine s_val (v_moveC rfl) rfl ?_
        refine s_evN (e_callR (bs := []) (rotl32_ev (nth X4 (j8 - 15)) (-7)) ok_63 (by kernel_rfl) (by kernel_rfl) rfl VAL_) APP_ rfl ?_
        refine s_val (v_moveC rfl) rfl ?_
        refine s_evN (e_callR (bs := []) (rotl32_ev (nth X4 (j8 - 15)) (-18)) ok_63 (by kernel_rfl) (by kernel_rfl) rfl VAL_) APP_ rfl ?_
        refine s_val (v_xor32 rfl rfl) rfl ?_
        refine s_val (v_moveC rfl) rfl ?_
        refine s_val (v_shr32n (j := 3) rfl rfl) rfl ?_
        refine s_val (v_xor32 rfl rfl) rfl ?_
        refine s_val (v_assignC rfl) rfl ?_
        refine s_nil ?_
        refine S_ ?_
        refine c_region ?_
        refine s_val (v_moveC rfl) rfl ?_
        refine s_evN (e_callR (bs := []) (rotl32_ev (nth X4 (j8 - 2)) (-17)) ok_63 (by kernel_rfl) (by kernel_rfl) rfl VAL_) APP_ rfl ?_
        refine s_val (v_moveC rfl) rfl ?_
        refine s_evN (e_callR (bs := []) (rotl32_ev (nth X4 (j8 - 2)) (-19)) ok_63 (by kernel_rfl) (by kernel_rfl) rfl VAL_) APP_ rfl ?_
        refine s_val (v_xor32 rfl rfl) rfl ?_
        refine s_val (v_moveC rfl) rfl ?_
        refine s_val (v_shr32n (j := 10) rfl rfl) rfl ?_
        refine s_val (v_xor32 rfl rfl) rfl ?_
        refine s_val (v_assignC rfl) rfl ?_
        refine s_nil ?_
        refine S_ ?_
        refine c_draw 15 mixed (by kernel_rfl) rfl rfl rfl ?_
        refine h_val (v_moveC rfl) rfl ?_
        refine h_val (v_moveC rfl) rfl ?_
        first
          | refine h_val (v_subN (b := 16) rfl rfl (by omega) (by omega)) rfl ?_
          | refine h_val (v_subI rfl rfl (by omega)) rfl ?_
        refine h_val (v_idxA1 rfl rfl Tryz.underlying111 sz_106 (by omega)) rfl ?_
        refine h_val (v_load32 rfl rfl row_106 LT_) rfl ?_
        refine h_val (v_moveC rfl) rfl ?_
        refine h_val (v_add32 rfl rfl) rfl ?_
        refine h_val (v_moveC rfl) rfl ?_
        first
          | refine h_val (v_subN (b := 7) rfl rfl (by omega) (by omega)) rfl ?_
          | refine h_val (v_subI rfl rfl (by omega)) rfl ?_
        refine h_val (v_idxA1 rfl rfl Tryz.underlying111 sz_106 (by omega)) rfl ?_
        refine h_val (v_load32 rfl rfl row_106 LT_) rfl ?_
        refine h_val (v_add32 rfl rfl) rfl ?_
        refine h_val (v_moveC rfl) rfl ?_
        refine h_val (v_add32 rfl rfl) rfl ?_
        refine h_val (v_idxA1 rfl rfl Tryz.underlying111 sz_106 (by omega)) rfl ?_
        refine h_nil ?_
        refine s_store32 rfl rfl rfl sz_106 LT_ SET_ ?_
        refine s_nil ?_
        refine S_ ?_
        refine c_region ?_
        refine s_val (v_addN (b := 1) rfl rfl (by omega)) rfl ?_
        refine s_val (v_moveC rfl) rfl ?_
        refine s_nil ?_
        exact ⟨(j8 + 1, _), by kernel_rfl, rfl⟩
    · try dsimp only
      have hY6 : (sha256_L8 (cut b o n) j4 64).length = 64 := by rw [sha256_L8_len (cut b o n) j4 _]; try omega
      generalize sha256_L8 (cut b o n) j4 64 = Y6 at *
      refine S_ ?_
      refine c_region ?_
      refine s_val (v_lssN (a := 64) (b := 64) rfl rfl) rfl ?_
      refine s_nil ?_
      refine S_ ?_
      refine c_region ?_
      refine s_val (v_loadR rfl rfl row_107 sz_107 EQ_ (by decide)) rfl ?_
      refine s_memN (m_alloc al_107 LEN_) APP_ rfl ?_
      refine s_storeR rfl rfl rfl rfl sz_107 EQ_ EQ_ SET_ ?_
      refine s_nil ?_
      refine S_ ?_
      refine c_region ?_
      refine s_val (v_moveC rfl) rfl ?_
      refine s_nil ?_
      refine S_ ?_
      refine c_loopC [2, 3, 4, 5, 6, 12, 89] (fun (zz : Nat × List (BitVec 32)) => ⟨201, keepT [2, 3, 4, 5, 6, 12, 89] [.c (.ptr 1 0), .c (.ptr 2 0), .c (.sl 3 0 64 64 1), .c (.sl 4 (64 * j4) ((((n + 1) + (120 - (n + 1) % 64) % 64) + 8) - 64 * j4) ((((n + 1) + (120 - (n + 1) % 64) % 64) + 8) - 64 * j4) 1), .c (.ptr 5 0), .c (.ptr 6 0), .c (.val (.int .i64 (((zz.1 : Nat) : Int))))], [.row false (.a8 (b)), .row true (.a8 (zer8 32)), .row true (.a32 (X3)), .row true (.a32 (shaK256)), .row true (.a8 (shaPad (cut b o n))), .row true (.a32 (Y6)), .row true (.a32 (zz.2))]⟩) (fun j19 => (j19, sha256_L19 X3 Y6 j19)) (64) (by kernel_rfl) ?_ ?_
      · intro j19 hj19
        try dsimp only
        have hX7 : (sha256_L19 X3 Y6 j19).length = 8 := by rw [sha256_L19_len X3 Y6 hX3 hY6 _]; try omega
        rw [sha256_L19.eq_2, sha256_L19_S]
        try simp only [htx]
        generalize sha256_L19 X3 Y6 j19 = X7 at *
        refine S_ ?_
        refine c_region ?_
        refine s_val (v_lssN (b := 64) rfl rfl) rfl ?_
        refine s_nil ?_
        refine S_ ?_
        refine c_region ?_
        refine s_val (v_moveC rfl) rfl ?_
        refine s_val (v_assignC rfl) rfl ?_
        refine s_nil ?_
        refine S_ ?_
        refine c_draw 6 mixed (by kernel_rfl) rfl rfl rfl ?_
        refine h_val (v_idxA1 (j := 4) rfl rfl Tryz.underlying107 sz_106 (by omega)) rfl ?_
        refine h_val (v_load32 rfl rfl row_106 LT_) rfl ?_
        refine h_val (v_idxA1 (j := 0) rfl rfl Tryz.underlying107 sz_106 (by omega)) rfl ?_
        refine h_val (v_load32 rfl rfl row_106 LT_) rfl ?_
        refine h_val (v_assignC rfl) rfl ?_
        refine h_val (v_assignC rfl) rfl ?_
        refine h_nil ?_
        refine s_nil ?_
        refine S_ ?_
        refine c_region ?_
        refine s_val (v_moveC rfl) rfl ?_
        refine s_evN (e_callR (bs := []) (rotl32_ev (nth X7 4) (-6)) ok_63 (by kernel_rfl) (by kernel_rfl) rfl VAL_) APP_ rfl ?_
        refine s_val (v_moveC rfl) rfl ?_
        refine s_evN (e_callR (bs := []) (rotl32_ev (nth X7 4) (-11)) ok_63 (by kernel_rfl) (by kernel_rfl) rfl VAL_) APP_ rfl ?_
        refine s_val (v_xor32 rfl rfl) rfl ?_
        refine s_val (v_moveC rfl) rfl ?_
        refine s_evN (e_callR (bs := []) (rotl32_ev (nth X7 4) (-25)) ok_63 (by kernel_rfl) (by kernel_rfl) rfl VAL_) APP_ rfl ?_
        refine s_val (v_xor32 rfl rfl) rfl ?_
        refine s_val (v_assignC rfl) rfl ?_
        refine s_nil ?_
        refine S_ ?_
        refine c_draw 25 mixed (by kernel_rfl) rfl rfl rfl ?_
        refine h_val (v_idxA1 (j := 7) rfl rfl Tryz.underlying107 sz_106 (by omega)) rfl ?_
        refine h_val (v_load32 rfl rfl row_106 LT_) rfl ?_
        refine h_val (v_moveC rfl) rfl ?_
        refine h_val (v_add32 rfl rfl) rfl ?_
        refine h_val (v_moveC rfl) rfl ?_
        refine h_val (v_idxA1 (j := 5) rfl rfl Tryz.underlying107 sz_106 (by omega)) rfl ?_
        refine h_val (v_load32 rfl rfl row_106 LT_) rfl ?_
        refine h_val (v_and32 rfl rfl) rfl ?_
        refine h_val (v_moveC rfl) rfl ?_
        refine h_val (v_unxor32 rfl) rfl ?_
        refine h_val (v_idxA1 (j := 6) rfl rfl Tryz.underlying107 sz_106 (by omega)) rfl ?_
        refine h_val (v_load32 rfl rfl row_106 LT_) rfl ?_
        refine h_val (v_and32 rfl rfl) rfl ?_
        refine h_val (v_xor32 rfl rfl) rfl ?_
        refine h_val (v_add32 rfl rfl) rfl ?_
        refine h_val (v_moveC rfl) rfl ?_
        refine h_val (v_moveC rfl) rfl ?_
        refine h_val (v_idxS1 rfl rfl Tryz.underlying108 sz_106 (by omega)) rfl ?_
        refine h_val (v_load32 rfl rfl row_106 LT_) rfl ?_
        refine h_val (v_add32 rfl rfl) rfl ?_
        refine h_val (v_moveC rfl) rfl ?_
        refine h_val (v_idxA1 rfl rfl Tryz.underlying111 sz_106 (by omega)) rfl ?_
        refine h_val (v_load32 rfl rfl row_106 LT_) rfl ?_
        refine h_val (v_add32 rfl rfl) rfl ?_
        refine h_val (v_assignC rfl) rfl ?_
        refine h_nil ?_
        refine s_nil ?_
        refine S_ ?_
        refine c_region ?_
        refine s_val (v_moveC rfl) rfl ?_
        refine s_evN (e_callR (bs := []) (rotl32_ev (nth X7 0) (-2)) ok_63 (by kernel_rfl) (by kernel_rfl) rfl VAL_) APP_ rfl ?_
        refine s_val (v_moveC rfl) rfl ?_
        refine s_evN (e_callR (bs := []) (rotl32_ev (nth X7 0) (-13)) ok_63 (by kernel_rfl) (by kernel_rfl) rfl VAL_) APP_ rfl ?_
        refine s_val (v_xor32 rfl rfl) rfl ?_
        refine s_val (v_moveC rfl) rfl ?_
        refine s_evN (e_callR (bs := []) (rotl32_ev (nth X7 0) (-22)) ok_63 (by kernel_rfl) (by kernel_rfl) rfl VAL_) APP_ rfl ?_
        refine s_val (v_xor32 rfl rfl) rfl ?_
        refine s_val (v_assignC rfl) rfl ?_
        refine s_nil ?_
        refine S_ ?_
        refine c_region ?_
        refine s_val (v_moveC rfl) rfl ?_
        refine s_val (v_moveC rfl) rfl ?_
        refine s_val (v_idxA1 (j := 1) rfl rfl Tryz.underlying107 sz_106 (by omega)) rfl ?_
        refine s_val (v_load32 rfl rfl row_106 LT_) rfl ?_
        refine s_val (v_and32 rfl rfl) rfl ?_
        refine s_val (v_moveC rfl) rfl ?_
        refine s_val (v_idxA1 (j := 2) rfl rfl Tryz.underlying107 sz_106 (by omega)) rfl ?_
        refine s_val (v_load32 rfl rfl row_106 LT_) rfl ?_
        refine s_val (v_and32 rfl rfl) rfl ?_
        refine s_val (v_xor32 rfl rfl) rfl ?_
        refine s_val (v_idxA1 (j := 1) rfl rfl Tryz.underlying107 sz_106 (by omega)) rfl ?_
        refine s_val (v_load32 rfl rfl row_106 LT_) rfl ?_
        refine s_val (v_idxA1 (j := 2) rfl rfl Tryz.underlying107 sz_106 (by omega)) rfl ?_
        refine s_val (v_load32 rfl rfl row_106 LT_) rfl ?_
        refine s_val (v_and32 rfl rfl) rfl ?_
        refine s_val (v_xor32 rfl rfl) rfl ?_
        refine s_val (v_add32 rfl rfl) rfl ?_
        refine s_val (v_assignC rfl) rfl ?_
        refine s_nil ?_
        refine S_ ?_
        refine c_region ?_
        refine s_val (v_moveC rfl) rfl ?_
        refine s_val (v_moveC rfl) rfl ?_
        refine s_val (v_add32 rfl rfl) rfl ?_
        refine s_val (v_moveC rfl) rfl ?_
        refine s_val (v_idxA1 (j := 1) rfl rfl Tryz.underlying107 sz_106 (by omega)) rfl ?_
        refine s_val (v_load32 rfl rfl row_106 LT_) rfl ?_
        refine s_val (v_idxA1 (j := 2) rfl rfl Tryz.underlying107 sz_106 (by omega)) rfl ?_
        refine s_val (v_load32 rfl rfl row_106 LT_) rfl ?_
        refine s_val (v_idxA1 (j := 3) rfl rfl Tryz.underlying107 sz_106 (by omega)) rfl ?_
        refine s_val (v_load32 rfl rfl row_106 LT_) rfl ?_
        refine s_val (v_moveC rfl) rfl ?_
        refine s_val (v_add32 rfl rfl) rfl ?_
        refine s_val (v_moveC rfl) rfl ?_
        refine s_val (v_idxA1 (j := 5) rfl rfl Tryz.underlying107 sz_106 (by omega)) rfl ?_
        refine s_val (v_load32 rfl rfl row_106 LT_) rfl ?_
        refine s_val (v_idxA1 (j := 6) rfl rfl Tryz.underlying107 sz_106 (by omega)) rfl ?_
        refine s_val (v_load32 rfl rfl row_106 LT_) rfl ?_
        refine s_val (v_bld32 (l := [_, _, _, _, _, _, _, _]) zc_107 Tryz.underlying107 sz_106 rfl rfl (by decide)) rfl ?_
        refine s_storeR rfl rfl rfl rfl sz_107 EQ_ EQ_ SET_ ?_
        refine s_nil ?_
        refine S_ ?_
        refine c_region ?_
        refine s_val (v_addN (b := 1) rfl rfl (by omega)) rfl ?_
        refine s_val (v_moveC rfl) rfl ?_
        refine s_nil ?_
        exact ⟨(j19 + 1, _), by kernel_rfl, rfl⟩
      · try dsimp only
        have hY8 : (sha256_L19 X3 Y6 64).length = 8 := by rw [sha256_L19_len X3 Y6 hX3 hY6 _]; try omega
        generalize sha256_L19 X3 Y6 64 = Y8 at *
        refine S_ ?_
        refine c_region ?_
        refine s_val (v_lssN (a := 64) (b := 64) rfl rfl) rfl ?_
        refine s_nil ?_
        refine S_ ?_
        refine c_region ?_
        refine s_val (v_moveC rfl) rfl ?_
        refine s_nil ?_
        refine S_ ?_
        refine c_loopC [2, 3, 4, 5, 12, 172] (fun (zz : Nat × List (BitVec 32)) => ⟨201, keepT [2, 3, 4, 5, 12, 172] [.c (.ptr 1 0), .c (.ptr 2 0), .c (.sl 3 0 64 64 1), .c (.sl 4 (64 * j4) ((((n + 1) + (120 - (n + 1) % 64) % 64) + 8) - 64 * j4) ((((n + 1) + (120 - (n + 1) % 64) % 64) + 8) - 64 * j4) 1), .c (.ptr 5 0), .c (.val (.int .i64 (((zz.1 : Nat) : Int))))], [.row false (.a8 (b)), .row true (.a8 (zer8 32)), .row true (.a32 (zz.2)), .row true (.a32 (shaK256)), .row true (.a8 (shaPad (cut b o n))), .row true (.a32 (Y8))]⟩) (fun j29 => (j29, sha256_L29 X3 Y8 j29)) (8) (by kernel_rfl) ?_ ?_
        · intro j29 hj29
          try dsimp only
          have hX9 : (sha256_L29 X3 Y8 j29).length = 8 := by rw [sha256_L29_len X3 Y8 hX3 _]; try omega
          rw [sha256_L29.eq_2, sha256_L29_S]
          try simp only [htx]
          generalize sha256_L29 X3 Y8 j29 = X9 at *
          refine S_ ?_
          refine c_region ?_
          refine s_val (v_lssN (b := 8) rfl rfl) rfl ?_
          refine s_nil ?_
          refine S_ ?_
          refine c_region ?_
          refine s_val (v_moveC rfl) rfl ?_
          refine s_val (v_assignC rfl) rfl ?_
          refine s_nil ?_
          refine S_ ?_
          refine c_draw 8 mixed (by kernel_rfl) rfl rfl rfl ?_
          refine h_val (v_moveC rfl) rfl ?_
          refine h_val (v_idxA1 rfl rfl Tryz.underlying107 sz_106 (by omega)) rfl ?_
          refine h_val (v_load32 rfl rfl row_106 LT_) rfl ?_
          refine h_val (v_moveC rfl) rfl ?_
          refine h_val (v_idxA1 rfl rfl Tryz.underlying107 sz_106 (by omega)) rfl ?_
          refine h_val (v_load32 rfl rfl row_106 LT_) rfl ?_
          refine h_val (v_add32 rfl rfl) rfl ?_
          refine h_val (v_idxA1 rfl rfl Tryz.underlying107 sz_106 (by omega)) rfl ?_
          refine h_nil ?_
          refine s_store32 rfl rfl rfl sz_106 LT_ SET_ ?_
          refine s_nil ?_
          refine S_ ?_
          refine c_region ?_
          refine s_val (v_addN (b := 1) rfl rfl (by omega)) rfl ?_
          refine s_val (v_moveC rfl) rfl ?_
          refine s_nil ?_
          exact ⟨(j29 + 1, _), by kernel_rfl, rfl⟩
        · try dsimp only
          have hY10 : (sha256_L29 X3 Y8 8).length = 8 := by rw [sha256_L29_len X3 Y8 hX3 _]; try omega
          generalize sha256_L29 X3 Y8 8 = Y10 at *
          refine S_ ?_
          refine c_region ?_
          refine s_val (v_lssN (a := 8) (b := 8) rfl rfl) rfl ?_
          refine s_nil ?_
          refine S_ ?_
          refine c_region ?_
          refine s_val (v_moveC rfl) rfl ?_
          refine s_val (v_slSo (l := 64) rfl Tryz.underlying23 sz_5 rfl rfl (by omega) (by omega)) rfl ?_
          refine s_val (v_assignC rfl) rfl ?_
          refine s_nil ?_
          exact ⟨(j4 + 1, _), by kernel_rfl, rfl⟩
  · try dsimp only
    have hY11 : (sha256_L4 (cut b o n) ((n + 72) / 64)).length = 8 := by rw [sha256_L4_len (cut b o n) _]; try omega
    generalize sha256_L4 (cut b o n) ((n + 72) / 64) = Y11 at *
    refine S_ ?_
    refine c_region ?_
    refine s_val (v_moveC rfl) rfl ?_
    refine s_val (v_lenS rfl Tryz.underlying23) rfl ?_
    refine s_val (v_gtrN (b := 0) rfl rfl) rfl ?_
    refine s_nil ?_
    refine S_ ?_
    refine c_region ?_
    refine s_memN (m_alloc al_37 LEN_) APP_ rfl ?_
    refine s_nil ?_
    refine S_ ?_
    refine c_region ?_
    refine s_val (v_moveC rfl) rfl ?_
    refine s_nil ?_
    refine S_ ?_
    refine c_loopC [2, 3, 21, 184] (fun (zz : Nat × List (BitVec 8)) => ⟨201, keepT [2, 3, 21, 184] [.c (.ptr 1 0), .c (.ptr 2 0), .c (.ptr 3 0), .c (.val (.int .i64 (((zz.1 : Nat) : Int))))], [.row false (.a8 (b)), .row true (.a8 (zer8 32)), .row true (.a32 (Y11)), .row true (.a8 (zz.2))]⟩) (fun j35 => (j35, sha256_L35 Y11 j35)) (32) (by kernel_rfl) ?_ ?_
    · intro j35 hj35
      try dsimp only
      have hX12 : (sha256_L35 Y11 j35).length = 32 := by rw [sha256_L35_len Y11 _]; try omega
      rw [sha256_L35.eq_2, sha256_L35_S]
      try simp only [htx]
      generalize sha256_L35 Y11 j35 = X12 at *
      refine S_ ?_
      refine c_region ?_
      refine s_val (v_lssN (b := 32) rfl rfl) rfl ?_
      refine s_nil ?_
      refine S_ ?_
      refine c_region ?_
      refine s_val (v_moveC rfl) rfl ?_
      refine s_val (v_assignC rfl) rfl ?_
      refine s_nil ?_
      refine S_ ?_
      refine c_region ?_
      refine s_val (v_moveC rfl) rfl ?_
      refine s_val (v_moveC rfl) rfl ?_
      refine s_val (v_quoN (b := 4) rfl rfl (by omega) (by omega)) rfl ?_
      refine s_val (v_idxA1 rfl rfl Tryz.underlying107 sz_106 (by omega)) rfl ?_
      refine s_val (v_load32 rfl rfl row_106 LT_) rfl ?_
      refine s_val (v_moveC rfl) rfl ?_
      refine s_val (v_remN (b := 4) rfl rfl (by omega) (by omega)) rfl ?_
      refine s_val (v_mulN (a := 8) rfl rfl (by omega)) rfl ?_
      first
        | refine s_val (v_subN (a := 24) rfl rfl (by omega) (by omega)) rfl ?_
        | refine s_val (v_subI rfl rfl (by omega)) rfl ?_
      refine s_val (v_shr32n rfl rfl) rfl ?_
      refine s_val (v_conv rfl Tryz.underlying106 Tryz.underlying5 (w32_8 _)) rfl ?_
      refine s_val (v_idxA1 rfl rfl Tryz.underlying37 sz_5 (by omega)) rfl ?_
      refine s_store8 rfl rfl rfl sz_5 LT_ SET_ ?_
      refine s_nil ?_
      refine S_ ?_
      refine c_region ?_
      refine s_val (v_addN (b := 1) rfl rfl (by omega)) rfl ?_
      refine s_val (v_moveC rfl) rfl ?_
      refine s_nil ?_
      exact ⟨(j35 + 1, _), by kernel_rfl, rfl⟩
    · try dsimp only
      have hY13 : (sha256_L35 Y11 32).length = 32 := by rw [sha256_L35_len Y11 _]; try omega
      generalize sha256_L35 Y11 32 = Y13 at *
      refine S_ ?_
      refine c_region ?_
      refine s_val (v_lssN (a := 32) (b := 32) rfl rfl) rfl ?_
      refine s_nil ?_
      refine S_ ?_
      refine c_region ?_
      refine s_val (v_loadR rfl rfl row_37 sz_37 EQ_ (by decide)) rfl ?_
      refine s_storeR rfl rfl rfl rfl sz_37 EQ_ EQ_ SET_ ?_
      refine s_nil ?_
      refine S_ ?_
      rw [hP.out]
      exact k_1 (r_row rfl rfl row_37 sz_37 EQ_ (by decide)) (by first | kernel_rfl | rfl)
theorem sha256_evS (b : List (BitVec 8)) (n : Nat) (cap : Nat) (hb : b.length = n) (hn : n ≤ 2199023255552) : Ev Tryz.prog (.call 38 [.c (.sl 0 0 n cap 1)] [.row false (.a8 (b))]) (.val (.agg (.a8 (sha256 b))) [.row false (.a8 (b))]) := by
  have h_ := sha256_ev b 0 n cap (by omega) hn
  rw [cut_all hb] at h_
  exact h_
@[simp] theorem sha256_len (tx : List (BitVec 8)) : (sha256 tx).length = 32 := by
  unfold sha256
  first | (simp [sha256_L35_len, *]; done) | (simp [sha256_L8_len, sha256_L19_len, sha256_L29_len, sha256_L4_len, sha256_L35_len, *]; omega)
attribute [irreducible] sha256
end Go.Proofs.YtmbepikkgkcgkaaGreatDoor
namespace Go.Proofs.YtmbepikkgkcgkaaGreatDoor
open Go.RowKit
def rfPad_L3_S (X1 : List (BitVec 8)) : List (BitVec 8) := X1 ++ [0#8]
def rfPad_L3 (tx : List (BitVec 8)) : Nat → List (BitVec 8)
  | 0 => tx ++ [128#8]
  | j3 + 1 => rfPad_L3_S (rfPad_L3 tx j3)
@[simp] theorem rfPad_L3_len (tx : List (BitVec 8)) (j3 : Nat) : (rfPad_L3 tx j3).length = (tx.length + 1) + j3 := by
  induction j3 with
  | zero => first | (simp [rfPad_L3, *]; done) | (simp [rfPad_L3, *]; omega)
  | succ j3 ih => rw [rfPad_L3.eq_2, rfPad_L3_S]; first | (simp [ih]; done) | (simp [ih]; omega) | (simp [*]; done) | (simp [*]; omega) | (split <;> first | (simp [ih]; done) | (simp [ih]; omega) | (simp [*]; done))
def rfPad_L7_S (tx : List (BitVec 8)) (X3 : List (BitVec 8)) (j7 : Nat) : List (BitVec 8) := (if 8 ≤ 7 - j7 then X3 ++ [0#8] else X3 ++ [(((BitVec.ofNat 64 tx.length) * 8#64) >>> (8#64 * (BitVec.ofNat 64 (7 - j7))).toNat).setWidth 8])
def rfPad_L7 (tx : List (BitVec 8)) (Y2 : List (BitVec 8)) : Nat → List (BitVec 8)
  | 0 => Y2
  | j7 + 1 => rfPad_L7_S tx (rfPad_L7 tx Y2 j7) j7
@[simp] theorem rfPad_L7_len (tx : List (BitVec 8)) (Y2 : List (BitVec 8)) (j7 : Nat) : (rfPad_L7 tx Y2 j7).length = Y2.length + j7 := by
  induction j7 with
  | zero => first | (simp [rfPad_L7, *]; done) | (simp [rfPad_L7, *]; omega)
  | succ j7 ih => rw [rfPad_L7.eq_2, rfPad_L7_S]; first | (simp; done) | (simp; omega) | (simp [*]; done) | (simp [*]; omega) | (split <;> first | (simp [ih]; done) | (simp [ih]; omega) | (simp [rfPad_L3_len, *]; done))
def rfPad (tx : List (BitVec 8)) : List (BitVec 8) := (rfPad_L7 tx (rfPad_L3 tx ((120 - (tx.length + 1) % 64) % 64)) 8)
@[simp] theorem rfPad_len (tx : List (BitVec 8)) : (rfPad tx).length = ((tx.length + 1) + (120 - (tx.length + 1) % 64) % 64) + 8 := by
  unfold rfPad
  first | (simp [rfPad_L3_len, rfPad_L7_len, *]; done) | (simp [rfPad_L3_len, rfPad_L7_len, *]; omega)
attribute [irreducible] rfPad
end Go.Proofs.YtmbepikkgkcgkaaGreatDoor
namespace Go.Proofs.YtmbepikkgkcgkaaGreatDoor
open Go.RowKit
def rfK256  : List (BitVec 32) := [1116352408#32, 1899447441#32, 3049323471#32, 3921009573#32, 961987163#32, 1508970993#32, 2453635748#32, 2870763221#32, 3624381080#32, 310598401#32, 607225278#32, 1426881987#32, 1925078388#32, 2162078206#32, 2614888103#32, 3248222580#32, 3835390401#32, 4022224774#32, 264347078#32, 604807628#32, 770255983#32, 1249150122#32, 1555081692#32, 1996064986#32, 2554220882#32, 2821834349#32, 2952996808#32, 3210313671#32, 3336571891#32, 3584528711#32, 113926993#32, 338241895#32, 666307205#32, 773529912#32, 1294757372#32, 1396182291#32, 1695183700#32, 1986661051#32, 2177026350#32, 2456956037#32, 2730485921#32, 2820302411#32, 3259730800#32, 3345764771#32, 3516065817#32, 3600352804#32, 4094571909#32, 275423344#32, 430227734#32, 506948616#32, 659060556#32, 883997877#32, 958139571#32, 1322822218#32, 1537002063#32, 1747873779#32, 1955562222#32, 2024104815#32, 2227730452#32, 2361852424#32, 2428436474#32, 2756734187#32, 3204031479#32, 3329325298#32]
@[simp] theorem rfK256_len  : (rfK256).length = 64 := by
  unfold rfK256
  first | (simp [*]; done) | (simp [*]; omega)
attribute [irreducible] rfK256
def rfK512  : List (BitVec 64) := [4794697086780616226#64, 8158064640168781261#64, 13096744586834688815#64, 16840607885511220156#64, 4131703408338449720#64, 6480981068601479193#64, 10538285296894168987#64, 12329834152419229976#64, 15566598209576043074#64, 1334009975649890238#64, 2608012711638119052#64, 6128411473006802146#64, 8268148722764581231#64, 9286055187155687089#64, 11230858885718282805#64, 13951009754708518548#64, 16472876342353939154#64, 17275323862435702243#64, 1135362057144423861#64, 2597628984639134821#64, 3308224258029322869#64, 5365058923640841347#64, 6679025012923562964#64, 8573033837759648693#64, 10970295158949994411#64, 12119686244451234320#64, 12683024718118986047#64, 13788192230050041572#64, 14330467153632333762#64, 15395433587784984357#64, 489312712824947311#64, 1452737877330783856#64, 2861767655752347644#64, 3322285676063803686#64, 5560940570517711597#64, 5996557281743188959#64, 7280758554555802590#64, 8532644243296465576#64, 9350256976987008742#64, 10552545826968843579#64, 11727347734174303076#64, 12113106623233404929#64, 14000437183269869457#64, 14369950271660146224#64, 15101387698204529176#64, 15463397548674623760#64, 17586052441742319658#64, 1182934255886127544#64, 1847814050463011016#64, 2177327727835720531#64, 2830643537854262169#64, 3796741975233480872#64, 4115178125766777443#64, 5681478168544905931#64, 6601373596472566643#64, 7507060721942968483#64, 8399075790359081724#64, 8693463985226723168#64, 9568029438360202098#64, 10144078919501101548#64, 10430055236837252648#64, 11840083180663258601#64, 13761210420658862357#64, 14299343276471374635#64, 14566680578165727644#64, 15097957966210449927#64, 16922976911328602910#64, 17689382322260857208#64, 500013540394364858#64, 748580250866718886#64, 1242879168328830382#64, 1977374033974150939#64, 2944078676154940804#64, 3659926193048069267#64, 4368137639120453308#64, 4836135668995329356#64, 5532061633213252278#64, 6448918945643986474#64, 6902733635092675308#64, 7801388544844847127#64]
@[simp] theorem rfK512_len  : (rfK512).length = 80 := by
  unfold rfK512
  first | (simp [*]; done) | (simp [*]; omega)
attribute [irreducible] rfK512
def rfRot32 (x : BitVec 32) (n : Nat) : BitVec 32 := rotl32 x (-((n : Nat) : Int))
attribute [irreducible] rfRot32
def rfRot64 (x : BitVec 64) (n : Nat) : BitVec 64 := rotl64 x (-((n : Nat) : Int))
attribute [irreducible] rfRot64
end Go.Proofs.YtmbepikkgkcgkaaGreatDoor
