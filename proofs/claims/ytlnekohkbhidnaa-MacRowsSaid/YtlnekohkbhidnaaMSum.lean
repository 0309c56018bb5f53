/- mac.Sum, mac.Sum (Drawn up by a program.) -/
import Derived.Test.YtlnekohkbhidnaaSSame
namespace Go.Proofs.Ytlnekohkbhidnaa
open Go.RowKit
def macSumS_L8_S (X3 : List (BitVec 8)) (X4 : List (BitVec 8)) (j8 : Nat) : List (BitVec 8) × List (BitVec 8) := (put X3 j8 ((nth X3 j8) ^^^ 54#8), put X4 j8 ((nth X4 j8) ^^^ 92#8))
def macSumS_L8 (key : List (BitVec 8)) : Nat → List (BitVec 8) × List (BitVec 8)
  | 0 => (over (zer8 64) 0 (cut key 0 (min key.length 64)), over (zer8 64) 0 (cut key 0 (min key.length 64)))
  | j8 + 1 => macSumS_L8_S (macSumS_L8 key j8).1 (macSumS_L8 key j8).2 j8
@[simp] theorem macSumS_L8_len0 (key : List (BitVec 8)) (j8 : Nat) : (macSumS_L8 key j8).1.length = 64 := by
  induction j8 with
  | zero => first | (simp [macSumS_L8, *]; done) | (simp [macSumS_L8, *]; omega)
  | succ j8 ih => rw [macSumS_L8.eq_2, macSumS_L8_S]; first | (simp [ih]; done) | (simp [ih]; omega) | (simp [*]; done) | (split <;> first | (simp [ih]; done) | (simp [ih]; omega) | (simp [*]; done))
@[simp] theorem macSumS_L8_len1 (key : List (BitVec 8)) (j8 : Nat) : (macSumS_L8 key j8).2.length = 64 := by
  induction j8 with
  | zero => first | (simp [macSumS_L8, *]; done) | (simp [macSumS_L8, *]; omega)
  | succ j8 ih => rw [macSumS_L8.eq_2, macSumS_L8_S]; first | (simp [ih]; done) | (simp [ih]; omega) | (simp [*]; done) | (split <;> first | (simp [ih]; done) | (simp [ih]; omega) | (simp [*]; done))
def macSumS (key : List (BitVec 8)) (b : List (BitVec 8)) : List (BitVec 8) := sha256 (((macSumS_L8 key 64).2) ++ (sha256 (((macSumS_L8 key 64).1) ++ b)))
set_option maxRecDepth 100000 in
set_option maxHeartbeats 2000000 in
theorem macSumS_ev (key : List (BitVec 8)) (kn : Nat) (kcap : Nat) (b : List (BitVec 8)) (n : Nat) (cap : Nat) (hkey : key.length = kn) (hkn : kn ≤ 1099511627776) (hb : b.length = n) (hn : n ≤ 1099511627776) (hshort : kn ≤ 64) : Ev Try.prog (.call 8 [.c (.sl 0 0 kn kcap 1), .c (.sl 1 0 n cap 1)] [.row false (.a8 (key)), .row false (.a8 (b))]) (.val (.agg (.a8 (macSumS key b))) [.row false (.a8 (key)), .row false (.a8 (b))]) := by
  have hP : Hid (macSumS key b = sha256 (((macSumS_L8 key 64).2) ++ (sha256 (((macSumS_L8 key 64).1) ++ b)))) := ⟨rfl⟩
  subst hkey
  subst hb
  refine c_call Try.func8 rfl Try.ntmps8 rfl LEN_ ?_
  refine S_ ?_
  refine c_region ?_
  refine s_memN (m_alloc al_23 LEN_) APP_ rfl ?_
  refine s_nil ?_
  refine S_ ?_
  refine c_region ?_
  refine s_val (v_moveC rfl) rfl ?_
  refine s_val (v_lenS rfl Try.underlying22) rfl ?_
  refine s_val (v_gtrN (b := 64) rfl rfl) rfl ?_
  refine s_nil ?_
  refine Q_ ?_
  refine c_condF rfl (decide_eq_false (by omega)) ?_
  refine S_ ?_
  refine c_draw 4 mixed (by kernel_rfl) rfl rfl rfl ?_
  refine h_memN (m_make8 (a := 64) (b := 64) Try.underlying22 rfl rfl el_5 rep_5 (by omega) (by omega) (by omega) LEN_) APP_ rfl ?_
  refine h_memN (m_make8 (a := 64) (b := 64) Try.underlying22 rfl rfl el_5 rep_5 (by omega) (by omega) (by omega) LEN_) APP_ rfl ?_
  refine h_val (v_assignC rfl) rfl ?_
  refine h_val (v_assignC rfl) rfl ?_
  refine h_nil ?_
  refine s_nil ?_
  refine S_ ?_
  refine c_region ?_
  refine s_val (v_moveC rfl) rfl ?_
  refine s_val (v_moveC rfl) rfl ?_
  refine s_copy8 rfl rfl rfl rfl Try.underlying22 sz_5 LE_ LE_ MN_ SET_ rfl ?_
  refine s_nil ?_
  have hQ1 : (over (zer8 64) 0 (cut key 0 (min key.length 64))).length = 64 := LQ_
  refine S_ ?_
  refine c_region ?_
  refine s_val (v_moveC rfl) rfl ?_
  refine s_val (v_moveC rfl) rfl ?_
  refine s_copy8 rfl rfl rfl rfl Try.underlying22 sz_5 LE_ LE_ MN_ SET_ rfl ?_
  refine s_nil ?_
  have hQ2 : (over (zer8 64) 0 (cut key 0 (min key.length 64))).length = 64 := LQ_
  refine S_ ?_
  refine c_region ?_
  refine s_val (v_moveC rfl) rfl ?_
  refine s_val (v_lenS rfl Try.underlying22) rfl ?_
  refine s_val (v_moveC rfl) rfl ?_
  refine s_nil ?_
  refine S_ ?_
  refine c_loopC [1, 4, 6, 7, 25, 26] (fun (zz : Nat × List (BitVec 8) × List (BitVec 8)) => ⟨50, keepT [1, 4, 6, 7, 25, 26] [.c (.sl 1 0 b.length cap 1), .c (.ptr 2 0), .c (.sl 3 0 64 64 1), .c (.sl 4 0 64 64 1), .c (.val (.int .i64 (((64 : Nat) : Int)))), .c (.val (.int .i64 (((zz.1 : Nat) : Int))))], [.row false (.a8 (key)), .row false (.a8 (b)), .row true (.a8 (zer8 32)), .row true (.a8 (zz.2.1)), .row true (.a8 (zz.2.2))]⟩) (fun j8 => (j8, macSumS_L8 key j8)) (64) (by kernel_rfl) ?_ ?_
  · intro j8 hj8
    try dsimp only
    have hX3 : (macSumS_L8 key j8).1.length = 64 := by rw [macSumS_L8_len0 key _]; try omega
    have hX4 : (macSumS_L8 key j8).2.length = 64 := by rw [macSumS_L8_len1 key _]; try omega
    rw [macSumS_L8.eq_2, macSumS_L8_S]
    generalize macSumS_L8 key j8 = Z5 at *
    obtain ⟨X3, X4⟩ := Z5
    try dsimp only at *
    refine S_ ?_
    refine c_region ?_
    refine s_val (v_lssN (b := 64) rfl rfl) rfl ?_
    refine s_nil ?_
    refine S_ ?_
    refine c_region ?_
    refine s_val (v_moveC rfl) rfl ?_
    refine s_val (v_assignC rfl) rfl ?_
    refine s_nil ?_
    refine S_ ?_
    refine c_region ?_
    refine s_val (v_moveC rfl) rfl ?_
    refine s_val (v_moveC rfl) rfl ?_
    refine s_val (v_idxS1 rfl rfl Try.underlying22 sz_5 (by omega)) rfl ?_
    refine s_val (v_load8 rfl rfl row_5 LT_) rfl ?_
    refine s_val (v_xor8 (b := 54#8) rfl rfl) rfl ?_
    refine s_val (v_idxS1 rfl rfl Try.underlying22 sz_5 (by omega)) rfl ?_
    refine s_store8 rfl rfl rfl sz_5 LT_ SET_ ?_
    refine s_nil ?_
    refine S_ ?_
    refine c_region ?_
    refine s_val (v_moveC rfl) rfl ?_
    refine s_val (v_moveC rfl) rfl ?_
    refine s_val (v_idxS1 rfl rfl Try.underlying22 sz_5 (by omega)) rfl ?_
    refine s_val (v_load8 rfl rfl row_5 LT_) rfl ?_
    refine s_val (v_xor8 (b := 92#8) rfl rfl) rfl ?_
    refine s_val (v_idxS1 rfl rfl Try.underlying22 sz_5 (by omega)) rfl ?_
    refine s_store8 rfl rfl rfl sz_5 LT_ SET_ ?_
    refine s_nil ?_
    refine S_ ?_
    refine c_region ?_
    refine s_val (v_addN (b := 1) rfl rfl (by omega)) rfl ?_
    refine s_val (v_moveC rfl) rfl ?_
    refine s_nil ?_
    exact ⟨(j8 + 1, _), by kernel_rfl, rfl⟩
  · try dsimp only
    have hY6 : (macSumS_L8 key 64).1.length = 64 := by rw [macSumS_L8_len0 key _]; try omega
    have hY7 : (macSumS_L8 key 64).2.length = 64 := by rw [macSumS_L8_len1 key _]; try omega
    generalize macSumS_L8 key 64 = Z8 at *
    obtain ⟨Y6, Y7⟩ := Z8
    try dsimp only at *
    refine S_ ?_
    refine c_region ?_
    refine s_val (v_lssN (a := 64) (b := 64) rfl rfl) rfl ?_
    refine s_nil ?_
    refine S_ ?_
    refine c_region ?_
    refine s_val (v_moveC rfl) rfl ?_
    refine s_val (v_moveC rfl) rfl ?_
    refine s_app8 rfl rfl rfl rfl Try.underlying22 Try.underlying22 el_5 EQL_ EQL_ (by omega) LEN_ KILL_ rfl ?_
    refine s_evN (e_callR (bs := [5]) (sha256_evS (Y6 ++ b) (64 + b.length) (64 + b.length) HYP_ HYP_) ok_9 (by kernel_rfl) (by kernel_rfl) rfl VAL_) APP_ rfl ?_
    refine s_memN (m_alloc al_23 LEN_) APP_ rfl ?_
    refine s_storeR rfl rfl rfl rfl sz_23 EQ_ EQ_ SET_ ?_
    refine s_nil ?_
    have hQ9 : (sha256 (Y6 ++ b)).length = 32 := LQ_
    refine S_ ?_
    refine c_region ?_
    refine s_val (v_moveC rfl) rfl ?_
    refine s_val (v_slA1 (l := 0) (h := 32) (len := 32) (cp := 32) rfl Try.underlying23 sz_5 rfl rfl rfl (by omega) (by omega) FIT_ rfl rfl) rfl ?_
    refine s_app8 rfl rfl rfl rfl Try.underlying22 Try.underlying22 el_5 EQL_ EQL_ (by omega) LEN_ KILL_ rfl ?_
    refine s_evN (e_callR (bs := [7]) (sha256_evS (Y7 ++ (sha256 (Y6 ++ b))) 96 96 HYP_ HYP_) ok_9 (by kernel_rfl) (by kernel_rfl) rfl VAL_) APP_ rfl ?_
    refine s_storeR rfl rfl rfl rfl sz_23 EQ_ EQ_ SET_ ?_
    refine s_nil ?_
    have hQ10 : (sha256 (Y7 ++ (sha256 (Y6 ++ b)))).length = 32 := LQ_
    refine S_ ?_
    rw [hP.out]
    exact k_1 (r_row rfl rfl row_23 sz_23 EQ_ (by decide)) (by first | kernel_rfl | rfl)

@[simp] theorem macSumS_len (key : List (BitVec 8)) (b : List (BitVec 8)) : (macSumS key b).length = 32 := by
  unfold macSumS
  first | (simp [macSumS_L8_len0, macSumS_L8_len1, *]; done) | (simp [macSumS_L8_len0, macSumS_L8_len1, *]; omega)

attribute [irreducible] macSumS

def macSumL_L8_S (X4 : List (BitVec 8)) (X5 : List (BitVec 8)) (j8 : Nat) : List (BitVec 8) × List (BitVec 8) := (put X4 j8 ((nth X4 j8) ^^^ 54#8), put X5 j8 ((nth X5 j8) ^^^ 92#8))
def macSumL_L8 (key : List (BitVec 8)) : Nat → List (BitVec 8) × List (BitVec 8)
  | 0 => (over (zer8 64) 0 (sha256 key), over (zer8 64) 0 (sha256 key))
  | j8 + 1 => macSumL_L8_S (macSumL_L8 key j8).1 (macSumL_L8 key j8).2 j8
@[simp] theorem macSumL_L8_len0 (key : List (BitVec 8)) (j8 : Nat) : (macSumL_L8 key j8).1.length = 64 := by
  induction j8 with
  | zero => first | (simp [macSumL_L8, *]; done) | (simp [macSumL_L8, *]; omega)
  | succ j8 ih => rw [macSumL_L8.eq_2, macSumL_L8_S]; first | (simp [ih]; done) | (simp [ih]; omega) | (simp [*]; done) | (split <;> first | (simp [ih]; done) | (simp [ih]; omega) | (simp [*]; done))
@[simp] theorem macSumL_L8_len1 (key : List (BitVec 8)) (j8 : Nat) : (macSumL_L8 key j8).2.length = 64 := by
  induction j8 with
  | zero => first | (simp [macSumL_L8, *]; done) | (simp [macSumL_L8, *]; omega)
  | succ j8 ih => rw [macSumL_L8.eq_2, macSumL_L8_S]; first | (simp [ih]; done) | (simp [ih]; omega) | (simp [*]; done) | (split <;> first | (simp [ih]; done) | (simp [ih]; omega) | (simp [*]; done))
def macSumL (key : List (BitVec 8)) (b : List (BitVec 8)) : List (BitVec 8) := sha256 (((macSumL_L8 key 64).2) ++ (sha256 (((macSumL_L8 key 64).1) ++ b)))
set_option maxRecDepth 100000 in
set_option maxHeartbeats 2000000 in
theorem macSumL_ev (key : List (BitVec 8)) (kn : Nat) (kcap : Nat) (b : List (BitVec 8)) (n : Nat) (cap : Nat) (hkey : key.length = kn) (hkn : kn ≤ 1099511627776) (hb : b.length = n) (hn : n ≤ 1099511627776) (hlong : 64 < kn) : Ev Try.prog (.call 8 [.c (.sl 0 0 kn kcap 1), .c (.sl 1 0 n cap 1)] [.row false (.a8 (key)), .row false (.a8 (b))]) (.val (.agg (.a8 (macSumL key b))) [.row false (.a8 (key)), .row false (.a8 (b))]) := by
  have hP : Hid (macSumL key b = sha256 (((macSumL_L8 key 64).2) ++ (sha256 (((macSumL_L8 key 64).1) ++ b)))) := ⟨rfl⟩
  subst hkey
  subst hb
  refine c_call Try.func8 rfl Try.ntmps8 rfl LEN_ ?_
  refine S_ ?_
  refine c_region ?_
  refine s_memN (m_alloc al_23 LEN_) APP_ rfl ?_
  refine s_nil ?_
  refine S_ ?_
  refine c_region ?_
  refine s_val (v_moveC rfl) rfl ?_
  refine s_val (v_lenS rfl Try.underlying22) rfl ?_
  refine s_val (v_gtrN (b := 64) rfl rfl) rfl ?_
  refine s_nil ?_
  refine Q_ ?_
  refine c_condT rfl (decide_eq_true (by omega)) ?_
  refine S_ ?_
  refine c_region ?_
  refine s_val (v_moveC rfl) rfl ?_
  refine s_evN (e_callR (bs := [0]) (sha256_evS key key.length kcap HYP_ HYP_) ok_9 (by kernel_rfl) (by kernel_rfl) rfl VAL_) APP_ rfl ?_
  refine s_memN (m_alloc al_23 LEN_) APP_ rfl ?_
  refine s_storeR rfl rfl rfl rfl sz_23 EQ_ EQ_ SET_ ?_
  refine s_nil ?_
  have hQ1 : (sha256 key).length = 32 := LQ_
  refine S_ ?_
  refine c_region ?_
  refine s_val (v_slA1 (l := 0) (h := 32) (len := 32) (cp := 32) rfl Try.underlying23 sz_5 rfl rfl rfl (by omega) (by omega) FIT_ rfl rfl) rfl ?_
  refine s_val (v_assignC rfl) rfl ?_
  refine s_nil ?_
  refine S_ ?_
  refine c_draw 4 mixed (by kernel_rfl) rfl rfl rfl ?_
  refine h_memN (m_make8 (a := 64) (b := 64) Try.underlying22 rfl rfl el_5 rep_5 (by omega) (by omega) (by omega) LEN_) APP_ rfl ?_
  refine h_memN (m_make8 (a := 64) (b := 64) Try.underlying22 rfl rfl el_5 rep_5 (by omega) (by omega) (by omega) LEN_) APP_ rfl ?_
  refine h_val (v_assignC rfl) rfl ?_
  refine h_val (v_assignC rfl) rfl ?_
  refine h_nil ?_
  refine s_nil ?_
  refine S_ ?_
  refine c_region ?_
  refine s_val (v_moveC rfl) rfl ?_
  refine s_val (v_moveC rfl) rfl ?_
  refine s_copy8a rfl rfl rfl rfl Try.underlying22 sz_5 LE_ EQL_ MN_ rfl SET_ rfl ?_
  refine s_nil ?_
  have hQ2 : (over (zer8 64) 0 (sha256 key)).length = 64 := LQ_
  refine S_ ?_
  refine c_region ?_
  refine s_val (v_moveC rfl) rfl ?_
  refine s_val (v_moveC rfl) rfl ?_
  refine s_copy8a rfl rfl rfl rfl Try.underlying22 sz_5 LE_ EQL_ MN_ rfl SET_ rfl ?_
  refine s_nil ?_
  have hQ3 : (over (zer8 64) 0 (sha256 key)).length = 64 := LQ_
  refine S_ ?_
  refine c_region ?_
  refine s_val (v_moveC rfl) rfl ?_
  refine s_val (v_lenS rfl Try.underlying22) rfl ?_
  refine s_val (v_moveC rfl) rfl ?_
  refine s_nil ?_
  refine S_ ?_
  refine c_loopC [1, 4, 6, 7, 25, 26] (fun (zz : Nat × List (BitVec 8) × List (BitVec 8)) => ⟨50, keepT [1, 4, 6, 7, 25, 26] [.c (.sl 1 0 b.length cap 1), .c (.ptr 2 0), .c (.sl 3 0 64 64 1), .c (.sl 4 0 64 64 1), .c (.val (.int .i64 (((64 : Nat) : Int)))), .c (.val (.int .i64 (((zz.1 : Nat) : Int))))], [.row false (.a8 (key)), .row false (.a8 (b)), .row true (.a8 (zer8 32)), .row true (.a8 (zz.2.1)), .row true (.a8 (zz.2.2))]⟩) (fun j8 => (j8, macSumL_L8 key j8)) (64) (by kernel_rfl) ?_ ?_
  · intro j8 hj8
    try dsimp only
    have hX4 : (macSumL_L8 key j8).1.length = 64 := by rw [macSumL_L8_len0 key _]; try omega
    have hX5 : (macSumL_L8 key j8).2.length = 64 := by rw [macSumL_L8_len1 key _]; try omega
    rw [macSumL_L8.eq_2, macSumL_L8_S]
    generalize macSumL_L8 key j8 = Z6 at *
    obtain ⟨X4, X5⟩ := Z6
    try dsimp only at *
    refine S_ ?_
    refine c_region ?_
    refine s_val (v_lssN (b := 64) rfl rfl) rfl ?_
    refine s_nil ?_
    refine S_ ?_
    refine c_region ?_
    refine s_val (v_moveC rfl) rfl ?_
    refine s_val (v_assignC rfl) rfl ?_
    refine s_nil ?_
    refine S_ ?_
    refine c_region ?_
    refine s_val (v_moveC rfl) rfl ?_
    refine s_val (v_moveC rfl) rfl ?_
    refine s_val (v_idxS1 rfl rfl Try.underlying22 sz_5 (by omega)) rfl ?_
    refine s_val (v_load8 rfl rfl row_5 LT_) rfl ?_
    refine s_val (v_xor8 (b := 54#8) rfl rfl) rfl ?_
    refine s_val (v_idxS1 rfl rfl Try.underlying22 sz_5 (by omega)) rfl ?_
    refine s_store8 rfl rfl rfl sz_5 LT_ SET_ ?_
    refine s_nil ?_
    refine S_ ?_
    refine c_region ?_
    refine s_val (v_moveC rfl) rfl ?_
    refine s_val (v_moveC rfl) rfl ?_
    refine s_val (v_idxS1 rfl rfl Try.underlying22 sz_5 (by omega)) rfl ?_
    refine s_val (v_load8 rfl rfl row_5 LT_) rfl ?_
    refine s_val (v_xor8 (b := 92#8) rfl rfl) rfl ?_
    refine s_val (v_idxS1 rfl rfl Try.underlying22 sz_5 (by omega)) rfl ?_
    refine s_store8 rfl rfl rfl sz_5 LT_ SET_ ?_
    refine s_nil ?_
    refine S_ ?_
    refine c_region ?_
    refine s_val (v_addN (b := 1) rfl rfl (by omega)) rfl ?_
    refine s_val (v_moveC rfl) rfl ?_
    refine s_nil ?_
    exact ⟨(j8 + 1, _), by kernel_rfl, rfl⟩
  · try dsimp only
    have hY7 : (macSumL_L8 key 64).1.length = 64 := by rw [macSumL_L8_len0 key _]; try omega
    have hY8 : (macSumL_L8 key 64).2.length = 64 := by rw [macSumL_L8_len1 key _]; try omega
    generalize macSumL_L8 key 64 = Z9 at *
    obtain ⟨Y7, Y8⟩ := Z9
    try dsimp only at *
    refine S_ ?_
    refine c_region ?_
    refine s_val (v_lssN (a := 64) (b := 64) rfl rfl) rfl ?_
    refine s_nil ?_
    refine S_ ?_
    refine c_region ?_
    refine s_val (v_moveC rfl) rfl ?_
    refine s_val (v_moveC rfl) rfl ?_
    refine s_app8 rfl rfl rfl rfl Try.underlying22 Try.underlying22 el_5 EQL_ EQL_ (by omega) LEN_ KILL_ rfl ?_
    refine s_evN (e_callR (bs := [5]) (sha256_evS (Y7 ++ b) (64 + b.length) (64 + b.length) HYP_ HYP_) ok_9 (by kernel_rfl) (by kernel_rfl) rfl VAL_) APP_ rfl ?_
    refine s_memN (m_alloc al_23 LEN_) APP_ rfl ?_
    refine s_storeR rfl rfl rfl rfl sz_23 EQ_ EQ_ SET_ ?_
    refine s_nil ?_
    have hQ10 : (sha256 (Y7 ++ b)).length = 32 := LQ_
    refine S_ ?_
    refine c_region ?_
    refine s_val (v_moveC rfl) rfl ?_
    refine s_val (v_slA1 (l := 0) (h := 32) (len := 32) (cp := 32) rfl Try.underlying23 sz_5 rfl rfl rfl (by omega) (by omega) FIT_ rfl rfl) rfl ?_
    refine s_app8 rfl rfl rfl rfl Try.underlying22 Try.underlying22 el_5 EQL_ EQL_ (by omega) LEN_ KILL_ rfl ?_
    refine s_evN (e_callR (bs := [7]) (sha256_evS (Y8 ++ (sha256 (Y7 ++ b))) 96 96 HYP_ HYP_) ok_9 (by kernel_rfl) (by kernel_rfl) rfl VAL_) APP_ rfl ?_
    refine s_storeR rfl rfl rfl rfl sz_23 EQ_ EQ_ SET_ ?_
    refine s_nil ?_
    have hQ11 : (sha256 (Y8 ++ (sha256 (Y7 ++ b)))).length = 32 := LQ_
    refine S_ ?_
    rw [hP.out]
    exact k_1 (r_row rfl rfl row_23 sz_23 EQ_ (by decide)) (by first | kernel_rfl | rfl)

@[simp] theorem macSumL_len (key : List (BitVec 8)) (b : List (BitVec 8)) : (macSumL key b).length = 32 := by
  unfold macSumL
  first | (simp [macSumL_L8_len0, macSumL_L8_len1, *]; done) | (simp [macSumL_L8_len0, macSumL_L8_len1, *]; omega)

attribute [irreducible] macSumL
def macSum (key b : List (BitVec 8)) : List (BitVec 8) := if 64 < key.length then macSumL key b else macSumS key b
@[simp] theorem macSum_len (key b : List (BitVec 8)) : (macSum key b).length = 32 := by unfold macSum; split <;> simp
theorem macSum_ev (key : List (BitVec 8)) (kn kcap : Nat) (b : List (BitVec 8)) (n cap : Nat) (hkey : key.length = kn) (hkn : kn ≤ 1099511627776) (hb : b.length = n) (hn : n ≤ 1099511627776) : Ev Try.prog (.call 8 [.c (.sl 0 0 kn kcap 1), .c (.sl 1 0 n cap 1)] [.row false (.a8 key), .row false (.a8 b)]) (.val (.agg (.a8 (macSum key b))) [.row false (.a8 key), .row false (.a8 b)]) := by
  unfold macSum
  by_cases h : 64 < key.length
  · rw [if_pos h]; exact macSumL_ev key kn kcap b n cap hkey hkn hb hn (by omega)
  · rw [if_neg h]; exact macSumS_ev key kn kcap b n cap hkey hkn hb hn (by omega)
theorem macSumN_ev (b : List (BitVec 8)) (n cap : Nat) (hb : b.length = n) (hn : n ≤ 1099511627776) : Ev Try.prog (.call 8 [.c .nsl, .c (.sl 0 0 n cap 1)] [.row false (.a8 b)]) (.val (.agg (.a8 (macSum [] b))) [.row false (.a8 b)]) :=
  Ev.view (m' := [.row false (.a8 []), .row false (.a8 b)]) (N := []) (v := .agg (.a8 (macSum [] b))) (viewOf [none, some 0]) (fun j i h => by
    obtain ⟨h1, h2⟩ := viewOf_some h
    match j, h1 with
    | 0, _ => cases h2
    | 1, _ => cases h2; exact ⟨by simp, _, _, rfl, rfl, rfl⟩) (.c .nil (.c (.sl rfl) .nil)) (macSum_ev [] 0 0 b n cap rfl (by decide) hb hn)
attribute [irreducible] macSum
end Go.Proofs.Ytlnekohkbhidnaa
