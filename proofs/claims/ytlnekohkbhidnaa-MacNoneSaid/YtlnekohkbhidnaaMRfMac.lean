/- trystref01.Mac, trystref01.Mac (Drawn up by a program.) -/
import Derived.Test.YtlnekohkbhidnaaSSame
import Derived.Test.YtlnekohkbhidnaaMJoin
namespace Go.Proofs.Ytlnekohkbhidnaa
open Go.RowKit
def rfMacS_L6_S (key : List (BitVec 8)) (X1 : List (BitVec 8)) (X2 : List (BitVec 8)) (j6 : Nat) : List (BitVec 8) × List (BitVec 8) := (put X1 j6 ((if j6 < key.length then nth key j6 else 0#8) ^^^ 54#8), put X2 j6 ((if j6 < key.length then nth key j6 else 0#8) ^^^ 92#8))
def rfMacS_L6 (key : List (BitVec 8)) : Nat → List (BitVec 8) × List (BitVec 8)
  | 0 => (zer8 64, zer8 64)
  | j6 + 1 => rfMacS_L6_S key (rfMacS_L6 key j6).1 (rfMacS_L6 key j6).2 j6
@[simp] theorem rfMacS_L6_len0 (key : List (BitVec 8)) (j6 : Nat) : (rfMacS_L6 key j6).1.length = 64 := by
  induction j6 with
  | zero => first | (simp [rfMacS_L6, *]; done) | (simp [rfMacS_L6, *]; omega)
  | succ j6 ih => rw [rfMacS_L6.eq_2, rfMacS_L6_S]; first | (simp [ih]; done) | (simp [ih]; omega) | (simp [*]; done) | (split <;> first | (simp [ih]; done) | (simp [ih]; omega) | (simp [*]; done))
@[simp] theorem rfMacS_L6_len1 (key : List (BitVec 8)) (j6 : Nat) : (rfMacS_L6 key j6).2.length = 64 := by
  induction j6 with
  | zero => first | (simp [rfMacS_L6, *]; done) | (simp [rfMacS_L6, *]; omega)
  | succ j6 ih => rw [rfMacS_L6.eq_2, rfMacS_L6_S]; first | (simp [ih]; done) | (simp [ih]; omega) | (simp [*]; done) | (split <;> first | (simp [ih]; done) | (simp [ih]; omega) | (simp [*]; done))
def rfMacS (key : List (BitVec 8)) (b : List (BitVec 8)) : List (BitVec 8) := rf256 (((rfMacS_L6 key 64).2) ++ (rf256 (((rfMacS_L6 key 64).1) ++ b)))
set_option maxRecDepth 100000 in
set_option maxHeartbeats 2000000 in
theorem rfMacS_ev (key : List (BitVec 8)) (kn : Nat) (kcap : Nat) (b : List (BitVec 8)) (n : Nat) (cap : Nat) (hkey : key.length = kn) (hkn : kn ≤ 1099511627776) (hb : b.length = n) (hn : n ≤ 1099511627776) (hshort : kn ≤ 64) : Ev Try.prog (.call 14 [.c (.sl 0 0 kn kcap 1), .c (.sl 1 0 n cap 1)] [.row false (.a8 (key)), .row false (.a8 (b))]) (.val (.agg (.a8 (rfMacS key b))) [.row false (.a8 (key)), .row false (.a8 (b))]) := by
  have hP : Hid (rfMacS key b = rf256 (((rfMacS_L6 key 64).2) ++ (rf256 (((rfMacS_L6 key 64).1) ++ b)))) := ⟨rfl⟩
  subst hkey
  subst hb
  refine c_call Try.func14 rfl Try.ntmps14 rfl LEN_ ?_
  refine S_ ?_
  refine c_region ?_
  refine s_memN (m_alloc al_23 LEN_) APP_ rfl ?_
  refine s_nil ?_
  refine S_ ?_
  refine c_region ?_
  refine s_memN (m_alloc al_46 LEN_) APP_ rfl ?_
  refine s_memN (m_alloc al_46 LEN_) APP_ rfl ?_
  refine s_nil ?_
  refine S_ ?_
  refine c_region ?_
  refine s_val (v_moveC rfl) rfl ?_
  refine s_val (v_lenS rfl Try.underlying22) rfl ?_
  refine s_val (v_gtrN (b := 64) rfl rfl) rfl ?_
  refine s_nil ?_
  refine Q_ ?_
  refine c_condF rfl (decide_eq_false (by omega)) ?_
  refine S_ ?_
  refine c_region ?_
  refine s_val (v_assignC rfl) rfl ?_
  refine s_nil ?_
  refine S_ ?_
  refine c_loopC [0, 1, 4, 5, 6, 8] (fun (zz : Nat × List (BitVec 8) × List (BitVec 8)) => ⟨47, keepT [0, 1, 4, 5, 6, 8] [.c (.sl 0 0 key.length kcap 1), .c (.sl 1 0 b.length cap 1), .c (.ptr 2 0), .c (.ptr 3 0), .c (.ptr 4 0), .c (.val (.int .i64 (((zz.1 : Nat) : Int))))], [.row false (.a8 (key)), .row false (.a8 (b)), .row true (.a8 (zer8 32)), .row true (.a8 (zz.2.1)), .row true (.a8 (zz.2.2))]⟩) (fun j6 => (j6, rfMacS_L6 key j6)) (64) (by kernel_rfl) ?_ ?_
  · intro j6 hj6
    try dsimp only
    have hX1 : (rfMacS_L6 key j6).1.length = 64 := by rw [rfMacS_L6_len0 key _]; try omega
    have hX2 : (rfMacS_L6 key j6).2.length = 64 := by rw [rfMacS_L6_len1 key _]; try omega
    rw [rfMacS_L6.eq_2, rfMacS_L6_S]
    generalize rfMacS_L6 key j6 = Z3 at *
    obtain ⟨X1, X2⟩ := Z3
    try dsimp only at *
    refine S_ ?_
    refine c_region ?_
    refine s_val (v_moveC rfl) rfl ?_
    refine s_val (v_lssN (b := 64) rfl rfl) rfl ?_
    refine s_nil ?_
    refine S_ ?_
    refine c_region ?_
    refine s_val (v_assignC rfl) rfl ?_
    refine s_nil ?_
    refine S_ ?_
    refine c_region ?_
    refine s_val (v_moveC rfl) rfl ?_
    refine s_val (v_moveC rfl) rfl ?_
    refine s_val (v_lenS rfl Try.underlying22) rfl ?_
    refine s_val (v_lssN rfl rfl) rfl ?_
    refine s_nil ?_
    refine Q_ ?_
    refine c_join [0, 1, 4, 5, 6, 8, 9] (fun (zz : BitVec 8) => ⟨47, keepT [0, 1, 4, 5, 6, 8, 9] [.c (.sl 0 0 key.length kcap 1), .c (.sl 1 0 b.length cap 1), .c (.ptr 2 0), .c (.ptr 3 0), .c (.ptr 4 0), .c (.val (.int .i64 (((j6 : Nat) : Int)))), .c (.val (U8 (zz)))], [.row false (.a8 (key)), .row false (.a8 (b)), .row true (.a8 (zer8 32)), .row true (.a8 (X1)), .row true (.a8 (X2))]⟩) (if j6 < key.length then nth key j6 else 0#8) rfl (fun hb => ?_) (fun hb => ?_) ?_
    · -- the test is True
      have hb_ := of_decide_eq_true hb
      refine S_ ?_
      refine c_region ?_
      refine s_val (v_moveC rfl) rfl ?_
      refine s_val (v_moveC rfl) rfl ?_
      refine s_val (v_idxS1 rfl rfl Try.underlying22 sz_5 (by omega)) rfl ?_
      refine s_val (v_load8 rfl rfl row_5 LT_) rfl ?_
      refine s_val (v_assignC rfl) rfl ?_
      refine s_nil ?_
      refine S_ ?_
      refine ⟨(nth key j6), by kernel_rfl, ?_⟩
      rw [if_pos (of_decide_eq_true hb)]
    · -- the test is False
      have hb_ := of_decide_eq_false hb
      refine S_ ?_
      refine ⟨0#8, by kernel_rfl, ?_⟩
      rw [if_neg (of_decide_eq_false hb)]
    generalize (if j6 < key.length then nth key j6 else 0#8) = J4 at *
    refine S_ ?_
    refine c_region ?_
    refine s_val (v_moveC rfl) rfl ?_
    refine s_val (v_moveC rfl) rfl ?_
    refine s_val (v_moveC rfl) rfl ?_
    refine s_val (v_xor8 (b := 54#8) rfl rfl) rfl ?_
    refine s_val (v_moveC rfl) rfl ?_
    refine s_val (v_xor8 (b := 92#8) rfl rfl) rfl ?_
    refine s_val (v_idxA1 rfl rfl Try.underlying46 sz_5 (by omega)) rfl ?_
    refine s_store8 rfl rfl rfl sz_5 LT_ SET_ ?_
    refine s_val (v_idxA1 rfl rfl Try.underlying46 sz_5 (by omega)) rfl ?_
    refine s_store8 rfl rfl rfl sz_5 LT_ SET_ ?_
    refine s_nil ?_
    refine S_ ?_
    refine c_region ?_
    refine s_val (v_moveC rfl) rfl ?_
    refine s_val (v_addN (b := 1) rfl rfl (by omega)) rfl ?_
    refine s_val (v_assignC rfl) rfl ?_
    refine s_nil ?_
    exact ⟨(j6 + 1, _), by kernel_rfl, rfl⟩
  · try dsimp only
    have hY5 : (rfMacS_L6 key 64).1.length = 64 := by rw [rfMacS_L6_len0 key _]; try omega
    have hY6 : (rfMacS_L6 key 64).2.length = 64 := by rw [rfMacS_L6_len1 key _]; try omega
    generalize rfMacS_L6 key 64 = Z7 at *
    obtain ⟨Y5, Y6⟩ := Z7
    try dsimp only at *
    refine S_ ?_
    refine c_region ?_
    refine s_val (v_moveC rfl) rfl ?_
    refine s_val (v_lssN (a := 64) (b := 64) rfl rfl) rfl ?_
    refine s_nil ?_
    refine S_ ?_
    refine c_region ?_
    refine s_val (v_slA1 (l := 0) (h := 64) (len := 64) (cp := 64) rfl Try.underlying46 sz_5 rfl rfl rfl (by omega) (by omega) FIT_ rfl rfl) rfl ?_
    refine s_val (v_moveC rfl) rfl ?_
    refine s_memN (m_bsc Try.underlying50 el_22 (rep_22 _) rfl CS_ (by decide) (by decide) LEN_) APP_ rfl ?_
    refine s_evN (e_callR (bs := [5,3,1]) (rfJoin2_ev Y5 64 64 b b.length cap HYP_ HYP_ HYP_ HYP_) ok_22 (by kernel_rfl) (by kernel_rfl) rfl VAL_) APP_ rfl ?_
    refine s_evN (e_callR (bs := [6]) (rf256_evS (Y5 ++ b) (64 + b.length) (64 + b.length) HYP_ HYP_) ok_21 (by kernel_rfl) (by kernel_rfl) rfl VAL_) APP_ rfl ?_
    refine s_memN (m_alloc al_23 LEN_) APP_ rfl ?_
    refine s_storeR rfl rfl rfl rfl sz_23 EQ_ EQ_ SET_ ?_
    refine s_nil ?_
    have hQ8 : (Y5 ++ b).length = 64 + b.length := LQ_
    have hQ9 : (rf256 (Y5 ++ b)).length = 32 := LQ_
    refine S_ ?_
    refine c_draw 5 mixed (by kernel_rfl) rfl rfl rfl ?_
    refine h_val (v_slA1 (l := 0) (h := 64) (len := 64) (cp := 64) rfl Try.underlying46 sz_5 rfl rfl rfl (by omega) (by omega) FIT_ rfl rfl) rfl ?_
    refine h_val (v_slA1 (l := 0) (h := 32) (len := 32) (cp := 32) rfl Try.underlying23 sz_5 rfl rfl rfl (by omega) (by omega) FIT_ rfl rfl) rfl ?_
    refine h_memN (m_bsc Try.underlying50 el_22 (rep_22 _) rfl CS_ (by decide) (by decide) LEN_) APP_ rfl ?_
    refine h_evN (e_callR (bs := [8,4,7]) (rfJoin2_ev Y6 64 64 (rf256 (Y5 ++ b)) 32 32 HYP_ HYP_ HYP_ HYP_) ok_22 (by kernel_rfl) (by kernel_rfl) rfl VAL_) APP_ rfl ?_
    refine h_evN (e_callR (bs := [9]) (rf256_evS (Y6 ++ (rf256 (Y5 ++ b))) (64 + 32) (64 + 32) HYP_ HYP_) ok_21 (by kernel_rfl) (by kernel_rfl) rfl VAL_) APP_ rfl ?_
    refine h_nil ?_
    refine s_storeR rfl rfl rfl rfl sz_23 EQ_ EQ_ SET_ ?_
    refine s_nil ?_
    have hQ10 : (Y6 ++ (rf256 (Y5 ++ b))).length = 64 + 32 := LQ_
    have hQ11 : (rf256 (Y6 ++ (rf256 (Y5 ++ b)))).length = 32 := LQ_
    refine S_ ?_
    rw [hP.out]
    exact k_1 (r_row rfl rfl row_23 sz_23 EQ_ (by decide)) (by first | kernel_rfl | rfl)

@[simp] theorem rfMacS_len (key : List (BitVec 8)) (b : List (BitVec 8)) : (rfMacS key b).length = 32 := by
  unfold rfMacS
  first | (simp [rfMacS_L6_len0, rfMacS_L6_len1, *]; done) | (simp [rfMacS_L6_len0, rfMacS_L6_len1, *]; omega)

attribute [irreducible] rfMacS

def rfMacL_L6_S (key : List (BitVec 8)) (X2 : List (BitVec 8)) (X3 : List (BitVec 8)) (j6 : Nat) : List (BitVec 8) × List (BitVec 8) := (put X2 j6 ((if j6 < 32 then nth (rf256 key) j6 else 0#8) ^^^ 54#8), put X3 j6 ((if j6 < 32 then nth (rf256 key) j6 else 0#8) ^^^ 92#8))
def rfMacL_L6 (key : List (BitVec 8)) : Nat → List (BitVec 8) × List (BitVec 8)
  | 0 => (zer8 64, zer8 64)
  | j6 + 1 => rfMacL_L6_S key (rfMacL_L6 key j6).1 (rfMacL_L6 key j6).2 j6
@[simp] theorem rfMacL_L6_len0 (key : List (BitVec 8)) (j6 : Nat) : (rfMacL_L6 key j6).1.length = 64 := by
  induction j6 with
  | zero => first | (simp [rfMacL_L6, *]; done) | (simp [rfMacL_L6, *]; omega)
  | succ j6 ih => rw [rfMacL_L6.eq_2, rfMacL_L6_S]; first | (simp [ih]; done) | (simp [ih]; omega) | (simp [*]; done) | (split <;> first | (simp [ih]; done) | (simp [ih]; omega) | (simp [*]; done))
@[simp] theorem rfMacL_L6_len1 (key : List (BitVec 8)) (j6 : Nat) : (rfMacL_L6 key j6).2.length = 64 := by
  induction j6 with
  | zero => first | (simp [rfMacL_L6, *]; done) | (simp [rfMacL_L6, *]; omega)
  | succ j6 ih => rw [rfMacL_L6.eq_2, rfMacL_L6_S]; first | (simp [ih]; done) | (simp [ih]; omega) | (simp [*]; done) | (split <;> first | (simp [ih]; done) | (simp [ih]; omega) | (simp [*]; done))
def rfMacL (key : List (BitVec 8)) (b : List (BitVec 8)) : List (BitVec 8) := rf256 (((rfMacL_L6 key 64).2) ++ (rf256 (((rfMacL_L6 key 64).1) ++ b)))
set_option maxRecDepth 100000 in
set_option maxHeartbeats 2000000 in
theorem rfMacL_ev (key : List (BitVec 8)) (kn : Nat) (kcap : Nat) (b : List (BitVec 8)) (n : Nat) (cap : Nat) (hkey : key.length = kn) (hkn : kn ≤ 1099511627776) (hb : b.length = n) (hn : n ≤ 1099511627776) (hlong : 64 < kn) : Ev Try.prog (.call 14 [.c (.sl 0 0 kn kcap 1), .c (.sl 1 0 n cap 1)] [.row false (.a8 (key)), .row false (.a8 (b))]) (.val (.agg (.a8 (rfMacL key b))) [.row false (.a8 (key)), .row false (.a8 (b))]) := by
  have hP : Hid (rfMacL key b = rf256 (((rfMacL_L6 key 64).2) ++ (rf256 (((rfMacL_L6 key 64).1) ++ b)))) := ⟨rfl⟩
  subst hkey
  subst hb
  refine c_call Try.func14 rfl Try.ntmps14 rfl LEN_ ?_
  refine S_ ?_
  refine c_region ?_
  refine s_memN (m_alloc al_23 LEN_) APP_ rfl ?_
  refine s_nil ?_
  refine S_ ?_
  refine c_region ?_
  refine s_memN (m_alloc al_46 LEN_) APP_ rfl ?_
  refine s_memN (m_alloc al_46 LEN_) APP_ rfl ?_
  refine s_nil ?_
  refine S_ ?_
  refine c_region ?_
  refine s_val (v_moveC rfl) rfl ?_
  refine s_val (v_lenS rfl Try.underlying22) rfl ?_
  refine s_val (v_gtrN (b := 64) rfl rfl) rfl ?_
  refine s_nil ?_
  refine Q_ ?_
  refine c_condT rfl (decide_eq_true (by omega)) ?_
  refine S_ ?_
  refine c_region ?_
  refine s_val (v_moveC rfl) rfl ?_
  refine s_evN (e_callR (bs := [0]) (rf256_evS key key.length kcap HYP_ HYP_) ok_21 (by kernel_rfl) (by kernel_rfl) rfl VAL_) APP_ rfl ?_
  refine s_memN (m_alloc al_23 LEN_) APP_ rfl ?_
  refine s_storeR rfl rfl rfl rfl sz_23 EQ_ EQ_ SET_ ?_
  refine s_nil ?_
  have hQ1 : (rf256 key).length = 32 := LQ_
  refine S_ ?_
  refine c_region ?_
  refine s_val (v_slA1 (l := 0) (h := 32) (len := 32) (cp := 32) rfl Try.underlying23 sz_5 rfl rfl rfl (by omega) (by omega) FIT_ rfl rfl) rfl ?_
  refine s_val (v_assignC rfl) rfl ?_
  refine s_nil ?_
  refine S_ ?_
  refine c_region ?_
  refine s_val (v_assignC rfl) rfl ?_
  refine s_nil ?_
  refine S_ ?_
  refine c_loopC [0, 1, 4, 5, 6, 8] (fun (zz : Nat × List (BitVec 8) × List (BitVec 8)) => ⟨47, keepT [0, 1, 4, 5, 6, 8] [.c (.sl 2 0 32 32 1), .c (.sl 1 0 b.length cap 1), .c (.ptr 3 0), .c (.ptr 4 0), .c (.ptr 5 0), .c (.val (.int .i64 (((zz.1 : Nat) : Int))))], [.row false (.a8 (key)), .row false (.a8 (b)), .row true (.a8 (rf256 key)), .row true (.a8 (zer8 32)), .row true (.a8 (zz.2.1)), .row true (.a8 (zz.2.2))]⟩) (fun j6 => (j6, rfMacL_L6 key j6)) (64) (by kernel_rfl) ?_ ?_
  · intro j6 hj6
    try dsimp only
    have hX2 : (rfMacL_L6 key j6).1.length = 64 := by rw [rfMacL_L6_len0 key _]; try omega
    have hX3 : (rfMacL_L6 key j6).2.length = 64 := by rw [rfMacL_L6_len1 key _]; try omega
    rw [rfMacL_L6.eq_2, rfMacL_L6_S]
    generalize rfMacL_L6 key j6 = Z4 at *
    obtain ⟨X2, X3⟩ := Z4
    try dsimp only at *
    refine S_ ?_
    refine c_region ?_
    refine s_val (v_moveC rfl) rfl ?_
    refine s_val (v_lssN (b := 64) rfl rfl) rfl ?_
    refine s_nil ?_
    refine S_ ?_
    refine c_region ?_
    refine s_val (v_assignC rfl) rfl ?_
    refine s_nil ?_
    refine S_ ?_
    refine c_region ?_
    refine s_val (v_moveC rfl) rfl ?_
    refine s_val (v_moveC rfl) rfl ?_
    refine s_val (v_lenS rfl Try.underlying22) rfl ?_
    refine s_val (v_lssN (b := 32) rfl rfl) rfl ?_
    refine s_nil ?_
    refine Q_ ?_
    refine c_join [0, 1, 4, 5, 6, 8, 9] (fun (zz : BitVec 8) => ⟨47, keepT [0, 1, 4, 5, 6, 8, 9] [.c (.sl 2 0 32 32 1), .c (.sl 1 0 b.length cap 1), .c (.ptr 3 0), .c (.ptr 4 0), .c (.ptr 5 0), .c (.val (.int .i64 (((j6 : Nat) : Int)))), .c (.val (U8 (zz)))], [.row false (.a8 (key)), .row false (.a8 (b)), .row true (.a8 (rf256 key)), .row true (.a8 (zer8 32)), .row true (.a8 (X2)), .row true (.a8 (X3))]⟩) (if j6 < 32 then nth (rf256 key) j6 else 0#8) rfl (fun hb => ?_) (fun hb => ?_) ?_
    · -- the test is True
      have hb_ := of_decide_eq_true hb
      refine S_ ?_
      refine c_region ?_
      refine s_val (v_moveC rfl) rfl ?_
      refine s_val (v_moveC rfl) rfl ?_
      refine s_val (v_idxS1 rfl rfl Try.underlying22 sz_5 (by omega)) rfl ?_
      refine s_val (v_load8 rfl rfl row_5 LT_) rfl ?_
      refine s_val (v_assignC rfl) rfl ?_
      refine s_nil ?_
      refine S_ ?_
      refine ⟨(nth (rf256 key) j6), by kernel_rfl, ?_⟩
      rw [if_pos (of_decide_eq_true hb)]
    · -- the test is False
      have hb_ := of_decide_eq_false hb
      refine S_ ?_
      refine ⟨0#8, by kernel_rfl, ?_⟩
      rw [if_neg (of_decide_eq_false hb)]
    generalize (if j6 < 32 then nth (rf256 key) j6 else 0#8) = J5 at *
    refine S_ ?_
    refine c_region ?_
    refine s_val (v_moveC rfl) rfl ?_
    refine s_val (v_moveC rfl) rfl ?_
    refine s_val (v_moveC rfl) rfl ?_
    refine s_val (v_xor8 (b := 54#8) rfl rfl) rfl ?_
    refine s_val (v_moveC rfl) rfl ?_
    refine s_val (v_xor8 (b := 92#8) rfl rfl) rfl ?_
    refine s_val (v_idxA1 rfl rfl Try.underlying46 sz_5 (by omega)) rfl ?_
    refine s_store8 rfl rfl rfl sz_5 LT_ SET_ ?_
    refine s_val (v_idxA1 rfl rfl Try.underlying46 sz_5 (by omega)) rfl ?_
    refine s_store8 rfl rfl rfl sz_5 LT_ SET_ ?_
    refine s_nil ?_
    refine S_ ?_
    refine c_region ?_
    refine s_val (v_moveC rfl) rfl ?_
    refine s_val (v_addN (b := 1) rfl rfl (by omega)) rfl ?_
    refine s_val (v_assignC rfl) rfl ?_
    refine s_nil ?_
    exact ⟨(j6 + 1, _), by kernel_rfl, rfl⟩
  · try dsimp only
    have hY6 : (rfMacL_L6 key 64).1.length = 64 := by rw [rfMacL_L6_len0 key _]; try omega
    have hY7 : (rfMacL_L6 key 64).2.length = 64 := by rw [rfMacL_L6_len1 key _]; try omega
    generalize rfMacL_L6 key 64 = Z8 at *
    obtain ⟨Y6, Y7⟩ := Z8
    try dsimp only at *
    refine S_ ?_
    refine c_region ?_
    refine s_val (v_moveC rfl) rfl ?_
    refine s_val (v_lssN (a := 64) (b := 64) rfl rfl) rfl ?_
    refine s_nil ?_
    refine S_ ?_
    refine c_region ?_
    refine s_val (v_slA1 (l := 0) (h := 64) (len := 64) (cp := 64) rfl Try.underlying46 sz_5 rfl rfl rfl (by omega) (by omega) FIT_ rfl rfl) rfl ?_
    refine s_val (v_moveC rfl) rfl ?_
    refine s_memN (m_bsc Try.underlying50 el_22 (rep_22 _) rfl CS_ (by decide) (by decide) LEN_) APP_ rfl ?_
    refine s_evN (e_callR (bs := [6,4,1]) (rfJoin2_ev Y6 64 64 b b.length cap HYP_ HYP_ HYP_ HYP_) ok_22 (by kernel_rfl) (by kernel_rfl) rfl VAL_) APP_ rfl ?_
    refine s_evN (e_callR (bs := [7]) (rf256_evS (Y6 ++ b) (64 + b.length) (64 + b.length) HYP_ HYP_) ok_21 (by kernel_rfl) (by kernel_rfl) rfl VAL_) APP_ rfl ?_
    refine s_memN (m_alloc al_23 LEN_) APP_ rfl ?_
    refine s_storeR rfl rfl rfl rfl sz_23 EQ_ EQ_ SET_ ?_
    refine s_nil ?_
    have hQ9 : (Y6 ++ b).length = 64 + b.length := LQ_
    have hQ10 : (rf256 (Y6 ++ b)).length = 32 := LQ_
    refine S_ ?_
    refine c_draw 5 mixed (by kernel_rfl) rfl rfl rfl ?_
    refine h_val (v_slA1 (l := 0) (h := 64) (len := 64) (cp := 64) rfl Try.underlying46 sz_5 rfl rfl rfl (by omega) (by omega) FIT_ rfl rfl) rfl ?_
    refine h_val (v_slA1 (l := 0) (h := 32) (len := 32) (cp := 32) rfl Try.underlying23 sz_5 rfl rfl rfl (by omega) (by omega) FIT_ rfl rfl) rfl ?_
    refine h_memN (m_bsc Try.underlying50 el_22 (rep_22 _) rfl CS_ (by decide) (by decide) LEN_) APP_ rfl ?_
    refine h_evN (e_callR (bs := [9,5,8]) (rfJoin2_ev Y7 64 64 (rf256 (Y6 ++ b)) 32 32 HYP_ HYP_ HYP_ HYP_) ok_22 (by kernel_rfl) (by kernel_rfl) rfl VAL_) APP_ rfl ?_
    refine h_evN (e_callR (bs := [10]) (rf256_evS (Y7 ++ (rf256 (Y6 ++ b))) (64 + 32) (64 + 32) HYP_ HYP_) ok_21 (by kernel_rfl) (by kernel_rfl) rfl VAL_) APP_ rfl ?_
    refine h_nil ?_
    refine s_storeR rfl rfl rfl rfl sz_23 EQ_ EQ_ SET_ ?_
    refine s_nil ?_
    have hQ11 : (Y7 ++ (rf256 (Y6 ++ b))).length = 64 + 32 := LQ_
    have hQ12 : (rf256 (Y7 ++ (rf256 (Y6 ++ b)))).length = 32 := LQ_
    refine S_ ?_
    rw [hP.out]
    exact k_1 (r_row rfl rfl row_23 sz_23 EQ_ (by decide)) (by first | kernel_rfl | rfl)

@[simp] theorem rfMacL_len (key : List (BitVec 8)) (b : List (BitVec 8)) : (rfMacL key b).length = 32 := by
  unfold rfMacL
  first | (simp [rfMacL_L6_len0, rfMacL_L6_len1, *]; done) | (simp [rfMacL_L6_len0, rfMacL_L6_len1, *]; omega)

attribute [irreducible] rfMacL
def rfMac (key b : List (BitVec 8)) : List (BitVec 8) := if 64 < key.length then rfMacL key b else rfMacS key b
@[simp] theorem rfMac_len (key b : List (BitVec 8)) : (rfMac key b).length = 32 := by unfold rfMac; split <;> simp
theorem rfMac_ev (key : List (BitVec 8)) (kn kcap : Nat) (b : List (BitVec 8)) (n cap : Nat) (hkey : key.length = kn) (hkn : kn ≤ 1099511627776) (hb : b.length = n) (hn : n ≤ 1099511627776) : Ev Try.prog (.call 14 [.c (.sl 0 0 kn kcap 1), .c (.sl 1 0 n cap 1)] [.row false (.a8 key), .row false (.a8 b)]) (.val (.agg (.a8 (rfMac key b))) [.row false (.a8 key), .row false (.a8 b)]) := by
  unfold rfMac
  by_cases h : 64 < key.length
  · rw [if_pos h]; exact rfMacL_ev key kn kcap b n cap hkey hkn hb hn (by omega)
  · rw [if_neg h]; exact rfMacS_ev key kn kcap b n cap hkey hkn hb hn (by omega)
theorem rfMacN_ev (b : List (BitVec 8)) (n cap : Nat) (hb : b.length = n) (hn : n ≤ 1099511627776) : Ev Try.prog (.call 14 [.c .nsl, .c (.sl 0 0 n cap 1)] [.row false (.a8 b)]) (.val (.agg (.a8 (rfMac [] b))) [.row false (.a8 b)]) :=
  Ev.view (m' := [.row false (.a8 []), .row false (.a8 b)]) (N := []) (v := .agg (.a8 (rfMac [] b))) (viewOf [none, some 0]) (fun j i h => by
    obtain ⟨h1, h2⟩ := viewOf_some h
    match j, h1 with
    | 0, _ => cases h2
    | 1, _ => cases h2; exact ⟨by simp, _, _, rfl, rfl, rfl⟩) (.c .nil (.c (.sl rfl) .nil)) (rfMac_ev [] 0 0 b n cap rfl (by decide) hb hn)
attribute [irreducible] rfMac
end Go.Proofs.Ytlnekohkbhidnaa
