/- The texts FEnds, FRoots, merged into one. -/
import Derived.Test.YtigdadgdeiaodaaGB4
/- trystlaw06.FieldEnds (Drawn up by a program.) -/
namespace Go.Proofs.Ytigdadgdeiaodaa
open Go.RowKit
def fieldEnds_L9_S (X14 : List (BitVec 8)) (j9 : Nat) : List (BitVec 8) := put X14 j9 255#8
def fieldEnds_L9  : Nat → List (BitVec 8)
  | 0 => zer8 32
  | j9 + 1 => fieldEnds_L9_S (fieldEnds_L9 j9) j9
@[simp] theorem fieldEnds_L9_len  (j9 : Nat) : (fieldEnds_L9 j9).length = 32 := by
  induction j9 with
  | zero => first | (simp [fieldEnds_L9, *]; done) | (simp [fieldEnds_L9, *]; omega)
  | succ j9 ih => rw [fieldEnds_L9.eq_2, fieldEnds_L9_S]; first | (simp [ih]; done) | (simp [ih]; omega) | (simp [*]; done) | (simp [*]; omega) | (split <;> first | (simp [ih]; done) | (simp [ih]; omega) | (simp [*]; done))
theorem ends_cases (n : BitVec 64) : ∃ k : Nat, k < 19 ∧ n % 19#64 = BitVec.ofNat 64 k := by
  refine ⟨(n % 19#64).toNat, ?_, by apply BitVec.eq_of_toNat_eq; rw [BitVec.toNat_ofNat, Nat.mod_eq_of_lt (BitVec.isLt _)]⟩
  rw [BitVec.toNat_umod]
  exact Nat.mod_lt _ (by decide)
theorem ends_all : ∀ k, k < 19 → leS (put pB 0 ((nth pB 0) + (((BitVec.ofNat 64 k).setWidth 8) % 19#8))) 32 = PP + k := by decide +kernel
theorem ends_Z (n : BitVec 64) : Z (put pB 0 ((nth pB 0) + (((n % 19#64).setWidth 8) % 19#8))) = zf (n % 19#64).toNat := by
  obtain ⟨k, hk, e⟩ := ends_cases n
  rw [e]
  unfold Z
  rw [ends_all k hk, zf_add, zf_P, BitVec.toNat_ofNat, Nat.mod_eq_of_lt (by omega)]
  generalize zf k = x
  grobner
theorem ends_add (n : BitVec 64) : zf (n % 19#64).toNat + 1 = zf ((n % 19#64) + 1#64).toNat := by
  obtain ⟨k, hk, e⟩ := ends_cases n
  rw [e, BitVec.toNat_add, BitVec.toNat_ofNat, Nat.mod_eq_of_lt (a := k) (by omega)]
  show zf k + zf 1 = zf ((k + 1) % 2 ^ 64)
  rw [Nat.mod_eq_of_lt (by omega), zf_add]
set_option maxRecDepth 100000 in
set_option maxHeartbeats 2000000 in
theorem fieldEnds_ev (n : BitVec 64) (over : Bool)  : Ev Try.prog (.call 9 [.c (.val (U64 n)), .c (.val (.bool over))] []) (.val (.c (.val (.bool (true)))) []) := by
  refine c_call Try.func9 rfl Try.ntmps9 rfl LEN_ ?_
  refine S_ ?_
  refine c_region ?_
  refine s_val (v_assignC rfl) rfl ?_
  refine s_nil ?_
  have hQ1 : (rfP).length = 4 := LQ_
  have hQ2 : (pB).length = 32 := LQ_
  refine S_ ?_
  refine c_region ?_
  refine s_evN (e_callR (bs := []) (rfP_ev) ok_19 (by kernel_rfl) (by kernel_rfl) rfl VAL_) APP_ rfl ?_
  refine s_evN (e_callR (bs := []) (pB_ev) ok_18 (by kernel_rfl) (by kernel_rfl) rfl VAL_) APP_ rfl ?_
  refine s_memN (m_alloc al_22 LEN_) APP_ rfl ?_
  refine s_storeR rfl rfl rfl rfl sz_22 EQ_ EQ_ SET_ ?_
  refine s_nil ?_
  refine S_ ?_
  refine c_region ?_
  refine s_val (v_moveC rfl) rfl ?_
  refine s_val (v_rem64 (b := 19#64) rfl rfl (by first | decide | assumption)) rfl ?_
  refine s_val (v_assignC rfl) rfl ?_
  refine s_nil ?_
  refine S_ ?_
  refine c_region ?_
  refine s_val (v_loadR rfl rfl row_22 sz_22 EQ_ (by decide)) rfl ?_
  refine s_memN (m_alloc al_22 LEN_) APP_ rfl ?_
  refine s_storeR rfl rfl rfl rfl sz_22 EQ_ EQ_ SET_ ?_
  refine s_nil ?_
  refine S_ ?_
  refine c_region ?_
  refine s_val (v_idxA1 (j := 0) rfl rfl Try.underlying22 sz_5 (by omega)) rfl ?_
  refine s_val (v_load8 rfl rfl row_5 LT_) rfl ?_
  refine s_val (v_moveC rfl) rfl ?_
  refine s_val (v_conv rfl Try.underlying25 Try.underlying5 (w64_8 _)) rfl ?_
  refine s_val (v_rem8 (b := 19#8) rfl rfl (by first | decide | assumption)) rfl ?_
  refine s_val (v_add8 rfl rfl) rfl ?_
  refine s_val (v_idxA1 (j := 0) rfl rfl Try.underlying22 sz_5 (by omega)) rfl ?_
  refine s_store8 rfl rfl rfl sz_5 LT_ SET_ ?_
  refine s_nil ?_
  have hQ6 : (fMod (put pB 0 ((nth pB 0) + (((n % 19#64).setWidth 8) % 19#8)))).length = 32 := LQ_
  have hQ7 : (fSmall (n % 19#64)).length = 32 := LQ_
  have hQ8 : (fMod pB).length = 32 := LQ_
  have hQ9 : (fSmall 0#64).length = 32 := LQ_
  have hQ10 : (fSmall 1#64).length = 32 := LQ_
  have hQ11 : (fAdd (put pB 0 ((nth pB 0) + (((n % 19#64).setWidth 8) % 19#8))) (fSmall 1#64)).length = 32 := LQ_
  have hQ12 : (fSmall ((n % 19#64) + 1#64)).length = 32 := LQ_
  have hQ13 : (fMod (fSmall ((n % 19#64) + 1#64))).length = 32 := LQ_
  have hE3 : (!decide (fMod (put pB 0 ((nth pB 0) + (((n % 19#64).setWidth 8) % 19#8))) = fSmall (n % 19#64))) = false := by rw [decide_eq_true (by simp only [fMod, fSmall, F_inj]; exact ends_Z n)]; rfl
  have hE4 : (!decide (fMod pB = fSmall 0#64)) = false := by rw [decide_eq_true (by simp only [fMod, fSmall, F_inj, zs0]; exact Z_pB)]; rfl
  have hE5 : (!decide (fAdd (put pB 0 ((nth pB 0) + (((n % 19#64).setWidth 8) % 19#8))) (fSmall 1#64) = fMod (fSmall ((n % 19#64) + 1#64)))) = false := by rw [decide_eq_true (by simp only [fAdd, fMod, fSmall, F_inj, Z_F, zs1, ends_Z]; exact ends_add n)]; rfl
  refine S_ ?_
  refine c_draw 21 mixed (by kernel_rfl) rfl rfl rfl ?_
  refine h_val (v_loadR rfl rfl row_22 sz_22 EQ_ (by decide)) rfl ?_
  refine h_evN (e_callR (bs := []) (fMod_ev (put pB 0 ((nth pB 0) + (((n % 19#64).setWidth 8) % 19#8))) HYP_) ok_12 (by kernel_rfl) (by kernel_rfl) rfl VAL_) APP_ rfl ?_
  refine h_val (v_moveC rfl) rfl ?_
  refine h_evN (e_callR (bs := []) (fSmall_ev (n % 19#64)) ok_13 (by kernel_rfl) (by kernel_rfl) rfl VAL_) APP_ rfl ?_
  refine h_val (v_bool (v_neqR8 rfl rfl Try.underlying22 Try.underlying5 sz_5 EQ_ EQ_) hE3) rfl ?_
  refine h_val (v_moveC rfl) rfl ?_
  refine h_go GO_ ?_
  refine h_val (v_loadR rfl rfl row_22 sz_22 EQ_ (by decide)) rfl ?_
  refine h_go GO_ ?_
  refine h_evN (e_callR (bs := []) (fMod_ev pB HYP_) ok_12 (by kernel_rfl) (by kernel_rfl) rfl VAL_) APP_ rfl ?_
  refine h_go GO_ ?_
  refine h_evN (e_callR (bs := []) (fSmall_ev 0#64) ok_13 (by kernel_rfl) (by kernel_rfl) rfl VAL_) APP_ rfl ?_
  refine h_go GO_ ?_
  refine h_val (v_bool (v_neqR8 rfl rfl Try.underlying22 Try.underlying5 sz_5 EQ_ EQ_) hE4) rfl ?_
  refine h_val (v_pickF rfl PK_ rfl) rfl ?_
  refine h_val (v_moveC rfl) rfl ?_
  refine h_go GO_ ?_
  refine h_val (v_loadR rfl rfl row_22 sz_22 EQ_ (by decide)) rfl ?_
  refine h_go GO_ ?_
  refine h_evN (e_callR (bs := []) (fSmall_ev 1#64) ok_13 (by kernel_rfl) (by kernel_rfl) rfl VAL_) APP_ rfl ?_
  refine h_go GO_ ?_
  refine h_evN (e_callR (bs := []) (fAdd_ev (put pB 0 ((nth pB 0) + (((n % 19#64).setWidth 8) % 19#8))) (fSmall 1#64) HYP_ HYP_) ok_25 (by kernel_rfl) (by kernel_rfl) rfl VAL_) APP_ rfl ?_
  refine h_go GO_ ?_
  refine h_val (v_moveC rfl) rfl ?_
  refine h_go GO_ ?_
  refine h_val (v_add64 (b := 1#64) rfl rfl) rfl ?_
  refine h_go GO_ ?_
  refine h_evN (e_callR (bs := []) (fSmall_ev ((n % 19#64) + 1#64)) ok_13 (by kernel_rfl) (by kernel_rfl) rfl VAL_) APP_ rfl ?_
  refine h_go GO_ ?_
  refine h_evN (e_callR (bs := []) (fMod_ev (fSmall ((n % 19#64) + 1#64)) HYP_) ok_12 (by kernel_rfl) (by kernel_rfl) rfl VAL_) APP_ rfl ?_
  refine h_go GO_ ?_
  refine h_val (v_bool (v_neqR8 rfl rfl Try.underlying22 Try.underlying5 sz_5 EQ_ EQ_) hE5) rfl ?_
  refine h_val (v_pickF rfl PK_ rfl) rfl ?_
  refine h_nil ?_
  refine s_nil ?_
  refine S_ ?_
  refine c_region ?_
  refine s_memN (m_alloc al_22 LEN_) APP_ rfl ?_
  refine s_nil ?_
  refine S_ ?_
  refine c_region ?_
  refine s_val (v_assignC rfl) rfl ?_
  refine s_nil ?_
  refine S_ ?_
  refine c_loopC [5, 7, 8] (fun (zz : Nat × List (BitVec 8)) => ⟨64, keepT [5, 7, 8] [.c (.ptr 0 0), .c (.ptr 1 0), .c (.val (.int .i64 (((zz.1 : Nat) : Int))))], [.row true (.a8 (pB)), .row true (.a8 (zz.2))]⟩) (fun j9 => (j9, fieldEnds_L9 j9)) (32) (by kernel_rfl) ?_ ?_
  · intro j9 hj9
    try dsimp only
    have hX14 : (fieldEnds_L9 j9).length = 32 := by rw [fieldEnds_L9_len _]; try omega
    have htop : j9 = 32 → fMod (fieldEnds_L9 j9) = fSmall 37#64 := by intro h; rw [h]; decide +kernel
    rw [fieldEnds_L9.eq_2, fieldEnds_L9_S]
    generalize fieldEnds_L9 j9 = X14 at *
    refine S_ ?_
    refine c_region ?_
    refine s_val (v_moveC rfl) rfl ?_
    refine s_val (v_lssN (b := 32) rfl rfl) rfl ?_
    refine s_nil ?_
    refine S_ ?_
    refine c_region ?_
    refine s_val (v_moveC rfl) rfl ?_
    refine s_val (v_idxA1 rfl rfl Try.underlying22 sz_5 (by omega)) rfl ?_
    refine s_store8 (w := 255#8) rfl rfl rfl sz_5 LT_ SET_ ?_
    refine s_nil ?_
    refine S_ ?_
    refine c_region ?_
    refine s_val (v_moveC rfl) rfl ?_
    refine s_val (v_addN (b := 1) rfl rfl (by omega)) rfl ?_
    refine s_val (v_assignC rfl) rfl ?_
    refine s_nil ?_
    exact ⟨(j9 + 1, _), by kernel_rfl, rfl⟩
  · try dsimp only
    have hY15 : (fieldEnds_L9 32).length = 32 := by rw [fieldEnds_L9_len _]; try omega
    have htop : 32 = 32 → fMod (fieldEnds_L9 32) = fSmall 37#64 := by intro h; rw [h]; decide +kernel
    generalize fieldEnds_L9 32 = Y15 at *
    refine S_ ?_
    refine c_region ?_
    refine s_val (v_moveC rfl) rfl ?_
    refine s_val (v_lssN (a := 32) (b := 32) rfl rfl) rfl ?_
    refine s_nil ?_
    have hQ18 : (fMod Y15).length = 32 := LQ_
    have hQ19 : (fSmall 37#64).length = 32 := LQ_
    have hQ20 : (fSmall 0#64).length = 32 := LQ_
    have hQ21 : (fSmall 1#64).length = 32 := LQ_
    have hQ22 : (fSub (fSmall 0#64) (fSmall 1#64)).length = 32 := LQ_
    have hQ23 : (fSub pB (fSmall 1#64)).length = 32 := LQ_
    have hE16 : (decide (fMod Y15 = fSmall 37#64)) = true := decide_eq_true (htop rfl)
    have hE17 : (decide (fSub (fSmall 0#64) (fSmall 1#64) = fSub pB (fSmall 1#64))) = true := decide_eq_true (by simp only [fSub, fSmall, Z_F, zs0, zs1, Z_pB])
    refine S_ ?_
    refine c_draw 17 mixed (by kernel_rfl) rfl rfl rfl ?_
    refine h_val (v_loadR rfl rfl row_22 sz_22 EQ_ (by decide)) rfl ?_
    refine h_evN (e_callR (bs := []) (fMod_ev Y15 HYP_) ok_12 (by kernel_rfl) (by kernel_rfl) rfl VAL_) APP_ rfl ?_
    refine h_evN (e_callR (bs := []) (fSmall_ev 37#64) ok_13 (by kernel_rfl) (by kernel_rfl) rfl VAL_) APP_ rfl ?_
    refine h_val (v_bool (v_eqlR8 rfl rfl Try.underlying22 Try.underlying5 sz_5 EQ_ EQ_) hE16) rfl ?_
    refine h_val (v_moveC rfl) rfl ?_
    refine h_go GO_ ?_
    refine h_evN (e_callR (bs := []) (fSmall_ev 0#64) ok_13 (by kernel_rfl) (by kernel_rfl) rfl VAL_) APP_ rfl ?_
    refine h_go GO_ ?_
    refine h_evN (e_callR (bs := []) (fSmall_ev 1#64) ok_13 (by kernel_rfl) (by kernel_rfl) rfl VAL_) APP_ rfl ?_
    refine h_go GO_ ?_
    refine h_evN (e_callR (bs := []) (fSub_ev (fSmall 0#64) (fSmall 1#64) HYP_ HYP_) ok_26 (by kernel_rfl) (by kernel_rfl) rfl VAL_) APP_ rfl ?_
    refine h_go GO_ ?_
    refine h_val (v_loadR rfl rfl row_22 sz_22 EQ_ (by decide)) rfl ?_
    refine h_go GO_ ?_
    refine h_evN (e_callR (bs := []) (fSmall_ev 1#64) ok_13 (by kernel_rfl) (by kernel_rfl) rfl VAL_) APP_ rfl ?_
    refine h_go GO_ ?_
    refine h_evN (e_callR (bs := []) (fSub_ev pB (fSmall 1#64) HYP_ HYP_) ok_26 (by kernel_rfl) (by kernel_rfl) rfl VAL_) APP_ rfl ?_
    refine h_go GO_ ?_
    refine h_val (v_bool (v_eqlR8 rfl rfl Try.underlying22 Try.underlying5 sz_5 EQ_ EQ_) hE17) rfl ?_
    refine h_val (v_pickT rfl PK_ rfl) rfl ?_
    refine h_val (v_moveC rfl) rfl ?_
    refine h_go GO_ ?_
    refine h_evN (e_callR (wakes_ev) ok_15 rfl rfl rfl VAL_) APP_ rfl ?_
    refine h_val (v_pickT rfl PK_ rfl) rfl ?_
    refine h_val (v_assignC rfl) rfl ?_
    refine h_nil ?_
    refine s_nil ?_
    refine S_ ?_
    exact k_1 (by first | exact r_tmpC rfl | exact r_tmpA rfl) (by first | kernel_rfl | rfl)
end Go.Proofs.Ytigdadgdeiaodaa
/- trystlaw06.FieldRoots, trystlaw06.FieldRoots, trystlaw06.FieldRoots (Drawn up by a program.) -/
namespace Go.Proofs.Ytigdadgdeiaodaa
open Go.RowKit
def fieldRootsZ_L5_S (X2 : List (BitVec 64)) (j5 : Nat) : List (BitVec 64) := (if j5 < 3 then put (put X2 j5 ((nth (put rfP 0 ((nth rfP 0) - 1#64)) j5) >>> 1)) j5 ((nth (put X2 j5 ((nth (put rfP 0 ((nth rfP 0) - 1#64)) j5) >>> 1)) j5) ||| ((nth (put rfP 0 ((nth rfP 0) - 1#64)) (j5 + 1)) <<< 63)) else put X2 j5 ((nth (put rfP 0 ((nth rfP 0) - 1#64)) j5) >>> 1))
def fieldRootsZ_L5  : Nat → List (BitVec 64)
  | 0 => zer64 4
  | j5 + 1 => fieldRootsZ_L5_S (fieldRootsZ_L5 j5) j5
@[simp] theorem fieldRootsZ_L5_len  (j5 : Nat) : (fieldRootsZ_L5 j5).length = 4 := by
  induction j5 with
  | zero => first | (simp [fieldRootsZ_L5, *]; done) | (simp [fieldRootsZ_L5, *]; omega)
  | succ j5 ih => rw [fieldRootsZ_L5.eq_2, fieldRootsZ_L5_S]; first | (simp [ih]; done) | (simp [ih]; omega) | (simp [*]; done) | (simp [*]; omega) | (split <;> first | (simp [ih]; done) | (simp [ih]; omega) | (simp [*]; done))
set_option maxRecDepth 100000 in
set_option maxHeartbeats 2000000 in
theorem fieldRootsZ_ev (a : List (BitVec 8)) (ha : a.length = 32) (hz : Z a = 0) (hroot : fRootIs a = true) (_he : Z a ^ eHalf ≠ 1) : Ev Try.prog (.call 10 [.agg (.a8 (a))] []) (.val (.c (.val (.bool (true)))) []) := by
  refine c_call Try.func10 rfl Try.ntmps10 rfl LEN_ ?_
  refine S_ ?_
  refine c_region ?_
  refine s_memN (m_box BX_ LEN_) APP_ rfl ?_
  refine s_val (v_assignC rfl) rfl ?_
  refine s_nil ?_
  have hQ1 : (rfP).length = 4 := LQ_
  refine S_ ?_
  refine c_region ?_
  refine s_evN (e_callR (bs := []) (rfP_ev) ok_19 (by kernel_rfl) (by kernel_rfl) rfl VAL_) APP_ rfl ?_
  refine s_memN (m_alloc al_32 LEN_) APP_ rfl ?_
  refine s_storeR rfl rfl rfl rfl sz_32 EQ_ EQ_ SET_ ?_
  refine s_nil ?_
  refine S_ ?_
  refine c_region ?_
  refine s_memN (m_alloc al_32 LEN_) APP_ rfl ?_
  refine s_nil ?_
  refine S_ ?_
  refine c_region ?_
  refine s_val (v_idxA1 (j := 0) rfl rfl Try.underlying32 sz_25 (by omega)) rfl ?_
  refine s_val (v_load64 rfl rfl row_25 LT_) rfl ?_
  refine s_val (v_sub64 (b := 1#64) rfl rfl) rfl ?_
  refine s_val (v_idxA1 (j := 0) rfl rfl Try.underlying32 sz_25 (by omega)) rfl ?_
  refine s_store64 rfl rfl rfl sz_25 LT_ SET_ ?_
  refine s_nil ?_
  refine S_ ?_
  refine c_region ?_
  refine s_val (v_assignC rfl) rfl ?_
  refine s_nil ?_
  refine S_ ?_
  refine c_loopC [1, 3, 4, 5] (fun (zz : Nat × List (BitVec 64)) => ⟨106, keepT [1, 3, 4, 5] [.c (.ptr 0 0), .c (.ptr 1 0), .c (.ptr 2 0), .c (.val (.int .i64 (((zz.1 : Nat) : Int))))], [.row true (.a8 (a)), .row true (.a64 (put rfP 0 ((nth rfP 0) - 1#64))), .row true (.a64 (zz.2))]⟩) (fun j5 => (j5, fieldRootsZ_L5 j5)) (4) (by kernel_rfl) ?_ ?_
  · intro j5 hj5
    try dsimp only
    have hX2 : (fieldRootsZ_L5 j5).length = 4 := by rw [fieldRootsZ_L5_len _]; try omega
    have hhalf : j5 = 4 → leS (rB (fieldRootsZ_L5 j5)) 32 = eHalf := by intro h; rw [h]; decide +kernel
    rw [fieldRootsZ_L5.eq_2, fieldRootsZ_L5_S]
    generalize fieldRootsZ_L5 j5 = X2 at *
    refine S_ ?_
    refine c_region ?_
    refine s_val (v_moveC rfl) rfl ?_
    refine s_val (v_lssN (b := 4) rfl rfl) rfl ?_
    refine s_nil ?_
    refine S_ ?_
    refine c_region ?_
    refine s_val (v_moveC rfl) rfl ?_
    refine s_val (v_moveC rfl) rfl ?_
    refine s_val (v_idxA1 rfl rfl Try.underlying32 sz_25 (by omega)) rfl ?_
    refine s_val (v_load64 rfl rfl row_25 LT_) rfl ?_
    refine s_val (v_shr64n (j := 1) rfl rfl) rfl ?_
    refine s_val (v_idxA1 rfl rfl Try.underlying32 sz_25 (by omega)) rfl ?_
    refine s_store64 rfl rfl rfl sz_25 LT_ SET_ ?_
    refine s_nil ?_
    refine S_ ?_
    refine c_region ?_
    refine s_val (v_moveC rfl) rfl ?_
    refine s_val (v_lssN (b := 3) rfl rfl) rfl ?_
    refine s_nil ?_
    refine Q_ ?_
    refine c_join [1, 3, 4, 5] (fun (zz : List (BitVec 64)) => ⟨106, keepT [1, 3, 4, 5] [.c (.ptr 0 0), .c (.ptr 1 0), .c (.ptr 2 0), .c (.val (.int .i64 (((j5 : Nat) : Int))))], [.row true (.a8 (a)), .row true (.a64 (put rfP 0 ((nth rfP 0) - 1#64))), .row true (.a64 (zz))]⟩) (if j5 < 3 then put (put X2 j5 ((nth (put rfP 0 ((nth rfP 0) - 1#64)) j5) >>> 1)) j5 ((nth (put X2 j5 ((nth (put rfP 0 ((nth rfP 0) - 1#64)) j5) >>> 1)) j5) ||| ((nth (put rfP 0 ((nth rfP 0) - 1#64)) (j5 + 1)) <<< 63)) else put X2 j5 ((nth (put rfP 0 ((nth rfP 0) - 1#64)) j5) >>> 1)) rfl (fun hb => ?_) (fun hb => ?_) ?_
    · -- the test is True
      have hb_ := of_decide_eq_true hb
      refine S_ ?_
      refine c_draw 10 mixed (by kernel_rfl) rfl rfl rfl ?_
      refine h_val (v_moveC rfl) rfl ?_
      refine h_val (v_idxA1 rfl rfl Try.underlying32 sz_25 (by omega)) rfl ?_
      refine h_val (v_load64 rfl rfl row_25 LT_) rfl ?_
      refine h_val (v_moveC rfl) rfl ?_
      refine h_val (v_addN (b := 1) rfl rfl (by omega)) rfl ?_
      refine h_val (v_idxA1 rfl rfl Try.underlying32 sz_25 (by omega)) rfl ?_
      refine h_val (v_load64 rfl rfl row_25 LT_) rfl ?_
      refine h_val (v_shl64n (j := 63) rfl rfl) rfl ?_
      refine h_val (v_or64 rfl rfl) rfl ?_
      refine h_val (v_idxA1 rfl rfl Try.underlying32 sz_25 (by omega)) rfl ?_
      refine h_nil ?_
      refine s_store64 rfl rfl rfl sz_25 LT_ SET_ ?_
      refine s_nil ?_
      refine S_ ?_
      refine ⟨(put (put X2 j5 ((nth (put rfP 0 ((nth rfP 0) - 1#64)) j5) >>> 1)) j5 ((nth (put X2 j5 ((nth (put rfP 0 ((nth rfP 0) - 1#64)) j5) >>> 1)) j5) ||| ((nth (put rfP 0 ((nth rfP 0) - 1#64)) (j5 + 1)) <<< 63))), by kernel_rfl, ?_⟩
      rw [if_pos (of_decide_eq_true hb)]
    · -- the test is False
      have hb_ := of_decide_eq_false hb
      refine S_ ?_
      refine ⟨(put X2 j5 ((nth (put rfP 0 ((nth rfP 0) - 1#64)) j5) >>> 1)), by kernel_rfl, ?_⟩
      rw [if_neg (of_decide_eq_false hb)]
    have hJ3 : (if j5 < 3 then put (put X2 j5 ((nth (put rfP 0 ((nth rfP 0) - 1#64)) j5) >>> 1)) j5 ((nth (put X2 j5 ((nth (put rfP 0 ((nth rfP 0) - 1#64)) j5) >>> 1)) j5) ||| ((nth (put rfP 0 ((nth rfP 0) - 1#64)) (j5 + 1)) <<< 63)) else put X2 j5 ((nth (put rfP 0 ((nth rfP 0) - 1#64)) j5) >>> 1)).length = 4 := by split <;> simp [*]
    generalize (if j5 < 3 then put (put X2 j5 ((nth (put rfP 0 ((nth rfP 0) - 1#64)) j5) >>> 1)) j5 ((nth (put X2 j5 ((nth (put rfP 0 ((nth rfP 0) - 1#64)) j5) >>> 1)) j5) ||| ((nth (put rfP 0 ((nth rfP 0) - 1#64)) (j5 + 1)) <<< 63)) else put X2 j5 ((nth (put rfP 0 ((nth rfP 0) - 1#64)) j5) >>> 1)) = J3 at *
    refine S_ ?_
    refine c_region ?_
    refine s_val (v_moveC rfl) rfl ?_
    refine s_val (v_addN (b := 1) rfl rfl (by omega)) rfl ?_
    refine s_val (v_assignC rfl) rfl ?_
    refine s_nil ?_
    exact ⟨(j5 + 1, _), by kernel_rfl, rfl⟩
  · try dsimp only
    have hY4 : (fieldRootsZ_L5 4).length = 4 := by rw [fieldRootsZ_L5_len _]; try omega
    have hhalf : 4 = 4 → leS (rB (fieldRootsZ_L5 4)) 32 = eHalf := by intro h; rw [h]; decide +kernel
    generalize fieldRootsZ_L5 4 = Y4 at *
    refine S_ ?_
    refine c_region ?_
    refine s_val (v_moveC rfl) rfl ?_
    refine s_val (v_lssN (a := 4) (b := 4) rfl rfl) rfl ?_
    refine s_nil ?_
    have hQ6 : (fRoot a).length = 32 := LQ_
    have hE5 : (fRootIs a) = true := hroot
    refine S_ ?_
    refine c_region ?_
    refine s_val (v_loadR rfl rfl row_22 sz_22 EQ_ (by decide)) rfl ?_
    refine s_evN (e_callR (bs := []) (fRoot_ev a HYP_) ok_21 (by kernel_rfl) (by kernel_rfl) rfl VAL_) APP_ rfl ?_
    refine s_val (v_moveT rfl) rfl ?_
    refine s_val (v_extract rfl rfl) rfl ?_
    refine s_val (v_bool (v_extract rfl rfl) hE5) rfl ?_
    refine s_memN (m_alloc al_22 LEN_) APP_ rfl ?_
    refine s_storeR rfl rfl rfl rfl sz_22 EQ_ EQ_ SET_ ?_
    refine s_val (v_assignC rfl) rfl ?_
    refine s_nil ?_
    have hQ7 : (rB Y4).length = 32 := LQ_
    have hQ8 : (fPow a (rB Y4)).length = 32 := LQ_
    refine S_ ?_
    refine c_draw 5 mixed (by kernel_rfl) rfl rfl rfl ?_
    refine h_val (v_loadR rfl rfl row_22 sz_22 EQ_ (by decide)) rfl ?_
    refine h_val (v_loadR rfl rfl row_32 sz_32 EQ_ (by decide)) rfl ?_
    refine h_evN (e_callR (bs := []) (rB_ev Y4 HYP_) ok_18 (by kernel_rfl) (by kernel_rfl) rfl VAL_) APP_ rfl ?_
    refine h_evN (e_callR (bs := []) (fPow_ev a (rB Y4) HYP_ HYP_) ok_17 (by kernel_rfl) (by kernel_rfl) rfl VAL_) APP_ rfl ?_
    refine h_memN (m_alloc al_22 LEN_) APP_ rfl ?_
    refine h_nil ?_
    refine s_storeR rfl rfl rfl rfl sz_22 EQ_ EQ_ SET_ ?_
    refine s_nil ?_
    have hQ10 : (fMod a).length = 32 := LQ_
    have hQ11 : (fSmall 0#64).length = 32 := LQ_
    have hE9 : (decide (fMod a = fSmall 0#64)) = true := decide_eq_true (by simp only [fMod, fSmall, F_inj, zs0]; exact hz)
    refine S_ ?_
    refine c_region ?_
    refine s_val (v_loadR rfl rfl row_22 sz_22 EQ_ (by decide)) rfl ?_
    refine s_evN (e_callR (bs := []) (fMod_ev a HYP_) ok_12 (by kernel_rfl) (by kernel_rfl) rfl VAL_) APP_ rfl ?_
    refine s_evN (e_callR (bs := []) (fSmall_ev 0#64) ok_13 (by kernel_rfl) (by kernel_rfl) rfl VAL_) APP_ rfl ?_
    refine s_val (v_bool (v_eqlR8 rfl rfl Try.underlying22 Try.underlying5 sz_5 EQ_ EQ_) hE9) rfl ?_
    refine s_val (v_assignC rfl) rfl ?_
    refine s_nil ?_
    refine S_ ?_
    refine c_draw 24 mixed (by kernel_rfl) rfl rfl rfl ?_
    refine h_val (v_moveC rfl) rfl ?_
    refine h_val (v_moveC rfl) rfl ?_
    refine h_val (v_moveC rfl) rfl ?_
    refine h_no GO_ ?_
    refine h_no GO_ ?_
    refine h_no GO_ ?_
    refine h_val (v_pickT rfl PK_ rfl) rfl ?_
    refine h_val (v_neqB rfl rfl Try.underlying4) rfl ?_
    refine h_val (v_moveC rfl) rfl ?_
    refine h_go GO_ ?_
    refine h_val (v_moveC rfl) rfl ?_
    refine h_go GO_ ?_
    refine h_val (v_unnotB rfl) rfl ?_
    refine h_go GO_ ?_
    refine h_val (v_moveC rfl) rfl ?_
    refine h_no GO_ ?_
    refine h_no GO_ ?_
    refine h_no GO_ ?_
    refine h_go GO_ ?_
    refine h_val (v_pickF rfl PK_ rfl) rfl ?_
    refine h_go GO_ ?_
    refine h_val (v_moveC rfl) rfl ?_
    refine h_no GO_ ?_
    refine h_no GO_ ?_
    refine h_no GO_ ?_
    refine h_no GO_ ?_
    refine h_no GO_ ?_
    refine h_go GO_ ?_
    refine h_val (v_pickF rfl PK_ rfl) rfl ?_
    refine h_val (v_pickF rfl PK_ rfl) rfl ?_
    refine h_nil ?_
    refine s_nil ?_
    refine S_ ?_
    refine c_region ?_
    refine s_val (v_moveC rfl) rfl ?_
    refine s_val (v_unnotB rfl) rfl ?_
    refine s_nil ?_
    have hQ15 : (fMul (fRoot a) (fRoot a)).length = 32 := LQ_
    have hQ16 : (fMod a).length = 32 := LQ_
    have hQ17 : (fSmall 0#64).length = 32 := LQ_
    have hE12 : (decide (fMul (fRoot a) (fRoot a) = fMod a)) = true := decide_eq_true (by simp only [fMul, fMod, F_inj]; exact root_sq_of hroot)
    have hE13 : ((((nth (fRoot a) 0) % 2#8) == 0#8)) = true := fRoot_even _
    have hE14 : (decide (fRoot a = fSmall 0#64)) = true := decide_eq_true (root_zero hz)
    refine S_ ?_
    refine c_draw 25 mixed (by kernel_rfl) rfl rfl rfl ?_
    refine h_val (v_loadR rfl rfl row_22 sz_22 EQ_ (by decide)) rfl ?_
    refine h_val (v_loadR rfl rfl row_22 sz_22 EQ_ (by decide)) rfl ?_
    refine h_evN (e_callR (bs := []) (fMul_ev (fRoot a) (fRoot a) HYP_ HYP_) ok_16 (by kernel_rfl) (by kernel_rfl) rfl VAL_) APP_ rfl ?_
    refine h_val (v_loadR rfl rfl row_22 sz_22 EQ_ (by decide)) rfl ?_
    refine h_evN (e_callR (bs := []) (fMod_ev a HYP_) ok_12 (by kernel_rfl) (by kernel_rfl) rfl VAL_) APP_ rfl ?_
    refine h_val (v_bool (v_eqlR8 rfl rfl Try.underlying22 Try.underlying5 sz_5 EQ_ EQ_) hE12) rfl ?_
    refine h_val (v_moveC rfl) rfl ?_
    refine h_go GO_ ?_
    refine h_val (v_idxA1 (j := 0) rfl rfl Try.underlying22 sz_5 (by omega)) rfl ?_
    refine h_go GO_ ?_
    refine h_val (v_load8 rfl rfl row_5 LT_) rfl ?_
    refine h_go GO_ ?_
    refine h_val (v_rem8 (b := 2#8) rfl rfl (by first | decide | assumption)) rfl ?_
    refine h_go GO_ ?_
    refine h_val (v_bool (v_eql8 (b := 0#8) rfl rfl) hE13) rfl ?_
    refine h_val (v_pickT rfl PK_ rfl) rfl ?_
    refine h_val (v_moveC rfl) rfl ?_
    refine h_go GO_ ?_
    refine h_val (v_moveC rfl) rfl ?_
    refine h_go GO_ ?_
    refine h_val (v_unnotB rfl) rfl ?_
    refine h_go GO_ ?_
    refine h_val (v_moveC rfl) rfl ?_
    refine h_go GO_ ?_
    refine h_val (v_loadR rfl rfl row_22 sz_22 EQ_ (by decide)) rfl ?_
    refine h_go GO_ ?_
    refine h_evN (e_callR (bs := []) (fSmall_ev 0#64) ok_13 (by kernel_rfl) (by kernel_rfl) rfl VAL_) APP_ rfl ?_
    refine h_go GO_ ?_
    refine h_val (v_bool (v_eqlR8 rfl rfl Try.underlying22 Try.underlying5 sz_5 EQ_ EQ_) hE14) rfl ?_
    refine h_go GO_ ?_
    refine h_val (v_pickF rfl PK_ rfl) rfl ?_
    refine h_val (v_pickT rfl PK_ rfl) rfl ?_
    refine h_val (v_moveC rfl) rfl ?_
    refine h_go GO_ ?_
    refine h_evN (e_callR (wakes_ev) ok_15 rfl rfl rfl VAL_) APP_ rfl ?_
    refine h_val (v_pickT rfl PK_ rfl) rfl ?_
    refine h_val (v_assignC rfl) rfl ?_
    refine h_nil ?_
    refine s_nil ?_
    refine S_ ?_
    exact k_1 (by first | exact r_tmpC rfl | exact r_tmpA rfl) (by first | kernel_rfl | rfl)

def fieldRootsP_L5_S (X2 : List (BitVec 64)) (j5 : Nat) : List (BitVec 64) := (if j5 < 3 then put (put X2 j5 ((nth (put rfP 0 ((nth rfP 0) - 1#64)) j5) >>> 1)) j5 ((nth (put X2 j5 ((nth (put rfP 0 ((nth rfP 0) - 1#64)) j5) >>> 1)) j5) ||| ((nth (put rfP 0 ((nth rfP 0) - 1#64)) (j5 + 1)) <<< 63)) else put X2 j5 ((nth (put rfP 0 ((nth rfP 0) - 1#64)) j5) >>> 1))
def fieldRootsP_L5  : Nat → List (BitVec 64)
  | 0 => zer64 4
  | j5 + 1 => fieldRootsP_L5_S (fieldRootsP_L5 j5) j5
@[simp] theorem fieldRootsP_L5_len  (j5 : Nat) : (fieldRootsP_L5 j5).length = 4 := by
  induction j5 with
  | zero => first | (simp [fieldRootsP_L5, *]; done) | (simp [fieldRootsP_L5, *]; omega)
  | succ j5 ih => rw [fieldRootsP_L5.eq_2, fieldRootsP_L5_S]; first | (simp [ih]; done) | (simp [ih]; omega) | (simp [*]; done) | (simp [*]; omega) | (split <;> first | (simp [ih]; done) | (simp [ih]; omega) | (simp [*]; done))
set_option maxRecDepth 100000 in
set_option maxHeartbeats 2000000 in
theorem fieldRootsP_ev (a : List (BitVec 8)) (ha : a.length = 32) (hz : Z a ≠ 0) (hroot : fRootIs a = true) (he : Z a ^ eHalf = 1) : Ev Try.prog (.call 10 [.agg (.a8 (a))] []) (.val (.c (.val (.bool (true)))) []) := by
  refine c_call Try.func10 rfl Try.ntmps10 rfl LEN_ ?_
  refine S_ ?_
  refine c_region ?_
  refine s_memN (m_box BX_ LEN_) APP_ rfl ?_
  refine s_val (v_assignC rfl) rfl ?_
  refine s_nil ?_
  have hQ1 : (rfP).length = 4 := LQ_
  refine S_ ?_
  refine c_region ?_
  refine s_evN (e_callR (bs := []) (rfP_ev) ok_19 (by kernel_rfl) (by kernel_rfl) rfl VAL_) APP_ rfl ?_
  refine s_memN (m_alloc al_32 LEN_) APP_ rfl ?_
  refine s_storeR rfl rfl rfl rfl sz_32 EQ_ EQ_ SET_ ?_
  refine s_nil ?_
  refine S_ ?_
  refine c_region ?_
  refine s_memN (m_alloc al_32 LEN_) APP_ rfl ?_
  refine s_nil ?_
  refine S_ ?_
  refine c_region ?_
  refine s_val (v_idxA1 (j := 0) rfl rfl Try.underlying32 sz_25 (by omega)) rfl ?_
  refine s_val (v_load64 rfl rfl row_25 LT_) rfl ?_
  refine s_val (v_sub64 (b := 1#64) rfl rfl) rfl ?_
  refine s_val (v_idxA1 (j := 0) rfl rfl Try.underlying32 sz_25 (by omega)) rfl ?_
  refine s_store64 rfl rfl rfl sz_25 LT_ SET_ ?_
  refine s_nil ?_
  refine S_ ?_
  refine c_region ?_
  refine s_val (v_assignC rfl) rfl ?_
  refine s_nil ?_
  refine S_ ?_
  refine c_loopC [1, 3, 4, 5] (fun (zz : Nat × List (BitVec 64)) => ⟨106, keepT [1, 3, 4, 5] [.c (.ptr 0 0), .c (.ptr 1 0), .c (.ptr 2 0), .c (.val (.int .i64 (((zz.1 : Nat) : Int))))], [.row true (.a8 (a)), .row true (.a64 (put rfP 0 ((nth rfP 0) - 1#64))), .row true (.a64 (zz.2))]⟩) (fun j5 => (j5, fieldRootsP_L5 j5)) (4) (by kernel_rfl) ?_ ?_
  · intro j5 hj5
    try dsimp only
    have hX2 : (fieldRootsP_L5 j5).length = 4 := by rw [fieldRootsP_L5_len _]; try omega
    have hhalf : j5 = 4 → leS (rB (fieldRootsP_L5 j5)) 32 = eHalf := by intro h; rw [h]; decide +kernel
    rw [fieldRootsP_L5.eq_2, fieldRootsP_L5_S]
    generalize fieldRootsP_L5 j5 = X2 at *
    refine S_ ?_
    refine c_region ?_
    refine s_val (v_moveC rfl) rfl ?_
    refine s_val (v_lssN (b := 4) rfl rfl) rfl ?_
    refine s_nil ?_
    refine S_ ?_
    refine c_region ?_
    refine s_val (v_moveC rfl) rfl ?_
    refine s_val (v_moveC rfl) rfl ?_
    refine s_val (v_idxA1 rfl rfl Try.underlying32 sz_25 (by omega)) rfl ?_
    refine s_val (v_load64 rfl rfl row_25 LT_) rfl ?_
    refine s_val (v_shr64n (j := 1) rfl rfl) rfl ?_
    refine s_val (v_idxA1 rfl rfl Try.underlying32 sz_25 (by omega)) rfl ?_
    refine s_store64 rfl rfl rfl sz_25 LT_ SET_ ?_
    refine s_nil ?_
    refine S_ ?_
    refine c_region ?_
    refine s_val (v_moveC rfl) rfl ?_
    refine s_val (v_lssN (b := 3) rfl rfl) rfl ?_
    refine s_nil ?_
    refine Q_ ?_
    refine c_join [1, 3, 4, 5] (fun (zz : List (BitVec 64)) => ⟨106, keepT [1, 3, 4, 5] [.c (.ptr 0 0), .c (.ptr 1 0), .c (.ptr 2 0), .c (.val (.int .i64 (((j5 : Nat) : Int))))], [.row true (.a8 (a)), .row true (.a64 (put rfP 0 ((nth rfP 0) - 1#64))), .row true (.a64 (zz))]⟩) (if j5 < 3 then put (put X2 j5 ((nth (put rfP 0 ((nth rfP 0) - 1#64)) j5) >>> 1)) j5 ((nth (put X2 j5 ((nth (put rfP 0 ((nth rfP 0) - 1#64)) j5) >>> 1)) j5) ||| ((nth (put rfP 0 ((nth rfP 0) - 1#64)) (j5 + 1)) <<< 63)) else put X2 j5 ((nth (put rfP 0 ((nth rfP 0) - 1#64)) j5) >>> 1)) rfl (fun hb => ?_) (fun hb => ?_) ?_
    · -- the test is True
      have hb_ := of_decide_eq_true hb
      refine S_ ?_
      refine c_draw 10 mixed (by kernel_rfl) rfl rfl rfl ?_
      refine h_val (v_moveC rfl) rfl ?_
      refine h_val (v_idxA1 rfl rfl Try.underlying32 sz_25 (by omega)) rfl ?_
      refine h_val (v_load64 rfl rfl row_25 LT_) rfl ?_
      refine h_val (v_moveC rfl) rfl ?_
      refine h_val (v_addN (b := 1) rfl rfl (by omega)) rfl ?_
      refine h_val (v_idxA1 rfl rfl Try.underlying32 sz_25 (by omega)) rfl ?_
      refine h_val (v_load64 rfl rfl row_25 LT_) rfl ?_
      refine h_val (v_shl64n (j := 63) rfl rfl) rfl ?_
      refine h_val (v_or64 rfl rfl) rfl ?_
      refine h_val (v_idxA1 rfl rfl Try.underlying32 sz_25 (by omega)) rfl ?_
      refine h_nil ?_
      refine s_store64 rfl rfl rfl sz_25 LT_ SET_ ?_
      refine s_nil ?_
      refine S_ ?_
      refine ⟨(put (put X2 j5 ((nth (put rfP 0 ((nth rfP 0) - 1#64)) j5) >>> 1)) j5 ((nth (put X2 j5 ((nth (put rfP 0 ((nth rfP 0) - 1#64)) j5) >>> 1)) j5) ||| ((nth (put rfP 0 ((nth rfP 0) - 1#64)) (j5 + 1)) <<< 63))), by kernel_rfl, ?_⟩
      rw [if_pos (of_decide_eq_true hb)]
    · -- the test is False
      have hb_ := of_decide_eq_false hb
      refine S_ ?_
      refine ⟨(put X2 j5 ((nth (put rfP 0 ((nth rfP 0) - 1#64)) j5) >>> 1)), by kernel_rfl, ?_⟩
      rw [if_neg (of_decide_eq_false hb)]
    have hJ3 : (if j5 < 3 then put (put X2 j5 ((nth (put rfP 0 ((nth rfP 0) - 1#64)) j5) >>> 1)) j5 ((nth (put X2 j5 ((nth (put rfP 0 ((nth rfP 0) - 1#64)) j5) >>> 1)) j5) ||| ((nth (put rfP 0 ((nth rfP 0) - 1#64)) (j5 + 1)) <<< 63)) else put X2 j5 ((nth (put rfP 0 ((nth rfP 0) - 1#64)) j5) >>> 1)).length = 4 := by split <;> simp [*]
    generalize (if j5 < 3 then put (put X2 j5 ((nth (put rfP 0 ((nth rfP 0) - 1#64)) j5) >>> 1)) j5 ((nth (put X2 j5 ((nth (put rfP 0 ((nth rfP 0) - 1#64)) j5) >>> 1)) j5) ||| ((nth (put rfP 0 ((nth rfP 0) - 1#64)) (j5 + 1)) <<< 63)) else put X2 j5 ((nth (put rfP 0 ((nth rfP 0) - 1#64)) j5) >>> 1)) = J3 at *
    refine S_ ?_
    refine c_region ?_
    refine s_val (v_moveC rfl) rfl ?_
    refine s_val (v_addN (b := 1) rfl rfl (by omega)) rfl ?_
    refine s_val (v_assignC rfl) rfl ?_
    refine s_nil ?_
    exact ⟨(j5 + 1, _), by kernel_rfl, rfl⟩
  · try dsimp only
    have hY4 : (fieldRootsP_L5 4).length = 4 := by rw [fieldRootsP_L5_len _]; try omega
    have hhalf : 4 = 4 → leS (rB (fieldRootsP_L5 4)) 32 = eHalf := by intro h; rw [h]; decide +kernel
    generalize fieldRootsP_L5 4 = Y4 at *
    refine S_ ?_
    refine c_region ?_
    refine s_val (v_moveC rfl) rfl ?_
    refine s_val (v_lssN (a := 4) (b := 4) rfl rfl) rfl ?_
    refine s_nil ?_
    have hQ6 : (fRoot a).length = 32 := LQ_
    have hE5 : (fRootIs a) = true := hroot
    refine S_ ?_
    refine c_region ?_
    refine s_val (v_loadR rfl rfl row_22 sz_22 EQ_ (by decide)) rfl ?_
    refine s_evN (e_callR (bs := []) (fRoot_ev a HYP_) ok_21 (by kernel_rfl) (by kernel_rfl) rfl VAL_) APP_ rfl ?_
    refine s_val (v_moveT rfl) rfl ?_
    refine s_val (v_extract rfl rfl) rfl ?_
    refine s_val (v_bool (v_extract rfl rfl) hE5) rfl ?_
    refine s_memN (m_alloc al_22 LEN_) APP_ rfl ?_
    refine s_storeR rfl rfl rfl rfl sz_22 EQ_ EQ_ SET_ ?_
    refine s_val (v_assignC rfl) rfl ?_
    refine s_nil ?_
    have hQ7 : (rB Y4).length = 32 := LQ_
    have hQ8 : (fPow a (rB Y4)).length = 32 := LQ_
    refine S_ ?_
    refine c_draw 5 mixed (by kernel_rfl) rfl rfl rfl ?_
    refine h_val (v_loadR rfl rfl row_22 sz_22 EQ_ (by decide)) rfl ?_
    refine h_val (v_loadR rfl rfl row_32 sz_32 EQ_ (by decide)) rfl ?_
    refine h_evN (e_callR (bs := []) (rB_ev Y4 HYP_) ok_18 (by kernel_rfl) (by kernel_rfl) rfl VAL_) APP_ rfl ?_
    refine h_evN (e_callR (bs := []) (fPow_ev a (rB Y4) HYP_ HYP_) ok_17 (by kernel_rfl) (by kernel_rfl) rfl VAL_) APP_ rfl ?_
    refine h_memN (m_alloc al_22 LEN_) APP_ rfl ?_
    refine h_nil ?_
    refine s_storeR rfl rfl rfl rfl sz_22 EQ_ EQ_ SET_ ?_
    refine s_nil ?_
    have hQ10 : (fMod a).length = 32 := LQ_
    have hQ11 : (fSmall 0#64).length = 32 := LQ_
    have hE9 : (decide (fMod a = fSmall 0#64)) = false := decide_eq_false (by simp only [fMod, fSmall, F_inj, zs0]; exact hz)
    refine S_ ?_
    refine c_region ?_
    refine s_val (v_loadR rfl rfl row_22 sz_22 EQ_ (by decide)) rfl ?_
    refine s_evN (e_callR (bs := []) (fMod_ev a HYP_) ok_12 (by kernel_rfl) (by kernel_rfl) rfl VAL_) APP_ rfl ?_
    refine s_evN (e_callR (bs := []) (fSmall_ev 0#64) ok_13 (by kernel_rfl) (by kernel_rfl) rfl VAL_) APP_ rfl ?_
    refine s_val (v_bool (v_eqlR8 rfl rfl Try.underlying22 Try.underlying5 sz_5 EQ_ EQ_) hE9) rfl ?_
    refine s_val (v_assignC rfl) rfl ?_
    refine s_nil ?_
    have hQ14 : (fSmall 1#64).length = 32 := LQ_
    have hE12 : (decide (fPow a (rB Y4) = fSmall 1#64)) = true := decide_eq_true (by simp only [fPow, fSmall, F_inj, zs1, hhalf]; exact he)
    have hE13 : (!decide (fPow a (rB Y4) = fSmall 1#64)) = false := by rw [decide_eq_true (by simp only [fPow, fSmall, F_inj, zs1, hhalf]; exact he)]; rfl
    refine S_ ?_
    refine c_draw 24 mixed (by kernel_rfl) rfl rfl rfl ?_
    refine h_val (v_moveC rfl) rfl ?_
    refine h_val (v_moveC rfl) rfl ?_
    refine h_val (v_moveC rfl) rfl ?_
    refine h_go GO_ ?_
    refine h_val (v_loadR rfl rfl row_22 sz_22 EQ_ (by decide)) rfl ?_
    refine h_go GO_ ?_
    refine h_evN (e_callR (bs := []) (fSmall_ev 1#64) ok_13 (by kernel_rfl) (by kernel_rfl) rfl VAL_) APP_ rfl ?_
    refine h_go GO_ ?_
    refine h_val (v_bool (v_eqlR8 rfl rfl Try.underlying22 Try.underlying5 sz_5 EQ_ EQ_) hE12) rfl ?_
    refine h_val (v_pickF rfl PK_ rfl) rfl ?_
    refine h_val (v_neqB rfl rfl Try.underlying4) rfl ?_
    refine h_val (v_moveC rfl) rfl ?_
    refine h_go GO_ ?_
    refine h_val (v_moveC rfl) rfl ?_
    refine h_go GO_ ?_
    refine h_val (v_unnotB rfl) rfl ?_
    refine h_go GO_ ?_
    refine h_val (v_moveC rfl) rfl ?_
    refine h_go GO_ ?_
    refine h_val (v_loadR rfl rfl row_22 sz_22 EQ_ (by decide)) rfl ?_
    refine h_go GO_ ?_
    refine h_evN (e_callR (bs := []) (fSmall_ev 1#64) ok_13 (by kernel_rfl) (by kernel_rfl) rfl VAL_) APP_ rfl ?_
    refine h_go GO_ ?_
    refine h_val (v_bool (v_neqR8 rfl rfl Try.underlying22 Try.underlying5 sz_5 EQ_ EQ_) hE13) rfl ?_
    refine h_go GO_ ?_
    refine h_val (v_pickT rfl PK_ rfl) rfl ?_
    refine h_go GO_ ?_
    refine h_val (v_moveC rfl) rfl ?_
    refine h_no GO_ ?_
    refine h_no GO_ ?_
    refine h_no GO_ ?_
    refine h_no GO_ ?_
    refine h_no GO_ ?_
    refine h_go GO_ ?_
    refine h_val (v_pickF rfl PK_ rfl) rfl ?_
    refine h_val (v_pickF rfl PK_ rfl) rfl ?_
    refine h_nil ?_
    refine s_nil ?_
    refine S_ ?_
    refine c_region ?_
    refine s_val (v_moveC rfl) rfl ?_
    refine s_val (v_unnotB rfl) rfl ?_
    refine s_nil ?_
    have hQ17 : (fMul (fRoot a) (fRoot a)).length = 32 := LQ_
    have hQ18 : (fMod a).length = 32 := LQ_
    have hE15 : (decide (fMul (fRoot a) (fRoot a) = fMod a)) = true := decide_eq_true (by simp only [fMul, fMod, F_inj]; exact root_sq_of hroot)
    have hE16 : ((((nth (fRoot a) 0) % 2#8) == 0#8)) = true := fRoot_even _
    refine S_ ?_
    refine c_draw 25 mixed (by kernel_rfl) rfl rfl rfl ?_
    refine h_val (v_loadR rfl rfl row_22 sz_22 EQ_ (by decide)) rfl ?_
    refine h_val (v_loadR rfl rfl row_22 sz_22 EQ_ (by decide)) rfl ?_
    refine h_evN (e_callR (bs := []) (fMul_ev (fRoot a) (fRoot a) HYP_ HYP_) ok_16 (by kernel_rfl) (by kernel_rfl) rfl VAL_) APP_ rfl ?_
    refine h_val (v_loadR rfl rfl row_22 sz_22 EQ_ (by decide)) rfl ?_
    refine h_evN (e_callR (bs := []) (fMod_ev a HYP_) ok_12 (by kernel_rfl) (by kernel_rfl) rfl VAL_) APP_ rfl ?_
    refine h_val (v_bool (v_eqlR8 rfl rfl Try.underlying22 Try.underlying5 sz_5 EQ_ EQ_) hE15) rfl ?_
    refine h_val (v_moveC rfl) rfl ?_
    refine h_go GO_ ?_
    refine h_val (v_idxA1 (j := 0) rfl rfl Try.underlying22 sz_5 (by omega)) rfl ?_
    refine h_go GO_ ?_
    refine h_val (v_load8 rfl rfl row_5 LT_) rfl ?_
    refine h_go GO_ ?_
    refine h_val (v_rem8 (b := 2#8) rfl rfl (by first | decide | assumption)) rfl ?_
    refine h_go GO_ ?_
    refine h_val (v_bool (v_eql8 (b := 0#8) rfl rfl) hE16) rfl ?_
    refine h_val (v_pickT rfl PK_ rfl) rfl ?_
    refine h_val (v_moveC rfl) rfl ?_
    refine h_go GO_ ?_
    refine h_val (v_moveC rfl) rfl ?_
    refine h_go GO_ ?_
    refine h_val (v_unnotB rfl) rfl ?_
    refine h_go GO_ ?_
    refine h_val (v_moveC rfl) rfl ?_
    refine h_no GO_ ?_
    refine h_no GO_ ?_
    refine h_no GO_ ?_
    refine h_go GO_ ?_
    refine h_val (v_pickT rfl PK_ rfl) rfl ?_
    refine h_val (v_pickT rfl PK_ rfl) rfl ?_
    refine h_val (v_moveC rfl) rfl ?_
    refine h_go GO_ ?_
    refine h_evN (e_callR (wakes_ev) ok_15 rfl rfl rfl VAL_) APP_ rfl ?_
    refine h_val (v_pickT rfl PK_ rfl) rfl ?_
    refine h_val (v_assignC rfl) rfl ?_
    refine h_nil ?_
    refine s_nil ?_
    refine S_ ?_
    exact k_1 (by first | exact r_tmpC rfl | exact r_tmpA rfl) (by first | kernel_rfl | rfl)

def fieldRootsM_L5_S (X2 : List (BitVec 64)) (j5 : Nat) : List (BitVec 64) := (if j5 < 3 then put (put X2 j5 ((nth (put rfP 0 ((nth rfP 0) - 1#64)) j5) >>> 1)) j5 ((nth (put X2 j5 ((nth (put rfP 0 ((nth rfP 0) - 1#64)) j5) >>> 1)) j5) ||| ((nth (put rfP 0 ((nth rfP 0) - 1#64)) (j5 + 1)) <<< 63)) else put X2 j5 ((nth (put rfP 0 ((nth rfP 0) - 1#64)) j5) >>> 1))
def fieldRootsM_L5  : Nat → List (BitVec 64)
  | 0 => zer64 4
  | j5 + 1 => fieldRootsM_L5_S (fieldRootsM_L5 j5) j5
@[simp] theorem fieldRootsM_L5_len  (j5 : Nat) : (fieldRootsM_L5 j5).length = 4 := by
  induction j5 with
  | zero => first | (simp [fieldRootsM_L5, *]; done) | (simp [fieldRootsM_L5, *]; omega)
  | succ j5 ih => rw [fieldRootsM_L5.eq_2, fieldRootsM_L5_S]; first | (simp [ih]; done) | (simp [ih]; omega) | (simp [*]; done) | (simp [*]; omega) | (split <;> first | (simp [ih]; done) | (simp [ih]; omega) | (simp [*]; done))
set_option maxRecDepth 100000 in
set_option maxHeartbeats 2000000 in
theorem fieldRootsM_ev (a : List (BitVec 8)) (ha : a.length = 32) (hz : Z a ≠ 0) (hroot : fRootIs a = false) (he : Z a ^ eHalf ≠ 1) (hm : Z a ^ eHalf + 1 = 0) : Ev Try.prog (.call 10 [.agg (.a8 (a))] []) (.val (.c (.val (.bool (true)))) []) := by
  refine c_call Try.func10 rfl Try.ntmps10 rfl LEN_ ?_
  refine S_ ?_
  refine c_region ?_
  refine s_memN (m_box BX_ LEN_) APP_ rfl ?_
  refine s_val (v_assignC rfl) rfl ?_
  refine s_nil ?_
  have hQ1 : (rfP).length = 4 := LQ_
  refine S_ ?_
  refine c_region ?_
  refine s_evN (e_callR (bs := []) (rfP_ev) ok_19 (by kernel_rfl) (by kernel_rfl) rfl VAL_) APP_ rfl ?_
  refine s_memN (m_alloc al_32 LEN_) APP_ rfl ?_
  refine s_storeR rfl rfl rfl rfl sz_32 EQ_ EQ_ SET_ ?_
  refine s_nil ?_
  refine S_ ?_
  refine c_region ?_
  refine s_memN (m_alloc al_32 LEN_) APP_ rfl ?_
  refine s_nil ?_
  refine S_ ?_
  refine c_region ?_
  refine s_val (v_idxA1 (j := 0) rfl rfl Try.underlying32 sz_25 (by omega)) rfl ?_
  refine s_val (v_load64 rfl rfl row_25 LT_) rfl ?_
  refine s_val (v_sub64 (b := 1#64) rfl rfl) rfl ?_
  refine s_val (v_idxA1 (j := 0) rfl rfl Try.underlying32 sz_25 (by omega)) rfl ?_
  refine s_store64 rfl rfl rfl sz_25 LT_ SET_ ?_
  refine s_nil ?_
  refine S_ ?_
  refine c_region ?_
  refine s_val (v_assignC rfl) rfl ?_
  refine s_nil ?_
  refine S_ ?_
  refine c_loopC [1, 3, 4, 5] (fun (zz : Nat × List (BitVec 64)) => ⟨106, keepT [1, 3, 4, 5] [.c (.ptr 0 0), .c (.ptr 1 0), .c (.ptr 2 0), .c (.val (.int .i64 (((zz.1 : Nat) : Int))))], [.row true (.a8 (a)), .row true (.a64 (put rfP 0 ((nth rfP 0) - 1#64))), .row true (.a64 (zz.2))]⟩) (fun j5 => (j5, fieldRootsM_L5 j5)) (4) (by kernel_rfl) ?_ ?_
  · intro j5 hj5
    try dsimp only
    have hX2 : (fieldRootsM_L5 j5).length = 4 := by rw [fieldRootsM_L5_len _]; try omega
    have hhalf : j5 = 4 → leS (rB (fieldRootsM_L5 j5)) 32 = eHalf := by intro h; rw [h]; decide +kernel
    rw [fieldRootsM_L5.eq_2, fieldRootsM_L5_S]
    generalize fieldRootsM_L5 j5 = X2 at *
    refine S_ ?_
    refine c_region ?_
    refine s_val (v_moveC rfl) rfl ?_
    refine s_val (v_lssN (b := 4) rfl rfl) rfl ?_
    refine s_nil ?_
    refine S_ ?_
    refine c_region ?_
    refine s_val (v_moveC rfl) rfl ?_
    refine s_val (v_moveC rfl) rfl ?_
    refine s_val (v_idxA1 rfl rfl Try.underlying32 sz_25 (by omega)) rfl ?_
    refine s_val (v_load64 rfl rfl row_25 LT_) rfl ?_
    refine s_val (v_shr64n (j := 1) rfl rfl) rfl ?_
    refine s_val (v_idxA1 rfl rfl Try.underlying32 sz_25 (by omega)) rfl ?_
    refine s_store64 rfl rfl rfl sz_25 LT_ SET_ ?_
    refine s_nil ?_
    refine S_ ?_
    refine c_region ?_
    refine s_val (v_moveC rfl) rfl ?_
    refine s_val (v_lssN (b := 3) rfl rfl) rfl ?_
    refine s_nil ?_
    refine Q_ ?_
    refine c_join [1, 3, 4, 5] (fun (zz : List (BitVec 64)) => ⟨106, keepT [1, 3, 4, 5] [.c (.ptr 0 0), .c (.ptr 1 0), .c (.ptr 2 0), .c (.val (.int .i64 (((j5 : Nat) : Int))))], [.row true (.a8 (a)), .row true (.a64 (put rfP 0 ((nth rfP 0) - 1#64))), .row true (.a64 (zz))]⟩) (if j5 < 3 then put (put X2 j5 ((nth (put rfP 0 ((nth rfP 0) - 1#64)) j5) >>> 1)) j5 ((nth (put X2 j5 ((nth (put rfP 0 ((nth rfP 0) - 1#64)) j5) >>> 1)) j5) ||| ((nth (put rfP 0 ((nth rfP 0) - 1#64)) (j5 + 1)) <<< 63)) else put X2 j5 ((nth (put rfP 0 ((nth rfP 0) - 1#64)) j5) >>> 1)) rfl (fun hb => ?_) (fun hb => ?_) ?_
    · -- the test is True
      have hb_ := of_decide_eq_true hb
      refine S_ ?_
      refine c_draw 10 mixed (by kernel_rfl) rfl rfl rfl ?_
      refine h_val (v_moveC rfl) rfl ?_
      refine h_val (v_idxA1 rfl rfl Try.underlying32 sz_25 (by omega)) rfl ?_
      refine h_val (v_load64 rfl rfl row_25 LT_) rfl ?_
      refine h_val (v_moveC rfl) rfl ?_
      refine h_val (v_addN (b := 1) rfl rfl (by omega)) rfl ?_
      refine h_val (v_idxA1 rfl rfl Try.underlying32 sz_25 (by omega)) rfl ?_
      refine h_val (v_load64 rfl rfl row_25 LT_) rfl ?_
      refine h_val (v_shl64n (j := 63) rfl rfl) rfl ?_
      refine h_val (v_or64 rfl rfl) rfl ?_
      refine h_val (v_idxA1 rfl rfl Try.underlying32 sz_25 (by omega)) rfl ?_
      refine h_nil ?_
      refine s_store64 rfl rfl rfl sz_25 LT_ SET_ ?_
      refine s_nil ?_
      refine S_ ?_
      refine ⟨(put (put X2 j5 ((nth (put rfP 0 ((nth rfP 0) - 1#64)) j5) >>> 1)) j5 ((nth (put X2 j5 ((nth (put rfP 0 ((nth rfP 0) - 1#64)) j5) >>> 1)) j5) ||| ((nth (put rfP 0 ((nth rfP 0) - 1#64)) (j5 + 1)) <<< 63))), by kernel_rfl, ?_⟩
      rw [if_pos (of_decide_eq_true hb)]
    · -- the test is False
      have hb_ := of_decide_eq_false hb
      refine S_ ?_
      refine ⟨(put X2 j5 ((nth (put rfP 0 ((nth rfP 0) - 1#64)) j5) >>> 1)), by kernel_rfl, ?_⟩
      rw [if_neg (of_decide_eq_false hb)]
    have hJ3 : (if j5 < 3 then put (put X2 j5 ((nth (put rfP 0 ((nth rfP 0) - 1#64)) j5) >>> 1)) j5 ((nth (put X2 j5 ((nth (put rfP 0 ((nth rfP 0) - 1#64)) j5) >>> 1)) j5) ||| ((nth (put rfP 0 ((nth rfP 0) - 1#64)) (j5 + 1)) <<< 63)) else put X2 j5 ((nth (put rfP 0 ((nth rfP 0) - 1#64)) j5) >>> 1)).length = 4 := by split <;> simp [*]
    generalize (if j5 < 3 then put (put X2 j5 ((nth (put rfP 0 ((nth rfP 0) - 1#64)) j5) >>> 1)) j5 ((nth (put X2 j5 ((nth (put rfP 0 ((nth rfP 0) - 1#64)) j5) >>> 1)) j5) ||| ((nth (put rfP 0 ((nth rfP 0) - 1#64)) (j5 + 1)) <<< 63)) else put X2 j5 ((nth (put rfP 0 ((nth rfP 0) - 1#64)) j5) >>> 1)) = J3 at *
    refine S_ ?_
    refine c_region ?_
    refine s_val (v_moveC rfl) rfl ?_
    refine s_val (v_addN (b := 1) rfl rfl (by omega)) rfl ?_
    refine s_val (v_assignC rfl) rfl ?_
    refine s_nil ?_
    exact ⟨(j5 + 1, _), by kernel_rfl, rfl⟩
  · try dsimp only
    have hY4 : (fieldRootsM_L5 4).length = 4 := by rw [fieldRootsM_L5_len _]; try omega
    have hhalf : 4 = 4 → leS (rB (fieldRootsM_L5 4)) 32 = eHalf := by intro h; rw [h]; decide +kernel
    generalize fieldRootsM_L5 4 = Y4 at *
    refine S_ ?_
    refine c_region ?_
    refine s_val (v_moveC rfl) rfl ?_
    refine s_val (v_lssN (a := 4) (b := 4) rfl rfl) rfl ?_
    refine s_nil ?_
    have hQ6 : (fRoot a).length = 32 := LQ_
    have hE5 : (fRootIs a) = false := hroot
    refine S_ ?_
    refine c_region ?_
    refine s_val (v_loadR rfl rfl row_22 sz_22 EQ_ (by decide)) rfl ?_
    refine s_evN (e_callR (bs := []) (fRoot_ev a HYP_) ok_21 (by kernel_rfl) (by kernel_rfl) rfl VAL_) APP_ rfl ?_
    refine s_val (v_moveT rfl) rfl ?_
    refine s_val (v_extract rfl rfl) rfl ?_
    refine s_val (v_bool (v_extract rfl rfl) hE5) rfl ?_
    refine s_memN (m_alloc al_22 LEN_) APP_ rfl ?_
    refine s_storeR rfl rfl rfl rfl sz_22 EQ_ EQ_ SET_ ?_
    refine s_val (v_assignC rfl) rfl ?_
    refine s_nil ?_
    have hQ7 : (rB Y4).length = 32 := LQ_
    have hQ8 : (fPow a (rB Y4)).length = 32 := LQ_
    refine S_ ?_
    refine c_draw 5 mixed (by kernel_rfl) rfl rfl rfl ?_
    refine h_val (v_loadR rfl rfl row_22 sz_22 EQ_ (by decide)) rfl ?_
    refine h_val (v_loadR rfl rfl row_32 sz_32 EQ_ (by decide)) rfl ?_
    refine h_evN (e_callR (bs := []) (rB_ev Y4 HYP_) ok_18 (by kernel_rfl) (by kernel_rfl) rfl VAL_) APP_ rfl ?_
    refine h_evN (e_callR (bs := []) (fPow_ev a (rB Y4) HYP_ HYP_) ok_17 (by kernel_rfl) (by kernel_rfl) rfl VAL_) APP_ rfl ?_
    refine h_memN (m_alloc al_22 LEN_) APP_ rfl ?_
    refine h_nil ?_
    refine s_storeR rfl rfl rfl rfl sz_22 EQ_ EQ_ SET_ ?_
    refine s_nil ?_
    have hQ10 : (fMod a).length = 32 := LQ_
    have hQ11 : (fSmall 0#64).length = 32 := LQ_
    have hE9 : (decide (fMod a = fSmall 0#64)) = false := decide_eq_false (by simp only [fMod, fSmall, F_inj, zs0]; exact hz)
    refine S_ ?_
    refine c_region ?_
    refine s_val (v_loadR rfl rfl row_22 sz_22 EQ_ (by decide)) rfl ?_
    refine s_evN (e_callR (bs := []) (fMod_ev a HYP_) ok_12 (by kernel_rfl) (by kernel_rfl) rfl VAL_) APP_ rfl ?_
    refine s_evN (e_callR (bs := []) (fSmall_ev 0#64) ok_13 (by kernel_rfl) (by kernel_rfl) rfl VAL_) APP_ rfl ?_
    refine s_val (v_bool (v_eqlR8 rfl rfl Try.underlying22 Try.underlying5 sz_5 EQ_ EQ_) hE9) rfl ?_
    refine s_val (v_assignC rfl) rfl ?_
    refine s_nil ?_
    have hQ15 : (fSmall 1#64).length = 32 := LQ_
    have hQ16 : (fAdd (fPow a (rB Y4)) (fSmall 1#64)).length = 32 := LQ_
    have hQ17 : (fSmall 0#64).length = 32 := LQ_
    have hE12 : (decide (fPow a (rB Y4) = fSmall 1#64)) = false := decide_eq_false (by simp only [fPow, fSmall, F_inj, zs1, hhalf]; exact he)
    have hE13 : (!decide (fPow a (rB Y4) = fSmall 1#64)) = true := by rw [decide_eq_false (by simp only [fPow, fSmall, F_inj, zs1, hhalf]; exact he)]; rfl
    have hE14 : (!decide (fAdd (fPow a (rB Y4)) (fSmall 1#64) = fSmall 0#64)) = false := by rw [decide_eq_true (by simp only [fAdd, fPow, fSmall, F_inj, Z_F, zs0, zs1, hhalf]; exact hm)]; rfl
    refine S_ ?_
    refine c_draw 24 mixed (by kernel_rfl) rfl rfl rfl ?_
    refine h_val (v_moveC rfl) rfl ?_
    refine h_val (v_moveC rfl) rfl ?_
    refine h_val (v_moveC rfl) rfl ?_
    refine h_go GO_ ?_
    refine h_val (v_loadR rfl rfl row_22 sz_22 EQ_ (by decide)) rfl ?_
    refine h_go GO_ ?_
    refine h_evN (e_callR (bs := []) (fSmall_ev 1#64) ok_13 (by kernel_rfl) (by kernel_rfl) rfl VAL_) APP_ rfl ?_
    refine h_go GO_ ?_
    refine h_val (v_bool (v_eqlR8 rfl rfl Try.underlying22 Try.underlying5 sz_5 EQ_ EQ_) hE12) rfl ?_
    refine h_val (v_pickF rfl PK_ rfl) rfl ?_
    refine h_val (v_neqB rfl rfl Try.underlying4) rfl ?_
    refine h_val (v_moveC rfl) rfl ?_
    refine h_go GO_ ?_
    refine h_val (v_moveC rfl) rfl ?_
    refine h_go GO_ ?_
    refine h_val (v_unnotB rfl) rfl ?_
    refine h_go GO_ ?_
    refine h_val (v_moveC rfl) rfl ?_
    refine h_go GO_ ?_
    refine h_val (v_loadR rfl rfl row_22 sz_22 EQ_ (by decide)) rfl ?_
    refine h_go GO_ ?_
    refine h_evN (e_callR (bs := []) (fSmall_ev 1#64) ok_13 (by kernel_rfl) (by kernel_rfl) rfl VAL_) APP_ rfl ?_
    refine h_go GO_ ?_
    refine h_val (v_bool (v_neqR8 rfl rfl Try.underlying22 Try.underlying5 sz_5 EQ_ EQ_) hE13) rfl ?_
    refine h_go GO_ ?_
    refine h_val (v_pickT rfl PK_ rfl) rfl ?_
    refine h_go GO_ ?_
    refine h_val (v_moveC rfl) rfl ?_
    refine h_go GO_ ?_
    refine h_val (v_loadR rfl rfl row_22 sz_22 EQ_ (by decide)) rfl ?_
    refine h_go GO_ ?_
    refine h_evN (e_callR (bs := []) (fSmall_ev 1#64) ok_13 (by kernel_rfl) (by kernel_rfl) rfl VAL_) APP_ rfl ?_
    refine h_go GO_ ?_
    refine h_evN (e_callR (bs := []) (fAdd_ev (fPow a (rB Y4)) (fSmall 1#64) HYP_ HYP_) ok_25 (by kernel_rfl) (by kernel_rfl) rfl VAL_) APP_ rfl ?_
    refine h_go GO_ ?_
    refine h_evN (e_callR (bs := []) (fSmall_ev 0#64) ok_13 (by kernel_rfl) (by kernel_rfl) rfl VAL_) APP_ rfl ?_
    refine h_go GO_ ?_
    refine h_val (v_bool (v_neqR8 rfl rfl Try.underlying22 Try.underlying5 sz_5 EQ_ EQ_) hE14) rfl ?_
    refine h_go GO_ ?_
    refine h_val (v_pickT rfl PK_ rfl) rfl ?_
    refine h_val (v_pickF rfl PK_ rfl) rfl ?_
    refine h_nil ?_
    refine s_nil ?_
    refine S_ ?_
    refine c_region ?_
    refine s_val (v_moveC rfl) rfl ?_
    refine s_val (v_unnotB rfl) rfl ?_
    refine s_nil ?_
    have hE18 : (decide (fRoot a = zer8 32)) = true := decide_eq_true (root_none_of hroot)
    refine S_ ?_
    refine c_region ?_
    refine s_val (v_loadR rfl rfl row_22 sz_22 EQ_ (by decide)) rfl ?_
    refine s_val (v_blf8 (l := (zer8 32)) za_22 Try.underlying22 sz_5 rfl rfl) rfl ?_
    refine s_val (v_bool (v_eqlR8 rfl rfl Try.underlying22 Try.underlying5 sz_5 EQ_ EQ_) hE18) rfl ?_
    refine s_val (v_moveC rfl) rfl ?_
    refine s_go GO_ ?_
    refine s_evN (e_callR (wakes_ev) ok_15 rfl rfl rfl VAL_) APP_ rfl ?_
    refine s_val (v_pickT rfl PK_ rfl) rfl ?_
    refine s_val (v_assignC rfl) rfl ?_
    refine s_nil ?_
    refine S_ ?_
    exact k_1 (by first | exact r_tmpC rfl | exact r_tmpA rfl) (by first | kernel_rfl | rfl)
theorem minus_one {u : Fp} (h : u = -1) : u ≠ 1 ∧ u + 1 = 0 := by
  refine ⟨fun e => ?_, by rw [h]; grobner⟩
  rw [h] at e
  revert e
  decide +kernel
theorem fieldRoots_ev (a : List (BitVec 8)) (ha : a.length = 32) : Ev Try.prog (.call 10 [.agg (.a8 (a))] []) (.val (.c (.val (.bool (true)))) []) := by
  by_cases h : Z a = 0
  · refine fieldRootsZ_ev a ha h ((rootIs_iff a).2 (.inl h)) ?_
    obtain ⟨k, hk⟩ := eHalf_pos
    rw [h, hk, zero_powF]
    exact fun e => one_neF e.symm
  · rcases half_pow h with h1 | h1
    · exact fieldRootsP_ev a ha h ((rootIs_iff a).2 (.inr h1)) h1
    · obtain ⟨g1, g2⟩ := minus_one h1
      refine fieldRootsM_ev a ha h ?_ g1 g2
      cases hr : fRootIs a with
      | false => rfl
      | true => rcases (rootIs_iff a).1 hr with h2 | h2
                · exact absurd h2 h
                · exact absurd h2 g1
end Go.Proofs.Ytigdadgdeiaodaa
