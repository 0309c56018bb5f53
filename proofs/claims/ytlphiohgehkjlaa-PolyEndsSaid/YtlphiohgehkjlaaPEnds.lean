/- trystlaw04.PolyEnds (Drawn up by a program.) -/
import Derived.Test.YtlphiohgehkjlaaPLawExact
import Derived.Test.YtlphiohgehkjlaaPDigits
namespace Go.Proofs.Ytlphiohgehkjlaa
open Go.RowKit
def polyEnds_L8_S (X3 : List (BitVec 8)) (j8 : Nat) : List (BitVec 8) := put X3 j8 0#8
def polyEnds_L8 (key : List (BitVec 8)) : Nat → List (BitVec 8)
  | 0 => key
  | j8 + 1 => polyEnds_L8_S (polyEnds_L8 key j8) j8
theorem polyEnds_L8_len (key : List (BitVec 8)) (hkey : key.length = 32) (j8 : Nat) : (polyEnds_L8 key j8).length = 32 := by
  induction j8 with
  | zero => simp [polyEnds_L8, *]
  | succ j8 ih => rw [polyEnds_L8.eq_2, polyEnds_L8_S]; first | (simp [ih]; done) | (simp [ih]; omega) | (simp [*]; done) | (split <;> first | (simp [ih]; done) | (simp [ih]; omega) | (simp [*]; done))
def polyEnds_L24_S (X8 : List (BitVec 8)) (j24 : Nat) : List (BitVec 8) := put X8 (16 + j24) 0#8
def polyEnds_L24 (key : List (BitVec 8)) : Nat → List (BitVec 8)
  | 0 => key
  | j24 + 1 => polyEnds_L24_S (polyEnds_L24 key j24) j24
theorem polyEnds_L24_len (key : List (BitVec 8)) (hkey : key.length = 32) (j24 : Nat) : (polyEnds_L24 key j24).length = 32 := by
  induction j24 with
  | zero => simp [polyEnds_L24, *]
  | succ j24 ih => rw [polyEnds_L24.eq_2, polyEnds_L24_S]; first | (simp [ih]; done) | (simp [ih]; omega) | (simp [polyEnds_L8_len, *]; done) | (split <;> first | (simp [ih]; done) | (simp [ih]; omega) | (simp [polyEnds_L8_len, *]; done))
def polyEnds_L30_S (key : List (BitVec 8)) (t : List (BitVec 8)) (Y9 : List (BitVec 8)) (X11 : Nat) (j30 : Nat) : Nat := ((X11 + ((nth (polyTag Y9 t) j30).toNat)) + ((nth key (16 + j30)).toNat)) / 256
def polyEnds_L30 (key : List (BitVec 8)) (t : List (BitVec 8)) (Y9 : List (BitVec 8)) : Nat → Nat
  | 0 => 0
  | j30 + 1 => polyEnds_L30_S key t Y9 (polyEnds_L30 key t Y9 j30) j30
theorem polyTagN_ev (key : List (BitVec 8)) (hk : key.length = 32) : Ev Try.prog (.call 8 [.agg (.a8 key), .c .nsl] []) (.val (.agg (.a8 (polyTag key []))) []) :=
  Ev.view (m' := [.row false (.a8 [])]) (N := []) (v := .agg (.a8 (polyTag key []))) (fun _ => none) (fun j i h => by cases h) (.agg rfl (.c .nil .nil)) (polyTag_ev key [] 0 0 hk rfl (by decide))
theorem zeros_at (key : List (BitVec 8)) (hk : key.length = 32) : ∀ j, j ≤ 16 → ∀ i, nth (polyEnds_L8 key j) i = if i < j then 0#8 else nth key i := by
  intro j
  induction j with
  | zero => intro _ i; rw [if_neg (by omega)]; rfl
  | succ j ih =>
    intro hj i
    rw [polyEnds_L8.eq_2, polyEnds_L8_S, nth_put _ _ _ _ (by rw [polyEnds_L8_len key hk]; omega), ih (by omega)]
    by_cases h : j = i
    · rw [if_pos h, if_pos (by omega)]
    · rw [if_neg h]
      by_cases h2 : i < j
      · rw [if_pos h2, if_pos (by omega)]
      · rw [if_neg h2, if_neg (by omega)]
theorem plain_at (key : List (BitVec 8)) (hk : key.length = 32) : ∀ j, j ≤ 16 → ∀ i, nth (polyEnds_L24 key j) i = if 16 ≤ i ∧ i < 16 + j then 0#8 else nth key i := by
  intro j
  induction j with
  | zero => intro _ i; rw [if_neg (by omega)]; rfl
  | succ j ih =>
    intro hj i
    rw [polyEnds_L24.eq_2, polyEnds_L24_S, nth_put _ _ _ _ (by rw [polyEnds_L24_len key hk]; omega), ih (by omega)]
    by_cases h : 16 + j = i
    · rw [if_pos h, if_pos (by omega)]
    · rw [if_neg h]
      by_cases h2 : 16 ≤ i ∧ i < 16 + j
      · rw [if_pos h2, if_pos (by omega)]
      · rw [if_neg h2, if_neg (by omega)]
theorem carry_is (key t P : List (BitVec 8)) (hk : key.length = 32) : ∀ j, j ≤ 16 → polyEnds_L30 key t P j = carr (bN (polyTag P t)) (sN key) j := by
  intro j
  induction j with
  | zero => intro _; rw [carr_zero]; rfl
  | succ j ih => intro hj; rw [polyEnds_L30.eq_2, polyEnds_L30_S, ih (by omega), carr_succ, nth_bN, sN_nth key hk j (by omega)]
theorem carry_at (key P t : List (BitVec 8)) (hk : key.length = 32) (j : Nat) (hj : j ≤ 16) : polyEnds_L30 key t P j ≤ 2 := by
  rw [carry_is key t P hk j hj]
  have := carr_le (bN (polyTag P t)) (sN key) j
  omega
theorem digits_at (key P t : List (BitVec 8)) (hk : key.length = 32) (hP : P.length = 32) (h : ∀ i, nth P i = if 16 ≤ i ∧ i < 16 + 16 then 0#8 else nth key i) (j : Nat) (hj : j < 16) :
    nth (polyTag key t) j = BitVec.ofNat 8 ((polyEnds_L30 key t P j + (nth (polyTag P t) j).toNat) + (nth key (16 + j)).toNat) := by
  rw [tag_digit key t _ hk (tag_plain key P t hk hP h) j hj, carry_is key t P hk j (by omega), nth_bN (polyTag P t)]
/-- The bits that do not count. -/
def freeBit (n : Nat) : Prop := n = 28 ∨ n = 29 ∨ n = 30 ∨ n = 31 ∨ n = 32 ∨ n = 33 ∨ n = 60 ∨ n = 61 ∨ n = 62 ∨ n = 63 ∨ n = 64 ∨ n = 65 ∨ n = 92 ∨ n = 93 ∨ n = 94 ∨ n = 95 ∨ n = 96 ∨ n = 97 ∨ n = 124 ∨ n = 125 ∨ n = 126 ∨ n = 127
theorem freeBit_of (x : BitVec 64) : freeBit (ntn [28, 29, 30, 31, 32, 33, 60, 61, 62, 63, 64, 65, 92, 93, 94, 95, 96, 97, 124, 125, 126, 127] ((x % (BitVec.ofNat 64 22)).toNat)) := by
  have h : (x % (BitVec.ofNat 64 22)).toNat < 22 := by rw [BitVec.toNat_umod]; exact Nat.mod_lt _ (by decide)
  generalize (x % (BitVec.ofNat 64 22)).toNat = k at h
  exact (by unfold freeBit; decide : ∀ k, k < 22 → freeBit (ntn [28, 29, 30, 31, 32, 33, 60, 61, 62, 63, 64, 65, 92, 93, 94, 95, 96, 97, 124, 125, 126, 127] k)) k h
/-- Which bits of a byte of the first half count. -/
def maskAt (i : Nat) : BitVec 8 := if i = 3 ∨ i = 7 ∨ i = 11 ∨ i = 15 then 15#8 else if i = 4 ∨ i = 8 ∨ i = 12 then 252#8 else 255#8
theorem all_ones (x : BitVec 8) : x &&& 255#8 = x := BitVec.and_allOnes
theorem rBytes_mask (a b : List (BitVec 8)) (ha : a.length = 32) (hb : b.length = 32) (h : ∀ i, i < 16 → nth a i &&& maskAt i = nth b i &&& maskAt i) : rBytes a = rBytes b := by
  have h0 := h 0 (by omega)
  have h1 := h 1 (by omega)
  have h2 := h 2 (by omega)
  have h3 := h 3 (by omega)
  have h4 := h 4 (by omega)
  have h5 := h 5 (by omega)
  have h6 := h 6 (by omega)
  have h7 := h 7 (by omega)
  have h8 := h 8 (by omega)
  have h9 := h 9 (by omega)
  have h10 := h 10 (by omega)
  have h11 := h 11 (by omega)
  have h12 := h 12 (by omega)
  have h13 := h 13 (by omega)
  have h14 := h 14 (by omega)
  have h15 := h 15 (by omega)
  clear h
  obtain ⟨a0, a1, a2, a3, a4, a5, a6, a7, a8, a9, a10, a11, a12, a13, a14, a15, a16, a17, a18, a19, a20, a21, a22, a23, a24, a25, a26, a27, a28, a29, a30, a31, rfl⟩ := many ha
  obtain ⟨k0, k1, k2, k3, k4, k5, k6, k7, k8, k9, k10, k11, k12, k13, k14, k15, k16, k17, k18, k19, k20, k21, k22, k23, k24, k25, k26, k27, k28, k29, k30, k31, rfl⟩ := many hb
  rw [rBytes32, rBytes32]
  simp [maskAt, all_ones, nth] at h0 h1 h2 h3 h4 h5 h6 h7 h8 h9 h10 h11 h12 h13 h14 h15
  rw [h0, h1, h2, h3, h4, h5, h6, h7, h8, h9, h10, h11, h12, h13, h14, h15]
theorem flip_and (x c m : BitVec 8) (h : c &&& m = 0#8) : (x ^^^ c) &&& m = x &&& m := by
  apply BitVec.eq_of_getLsbD_eq
  intro i hi
  have := congrArg (fun y => y.getLsbD i) h
  simp only [BitVec.getLsbD_and, BitVec.getLsbD_zero] at this
  simp only [BitVec.getLsbD_and, BitVec.getLsbD_xor]
  cases h1 : x.getLsbD i <;> cases h2 : c.getLsbD i <;> cases h3 : m.getLsbD i <;> simp_all
theorem free_mask (n : Nat) (h : freeBit n) : (1#8 <<< (BitVec.ofNat 64 (n % 8)).toNat) &&& maskAt (n / 8) = 0#8 := by
  rcases h with rfl | rfl | rfl | rfl | rfl | rfl | rfl | rfl | rfl | rfl | rfl | rfl | rfl | rfl | rfl | rfl | rfl | rfl | rfl | rfl | rfl | rfl <;> decide
theorem tag_flip (key t : List (BitVec 8)) (hk : key.length = 32) (n : Nat) (h : freeBit n) (hn : n / 8 < 16) : polyTag (put key (n / 8) ((nth key (n / 8)) ^^^ (1#8 <<< (BitVec.ofNat 64 (n % 8)).toNat))) t = polyTag key t := by
  have hl : (put key (n / 8) ((nth key (n / 8)) ^^^ (1#8 <<< (BitVec.ofNat 64 (n % 8)).toNat))).length = 32 := by rw [put_length, hk]
  have hr := rBytes_mask _ key hl hk (fun i hi => by
    rw [nth_put _ _ _ _ (by omega)]
    by_cases e : n / 8 = i
    · rw [if_pos e, ← e]; exact flip_and _ _ _ (free_mask n h)
    · rw [if_neg e])
  have hs := sN_cut hl hk (cut_eq 16 hl hk (by omega) fun i hi => by rw [nth_put _ _ _ _ (by omega), if_neg (by omega)])
  refine bN_inj (by rw [polyTag_len, polyTag_len]) ?_
  rw [tag_bN _ t hl, tag_bN key t hk, hr, hs]
set_option maxRecDepth 100000 in
set_option maxHeartbeats 2000000 in
theorem polyEnds_ev (key : List (BitVec 8)) (t : List (BitVec 8)) (cap : Nat) (bit : Int) (hkey : key.length = 32) : Ev Try.prog (.call 4 [.agg (.a8 (key)), .c (.sl 0 0 t.length cap 1), .c (.val (.int .i64 bit))] [.row false (.a8 (t))]) (.val (.c (.val (.bool (true)))) [.row false (.a8 (t))]) := by
  refine c_call Try.func4 rfl Try.ntmps4 rfl LEN_ ?_
  refine S_ ?_
  refine c_region ?_
  refine s_memN (m_box BX_ LEN_) APP_ rfl ?_
  refine s_val (v_assignC rfl) rfl ?_
  refine s_nil ?_
  refine S_ ?_
  refine c_region ?_
  refine s_val (v_moveC rfl) rfl ?_
  refine s_val (v_lenS rfl Try.underlying23) rfl ?_
  refine s_val (v_gtrN (b := 1000) rfl rfl) rfl ?_
  refine s_nil ?_
  refine Q_ ?_
  by_cases hc1 : 1000 < t.length
  · try simp only [if_pos hc1] at *
    refine c_condT rfl (decide_eq_true hc1) ?_
    refine S_ ?_
    refine c_region ?_
    refine s_val (v_assignC rfl) rfl ?_
    refine s_nil ?_
    refine S_ ?_
    exact k_1 (by first | exact r_tmpC rfl | exact r_tmpA rfl) (by first | kernel_rfl | rfl)
  · try simp only [if_neg hc1] at *
    refine c_condF rfl (decide_eq_false hc1) ?_
    refine S_ ?_
    refine c_region ?_
    refine s_val (v_loadR rfl rfl row_22 sz_22 EQ_ (by decide)) rfl ?_
    refine s_evN (e_callR (polyTagN_ev key HYP_) ok_8 rfl rfl rfl VAL_) APP_ rfl ?_
    refine s_memN (m_alloc al_25 LEN_) APP_ rfl ?_
    refine s_storeR rfl rfl rfl rfl sz_25 EQ_ EQ_ SET_ ?_
    refine s_nil ?_
    have hQ2 : (polyTag key []).length = 16 := LQ_
    refine S_ ?_
    refine c_draw 4 mixed (by kernel_rfl) rfl rfl rfl ?_
    refine h_val (v_slA1 (l := 0) (h := 16) (len := 16) (cp := 16) rfl Try.underlying25 sz_5 rfl rfl rfl (by omega) (by omega) FIT_ rfl rfl) rfl ?_
    refine h_val (v_slA1 (l := 16) (h := 32) (len := 16) (cp := 16) rfl Try.underlying22 sz_5 rfl rfl rfl (by omega) (by omega) FIT_ rfl rfl) rfl ?_
    refine h_evN (e_callR (bytes_ev (polyTag key []) key 0 16 16 16 16 HYP_ HYP_ HYP_ (fun i hi => by rw [Nat.zero_add]; exact tag_none key hkey i hi)) ok_10 rfl rfl rfl VAL_) APP_ rfl ?_
    refine h_val (v_unnotB rfl) rfl ?_
    refine h_nil ?_
    refine s_nil ?_
    refine S_ ?_
    refine c_region ?_
    refine s_val (v_loadR rfl rfl row_22 sz_22 EQ_ (by decide)) rfl ?_
    refine s_memN (m_alloc al_22 LEN_) APP_ rfl ?_
    refine s_storeR rfl rfl rfl rfl sz_22 EQ_ EQ_ SET_ ?_
    refine s_nil ?_
    refine S_ ?_
    refine c_region ?_
    refine s_val (v_assignC rfl) rfl ?_
    refine s_nil ?_
    refine S_ ?_
    refine c_loopC [1, 2, 3, 8, 9] (fun (zz : Nat × List (BitVec 8)) => ⟨111, keepT [1, 2, 3, 8, 9] [.c (.sl 0 0 t.length cap 1), .c (.val (.int .i64 (bit))), .c (.ptr 1 0), .c (.ptr 2 0), .c (.val (.int .i64 (((zz.1 : Nat) : Int))))], [.row false (.a8 (t)), .row true (.a8 (key)), .row true (.a8 (zz.2))]⟩) (fun j8 => (j8, polyEnds_L8 key j8)) (16) (by kernel_rfl) ?_ ?_
    · intro j8 hj8
      try dsimp only
      have hX3 : (polyEnds_L8 key j8).length = 32 := by rw [polyEnds_L8_len key hkey _]; try omega
      have hzero : ∀ i, nth (polyEnds_L8 key j8) i = if i < j8 then 0#8 else nth key i := zeros_at key hkey j8 (by omega)
      rw [polyEnds_L8.eq_2, polyEnds_L8_S]
      generalize polyEnds_L8 key j8 = X3 at *
      refine S_ ?_
      refine c_region ?_
      refine s_val (v_moveC rfl) rfl ?_
      refine s_val (v_lssN (b := 16) rfl rfl) rfl ?_
      refine s_nil ?_
      refine S_ ?_
      refine c_region ?_
      refine s_val (v_moveC rfl) rfl ?_
      refine s_val (v_idxA1 rfl rfl Try.underlying22 sz_5 (by omega)) rfl ?_
      refine s_store8 (w := 0#8) rfl rfl rfl sz_5 LT_ SET_ ?_
      refine s_nil ?_
      refine S_ ?_
      refine c_region ?_
      refine s_val (v_moveC rfl) rfl ?_
      refine s_val (v_addN (b := 1) rfl rfl (by omega)) rfl ?_
      refine s_val (v_assignC rfl) rfl ?_
      refine s_nil ?_
      exact ⟨(j8 + 1, _), by kernel_rfl, rfl⟩
    · try dsimp only
      have hY4 : (polyEnds_L8 key 16).length = 32 := by rw [polyEnds_L8_len key hkey _]; try omega
      have hzero : ∀ i, nth (polyEnds_L8 key 16) i = if i < 16 then 0#8 else nth key i := zeros_at key hkey 16 (by omega)
      generalize polyEnds_L8 key 16 = Y4 at *
      refine S_ ?_
      refine c_region ?_
      refine s_val (v_moveC rfl) rfl ?_
      refine s_val (v_lssN (b := 16) rfl rfl) rfl ?_
      refine s_nil ?_
      refine S_ ?_
      refine c_region ?_
      refine s_val (v_loadR rfl rfl row_22 sz_22 EQ_ (by decide)) rfl ?_
      refine s_val (v_moveC rfl) rfl ?_
      refine s_evN (e_callR (polyTag_ev Y4 t t.length cap HYP_ HYP_ HYP_) ok_8 rfl rfl rfl VAL_) APP_ rfl ?_
      refine s_memN (m_alloc al_25 LEN_) APP_ rfl ?_
      refine s_storeR rfl rfl rfl rfl sz_25 EQ_ EQ_ SET_ ?_
      refine s_nil ?_
      have hQ5 : (polyTag Y4 t).length = 16 := LQ_
      refine S_ ?_
      refine c_draw 4 mixed (by kernel_rfl) rfl rfl rfl ?_
      refine h_val (v_slA1 (l := 0) (h := 16) (len := 16) (cp := 16) rfl Try.underlying25 sz_5 rfl rfl rfl (by omega) (by omega) FIT_ rfl rfl) rfl ?_
      refine h_val (v_slA1 (l := 16) (h := 32) (len := 16) (cp := 16) rfl Try.underlying22 sz_5 rfl rfl rfl (by omega) (by omega) FIT_ rfl rfl) rfl ?_
      refine h_evN (e_callR (bytes_ev (polyTag Y4 t) key 0 16 16 16 16 HYP_ HYP_ HYP_ (fun i hi => by rw [Nat.zero_add]; exact tag_zero Y4 key t HYP_ hkey hzero i hi)) ok_10 rfl rfl rfl VAL_) APP_ rfl ?_
      refine h_val (v_unnotB rfl) rfl ?_
      refine h_nil ?_
      refine s_nil ?_
      refine S_ ?_
      refine c_region ?_
      refine s_val (v_loadR rfl rfl row_22 sz_22 EQ_ (by decide)) rfl ?_
      refine s_val (v_moveC rfl) rfl ?_
      refine s_evN (e_callR (polyTag_ev key t t.length cap HYP_ HYP_ HYP_) ok_8 rfl rfl rfl VAL_) APP_ rfl ?_
      refine s_memN (m_alloc al_25 LEN_) APP_ rfl ?_
      refine s_storeR rfl rfl rfl rfl sz_25 EQ_ EQ_ SET_ ?_
      refine s_nil ?_
      have hQ6 : (polyTag key t).length = 16 := LQ_
      refine S_ ?_
      refine c_region ?_
      refine s_val (v_loadR rfl rfl row_22 sz_22 EQ_ (by decide)) rfl ?_
      refine s_memN (m_alloc al_22 LEN_) APP_ rfl ?_
      refine s_storeR rfl rfl rfl rfl sz_22 EQ_ EQ_ SET_ ?_
      refine s_nil ?_
      refine S_ ?_
      refine c_region ?_
      refine s_memN (m_bsI (l := natI [28, 29, 30, 31, 32, 33, 60, 61, 62, 63, 64, 65, 92, 93, 94, 95, 96, 97, 124, 125, 126, 127]) Try.underlying30 el_3 rfl rfl (by decide) (by decide) LEN_) APP_ rfl ?_
      refine s_val (v_assignC rfl) rfl ?_
      refine s_nil ?_
      have h22 : ((BitVec.ofInt 64 bit) % 22#64).toNat < 22 := by rw [BitVec.toNat_umod]; exact Nat.mod_lt _ (by decide)
      refine S_ ?_
      refine c_region ?_
      refine s_val (v_moveC rfl) rfl ?_
      refine s_val (v_moveC rfl) rfl ?_
      refine s_val (v_conv rfl Try.underlying3 Try.underlying31 (wI_64 _)) rfl ?_
      refine s_val (v_moveC rfl) rfl ?_
      refine s_val (v_lenS rfl Try.underlying30) rfl ?_
      refine s_val (v_conv rfl Try.underlying3 Try.underlying31 (wi_64 _)) rfl ?_
      refine s_val (v_rem64 rfl rfl (by first | decide | assumption)) rfl ?_
      refine s_val (v_conv rfl Try.underlying31 Try.underlying3 (w64_i _ (by first | omega | assumption))) rfl ?_
      refine s_val (v_idxS1 rfl rfl Try.underlying30 sz_3 (by omega)) rfl ?_
      refine s_val (v_loadN rfl rfl row_3 LT_) rfl ?_
      refine s_val (v_assignC rfl) rfl ?_
      refine s_nil ?_
      have hfree : freeBit (ntn [28, 29, 30, 31, 32, 33, 60, 61, 62, 63, 64, 65, 92, 93, 94, 95, 96, 97, 124, 125, 126, 127] (((BitVec.ofInt 64 bit) % (BitVec.ofNat 64 22)).toNat)) := freeBit_of _
      generalize (ntn [28, 29, 30, 31, 32, 33, 60, 61, 62, 63, 64, 65, 92, 93, 94, 95, 96, 97, 124, 125, 126, 127] (((BitVec.ofInt 64 bit) % (BitVec.ofNat 64 22)).toNat)) = n at *
      obtain ⟨hn1, hn2⟩ : n < 128 ∧ n / 8 < 16 := by rcases hfree with h | h | h | h | h | h | h | h | h | h | h | h | h | h | h | h | h | h | h | h | h | h <;> omega
      refine S_ ?_
      refine c_region ?_
      refine s_val (v_moveC rfl) rfl ?_
      refine s_val (v_quoN (b := 8) rfl rfl (by omega) (by omega)) rfl ?_
      refine s_val (v_idxA1 rfl rfl Try.underlying22 sz_5 (by omega)) rfl ?_
      refine s_val (v_load8 rfl rfl row_5 LT_) rfl ?_
      refine s_val (v_moveC rfl) rfl ?_
      refine s_val (v_remN (b := 8) rfl rfl (by omega) (by omega)) rfl ?_
      refine s_val (v_conv rfl Try.underlying3 Try.underlying31 (wi_64 _)) rfl ?_
      refine s_val (v_shl8w (a := 1#8) rfl rfl) rfl ?_
      refine s_val (v_xor8 rfl rfl) rfl ?_
      refine s_val (v_idxA1 rfl rfl Try.underlying22 sz_5 (by omega)) rfl ?_
      refine s_store8 rfl rfl rfl sz_5 LT_ SET_ ?_
      refine s_nil ?_
      refine S_ ?_
      refine c_region ?_
      refine s_val (v_loadR rfl rfl row_22 sz_22 EQ_ (by decide)) rfl ?_
      refine s_val (v_moveC rfl) rfl ?_
      refine s_evN (e_callR (polyTag_ev (put key (n / 8) ((nth key (n / 8)) ^^^ (1#8 <<< (BitVec.ofNat 64 (n % 8)).toNat))) t t.length cap HYP_ HYP_ HYP_) ok_8 rfl rfl rfl VAL_) APP_ rfl ?_
      refine s_memN (m_alloc al_25 LEN_) APP_ rfl ?_
      refine s_storeR rfl rfl rfl rfl sz_25 EQ_ EQ_ SET_ ?_
      refine s_nil ?_
      have hQ7 : (polyTag (put key (n / 8) ((nth key (n / 8)) ^^^ (1#8 <<< (BitVec.ofNat 64 (n % 8)).toNat))) t).length = 16 := LQ_
      refine S_ ?_
      refine c_draw 4 mixed (by kernel_rfl) rfl rfl rfl ?_
      refine h_val (v_slA1 (l := 0) (h := 16) (len := 16) (cp := 16) rfl Try.underlying25 sz_5 rfl rfl rfl (by omega) (by omega) FIT_ rfl rfl) rfl ?_
      refine h_val (v_slA1 (l := 0) (h := 16) (len := 16) (cp := 16) rfl Try.underlying25 sz_5 rfl rfl rfl (by omega) (by omega) FIT_ rfl rfl) rfl ?_
      refine h_evN (e_callR (bytes_ev (polyTag key t) (polyTag (put key (n / 8) ((nth key (n / 8)) ^^^ (1#8 <<< (BitVec.ofNat 64 (n % 8)).toNat))) t) 0 0 16 16 16 HYP_ HYP_ HYP_ (fun i _ => by rw [tag_flip key t hkey n hfree (by omega)])) ok_10 rfl rfl rfl VAL_) APP_ rfl ?_
      refine h_val (v_unnotB rfl) rfl ?_
      refine h_nil ?_
      refine s_nil ?_
      refine S_ ?_
      refine c_region ?_
      refine s_val (v_loadR rfl rfl row_22 sz_22 EQ_ (by decide)) rfl ?_
      refine s_memN (m_alloc al_22 LEN_) APP_ rfl ?_
      refine s_storeR rfl rfl rfl rfl sz_22 EQ_ EQ_ SET_ ?_
      refine s_nil ?_
      refine S_ ?_
      refine c_region ?_
      refine s_val (v_assignC rfl) rfl ?_
      refine s_nil ?_
      refine S_ ?_
      refine c_loopC [1, 3, 11, 16, 17] (fun (zz : Nat × List (BitVec 8)) => ⟨111, keepT [1, 3, 11, 16, 17] [.c (.sl 0 0 t.length cap 1), .c (.ptr 1 0), .c (.ptr 2 0), .c (.ptr 3 0), .c (.val (.int .i64 (((16 + zz.1 : Nat) : Int))))], [.row false (.a8 (t)), .row true (.a8 (key)), .row true (.a8 (polyTag key t)), .row true (.a8 (zz.2))]⟩) (fun j24 => (j24, polyEnds_L24 key j24)) (16) (by kernel_rfl) ?_ ?_
      · intro j24 hj24
        try dsimp only
        have hX8 : (polyEnds_L24 key j24).length = 32 := by rw [polyEnds_L24_len key hkey _]; try omega
        have hplain : ∀ i, nth (polyEnds_L24 key j24) i = if 16 ≤ i ∧ i < 16 + j24 then 0#8 else nth key i := plain_at key hkey j24 (by omega)
        rw [polyEnds_L24.eq_2, polyEnds_L24_S]
        generalize polyEnds_L24 key j24 = X8 at *
        refine S_ ?_
        refine c_region ?_
        refine s_val (v_moveC rfl) rfl ?_
        refine s_val (v_lssN (b := 32) rfl rfl) rfl ?_
        refine s_nil ?_
        refine S_ ?_
        refine c_region ?_
        refine s_val (v_moveC rfl) rfl ?_
        refine s_val (v_idxA1 rfl rfl Try.underlying22 sz_5 (by omega)) rfl ?_
        refine s_store8 (w := 0#8) rfl rfl rfl sz_5 LT_ SET_ ?_
        refine s_nil ?_
        refine S_ ?_
        refine c_region ?_
        refine s_val (v_moveC rfl) rfl ?_
        refine s_val (v_addN (b := 1) rfl rfl (by omega)) rfl ?_
        refine s_val (v_assignC rfl) rfl ?_
        refine s_nil ?_
        exact ⟨(j24 + 1, _), by kernel_rfl, rfl⟩
      · try dsimp only
        have hY9 : (polyEnds_L24 key 16).length = 32 := by rw [polyEnds_L24_len key hkey _]; try omega
        have hplain : ∀ i, nth (polyEnds_L24 key 16) i = if 16 ≤ i ∧ i < 16 + 16 then 0#8 else nth key i := plain_at key hkey 16 (by omega)
        generalize polyEnds_L24 key 16 = Y9 at *
        refine S_ ?_
        refine c_region ?_
        refine s_val (v_moveC rfl) rfl ?_
        refine s_val (v_lssN (b := 32) rfl rfl) rfl ?_
        refine s_nil ?_
        refine S_ ?_
        refine c_region ?_
        refine s_val (v_loadR rfl rfl row_22 sz_22 EQ_ (by decide)) rfl ?_
        refine s_val (v_moveC rfl) rfl ?_
        refine s_evN (e_callR (polyTag_ev Y9 t t.length cap HYP_ HYP_ HYP_) ok_8 rfl rfl rfl VAL_) APP_ rfl ?_
        refine s_memN (m_alloc al_25 LEN_) APP_ rfl ?_
        refine s_storeR rfl rfl rfl rfl sz_25 EQ_ EQ_ SET_ ?_
        refine s_nil ?_
        have hQ10 : (polyTag Y9 t).length = 16 := LQ_
        refine S_ ?_
        refine c_region ?_
        refine s_val (v_assignC rfl) rfl ?_
        refine s_nil ?_
        refine S_ ?_
        refine c_region ?_
        refine s_val (v_assignC rfl) rfl ?_
        refine s_nil ?_
        refine S_ ?_
        refine c_loopC [3, 11, 18, 19, 20] (fun (zz : Nat × Nat) => ⟨111, keepT [3, 11, 18, 19, 20] [.c (.ptr 1 0), .c (.ptr 2 0), .c (.ptr 3 0), .c (.val (.int .i64 (((zz.2 : Nat) : Int)))), .c (.val (.int .i64 (((zz.1 : Nat) : Int))))], [.row false (.a8 (t)), .row true (.a8 (key)), .row true (.a8 (polyTag key t)), .row true (.a8 (polyTag Y9 t))]⟩) (fun j30 => (j30, polyEnds_L30 key t Y9 j30)) (16) (by kernel_rfl) ?_ ?_
        · intro j30 hj30
          try dsimp only
          have hdig : j30 < 16 → nth (polyTag key t) j30 = BitVec.ofNat 8 ((polyEnds_L30 key t Y9 j30 + (nth (polyTag Y9 t) j30).toNat) + (nth key (16 + j30)).toNat) := fun hj => digits_at key Y9 t hkey hY9 hplain j30 hj
          have hcar : polyEnds_L30 key t Y9 j30 ≤ 2 := carry_at key Y9 t hkey j30 (by omega)
          rw [polyEnds_L30.eq_2, polyEnds_L30_S]
          generalize polyEnds_L30 key t Y9 j30 = X11 at *
          refine S_ ?_
          refine c_region ?_
          refine s_val (v_moveC rfl) rfl ?_
          refine s_val (v_lssN (b := 16) rfl rfl) rfl ?_
          refine s_nil ?_
          refine S_ ?_
          refine c_draw 13 mixed (by kernel_rfl) rfl rfl rfl ?_
          refine h_val (v_moveC rfl) rfl ?_
          refine h_val (v_moveC rfl) rfl ?_
          refine h_val (v_idxA1 rfl rfl Try.underlying25 sz_5 (by omega)) rfl ?_
          refine h_val (v_load8 rfl rfl row_5 LT_) rfl ?_
          refine h_val (v_conv rfl Try.underlying5 Try.underlying3 (w8_i _)) rfl ?_
          refine h_val (v_addN rfl rfl (by omega)) rfl ?_
          refine h_val (v_moveC rfl) rfl ?_
          refine h_val (v_addN (a := 16) rfl rfl (by omega)) rfl ?_
          refine h_val (v_idxA1 rfl rfl Try.underlying22 sz_5 (by omega)) rfl ?_
          refine h_val (v_load8 rfl rfl row_5 LT_) rfl ?_
          refine h_val (v_conv rfl Try.underlying5 Try.underlying3 (w8_i _)) rfl ?_
          refine h_val (v_addN rfl rfl (by omega)) rfl ?_
          refine h_val (v_assignC rfl) rfl ?_
          refine h_nil ?_
          refine s_nil ?_
          refine S_ ?_
          refine c_region ?_
          refine s_val (v_moveC rfl) rfl ?_
          refine s_val (v_idxA1 rfl rfl Try.underlying25 sz_5 (by omega)) rfl ?_
          refine s_val (v_load8 rfl rfl row_5 LT_) rfl ?_
          refine s_val (v_moveC rfl) rfl ?_
          refine s_val (v_conv rfl Try.underlying3 Try.underlying5 (wi_8 _)) rfl ?_
          refine s_val (v_neq8 rfl rfl) rfl ?_
          refine s_nil ?_
          refine Q_ ?_
          refine c_condF rfl (by rw [hdig (by assumption)]; simp) ?_
          refine S_ ?_
          refine c_region ?_
          refine s_val (v_moveC rfl) rfl ?_
          refine s_val (v_quoN (b := 256) rfl rfl (by omega) (by omega)) rfl ?_
          refine s_val (v_assignC rfl) rfl ?_
          refine s_nil ?_
          refine S_ ?_
          refine c_region ?_
          refine s_val (v_moveC rfl) rfl ?_
          refine s_val (v_addN (b := 1) rfl rfl (by omega)) rfl ?_
          refine s_val (v_assignC rfl) rfl ?_
          refine s_nil ?_
          exact ⟨(j30 + 1, _), by kernel_rfl, rfl⟩
        · try dsimp only
          have hdig : 16 < 16 → nth (polyTag key t) 16 = BitVec.ofNat 8 ((polyEnds_L30 key t Y9 16 + (nth (polyTag Y9 t) 16).toNat) + (nth key (16 + 16)).toNat) := fun hj => digits_at key Y9 t hkey hY9 hplain 16 hj
          have hcar : polyEnds_L30 key t Y9 16 ≤ 2 := carry_at key Y9 t hkey 16 (by omega)
          generalize polyEnds_L30 key t Y9 16 = Y12 at *
          refine S_ ?_
          refine c_region ?_
          refine s_val (v_moveC rfl) rfl ?_
          refine s_val (v_lssN (b := 16) rfl rfl) rfl ?_
          refine s_nil ?_
          refine S_ ?_
          refine c_region ?_
          refine s_evN (e_callR (wakes_ev) ok_11 rfl rfl rfl VAL_) APP_ rfl ?_
          refine s_val (v_assignC rfl) rfl ?_
          refine s_nil ?_
          refine S_ ?_
          exact k_1 (by first | exact r_tmpC rfl | exact r_tmpA rfl) (by first | kernel_rfl | rfl)
end Go.Proofs.Ytlphiohgehkjlaa
