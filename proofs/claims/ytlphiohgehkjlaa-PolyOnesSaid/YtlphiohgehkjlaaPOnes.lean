/- trystlaw04.PolyOnes (Drawn up by a program.) -/
import Derived.Test.YtlphiohgehkjlaaPLawExact
import Derived.Test.YtlphiohgehkjlaaPSmall
namespace Go.Proofs.Ytlphiohgehkjlaa
open Go.RowKit
def polyOnes_L5_S (s : List (BitVec 8)) (X2 : List (BitVec 8)) (j5 : Nat) : List (BitVec 8) := put X2 (16 + j5) (nth s j5)
def polyOnes_L5 (s : List (BitVec 8)) : Nat → List (BitVec 8)
  | 0 => put (zer8 32) 0 1#8
  | j5 + 1 => polyOnes_L5_S s (polyOnes_L5 s j5) j5
theorem polyOnes_L5_len (s : List (BitVec 8)) (hs : s.length = 16) (j5 : Nat) : (polyOnes_L5 s j5).length = 32 := by
  induction j5 with
  | zero => simp [polyOnes_L5, *]
  | succ j5 ih => rw [polyOnes_L5.eq_2, polyOnes_L5_S]; first | (simp [ih]; done) | (simp [ih]; omega) | (simp [*]; done) | (split <;> first | (simp [ih]; done) | (simp [ih]; omega) | (simp [*]; done))
def polyOnes_L14_S (t : List (BitVec 8)) (j10 : Nat) (X5 : List Nat) (j14 : Nat) : List Nat := putn X5 j14 ((ntn X5 j14) + ((nth t ((16 * j10) + j14)).toNat))
def polyOnes_L14 (t : List (BitVec 8)) (X4 : List Nat) (j10 : Nat) : Nat → List Nat
  | 0 => X4
  | j14 + 1 => polyOnes_L14_S t j10 (polyOnes_L14 t X4 j10 j14) j14
theorem polyOnes_L14_len (t : List (BitVec 8)) (X4 : List Nat) (j10 : Nat) (hX4 : X4.length = 20) (j14 : Nat) : (polyOnes_L14 t X4 j10 j14).length = 20 := by
  induction j14 with
  | zero => simp [polyOnes_L14, *]
  | succ j14 ih => rw [polyOnes_L14.eq_2, polyOnes_L14_S]; first | (simp [ih]; done) | (simp [ih]; omega) | (simp [polyOnes_L5_len, *]; done) | (split <;> first | (simp [ih]; done) | (simp [ih]; omega) | (simp [polyOnes_L5_len, *]; done))
def polyOnes_L23_S (X8 : Nat) (X9 : List Nat) (j23 : Nat) : Nat × List Nat := ((X8 + (ntn X9 j23)) / 256, putn X9 j23 ((X8 + (ntn X9 j23)) % 256))
def polyOnes_L23 (X7 : List Nat) : Nat → Nat × List Nat
  | 0 => (0, X7)
  | j23 + 1 => polyOnes_L23_S (polyOnes_L23 X7 j23).1 (polyOnes_L23 X7 j23).2 j23
theorem polyOnes_L23_len1 (X7 : List Nat) (hX7 : X7.length = 20) (j23 : Nat) : (polyOnes_L23 X7 j23).2.length = 20 := by
  induction j23 with
  | zero => simp [polyOnes_L23, *]
  | succ j23 ih => rw [polyOnes_L23.eq_2, polyOnes_L23_S]; first | (simp [ih]; done) | (simp [ih]; omega) | (simp [polyOnes_L5_len, polyOnes_L14_len, *]; done) | (split <;> first | (simp [ih]; done) | (simp [ih]; omega) | (simp [polyOnes_L5_len, polyOnes_L14_len, *]; done))
def polyOnes_L19_S (X7 : List Nat) : List Nat := putn (putn (putn ((polyOnes_L23 X7 19).2) 16 ((ntn ((polyOnes_L23 X7 19).2) 16) % 4)) 17 0) 0 ((ntn (putn (putn ((polyOnes_L23 X7 19).2) 16 ((ntn ((polyOnes_L23 X7 19).2) 16) % 4)) 17 0) 0) + (5 * (((ntn ((polyOnes_L23 X7 19).2) 16) / 4) + ((ntn ((polyOnes_L23 X7 19).2) 17) * 64))))
def polyOnes_L19 (t : List (BitVec 8)) (j10 : Nat) (Y6 : List Nat) : Nat → List Nat
  | 0 => putn Y6 (min (t.length - (16 * j10)) 16) ((ntn Y6 (min (t.length - (16 * j10)) 16)) + 1)
  | j19 + 1 => polyOnes_L19_S (polyOnes_L19 t j10 Y6 j19)
theorem polyOnes_L19_len (t : List (BitVec 8)) (j10 : Nat) (Y6 : List Nat) (hY6 : Y6.length = 20) (j19 : Nat) : (polyOnes_L19 t j10 Y6 j19).length = 20 := by
  induction j19 with
  | zero => simp [polyOnes_L19, *]
  | succ j19 ih => rw [polyOnes_L19.eq_2, polyOnes_L19_S]; first | (simp [ih]; done) | (simp [ih]; omega) | (simp [polyOnes_L5_len, polyOnes_L14_len, polyOnes_L23_len1, *]; done) | (split <;> first | (simp [ih]; done) | (simp [ih]; omega) | (simp [polyOnes_L5_len, polyOnes_L14_len, polyOnes_L23_len1, *]; done))
def polyOnes_L10_S (t : List (BitVec 8)) (X4 : List Nat) (j10 : Nat) : List Nat := (polyOnes_L19 t j10 (polyOnes_L14 t X4 j10 (min (t.length - (16 * j10)) 16)) 2)
def polyOnes_L10 (t : List (BitVec 8)) : Nat → List Nat
  | 0 => zern 20
  | j10 + 1 => polyOnes_L10_S t (polyOnes_L10 t j10) j10
@[simp] theorem polyOnes_L10_len (t : List (BitVec 8)) (j10 : Nat) : (polyOnes_L10 t j10).length = 20 := by
  induction j10 with
  | zero => simp [polyOnes_L10, *]
  | succ j10 ih => rw [polyOnes_L10.eq_2, polyOnes_L10_S]; first | (simp [ih]; done) | (simp [ih]; omega) | (simp [polyOnes_L5_len, polyOnes_L14_len, polyOnes_L23_len1, polyOnes_L19_len, *]; done) | (split <;> first | (simp [ih]; done) | (simp [ih]; omega) | (simp [polyOnes_L5_len, polyOnes_L14_len, polyOnes_L23_len1, polyOnes_L19_len, *]; done))
def polyOnes_L33_S (X16 : Nat) (X17 : List Nat) (j33 : Nat) : Nat × List Nat := ((X16 + (ntn X17 j33)) / 256, putn X17 j33 ((X16 + (ntn X17 j33)) % 256))
def polyOnes_L33 (Y15 : List Nat) : Nat → Nat × List Nat
  | 0 => (0, Y15)
  | j33 + 1 => polyOnes_L33_S (polyOnes_L33 Y15 j33).1 (polyOnes_L33 Y15 j33).2 j33
theorem polyOnes_L33_len1 (Y15 : List Nat) (hY15 : Y15.length = 20) (j33 : Nat) : (polyOnes_L33 Y15 j33).2.length = 20 := by
  induction j33 with
  | zero => simp [polyOnes_L33, *]
  | succ j33 ih => rw [polyOnes_L33.eq_2, polyOnes_L33_S]; first | (simp [ih]; done) | (simp [ih]; omega) | (simp [polyOnes_L5_len, polyOnes_L14_len, polyOnes_L23_len1, polyOnes_L19_len, polyOnes_L10_len, *]; done) | (split <;> first | (simp [ih]; done) | (simp [ih]; omega) | (simp [polyOnes_L5_len, polyOnes_L14_len, polyOnes_L23_len1, polyOnes_L19_len, polyOnes_L10_len, *]; done))
def polyOnes_L41_S (X22 : Nat) (X23 : List Nat) (j41 : Nat) : Nat × List Nat := ((X22 + (ntn X23 j41)) / 256, putn X23 j41 ((X22 + (ntn X23 j41)) % 256))
def polyOnes_L41 (Y20 : List Nat) : Nat → Nat × List Nat
  | 0 => (5, Y20)
  | j41 + 1 => polyOnes_L41_S (polyOnes_L41 Y20 j41).1 (polyOnes_L41 Y20 j41).2 j41
theorem polyOnes_L41_len1 (Y20 : List Nat) (hY20 : Y20.length = 20) (j41 : Nat) : (polyOnes_L41 Y20 j41).2.length = 20 := by
  induction j41 with
  | zero => simp [polyOnes_L41, *]
  | succ j41 ih => rw [polyOnes_L41.eq_2, polyOnes_L41_S]; first | (simp [ih]; done) | (simp [ih]; omega) | (simp [polyOnes_L5_len, polyOnes_L14_len, polyOnes_L23_len1, polyOnes_L19_len, polyOnes_L10_len, polyOnes_L33_len1, *]; done) | (split <;> first | (simp [ih]; done) | (simp [ih]; omega) | (simp [polyOnes_L5_len, polyOnes_L14_len, polyOnes_L23_len1, polyOnes_L19_len, polyOnes_L10_len, polyOnes_L33_len1, *]; done))
def polyOnes_L51_S (s : List (BitVec 8)) (J28 : List Nat) (X30 : Nat) (j51 : Nat) : Nat := ((X30 + (ntn J28 j51)) + ((nth s j51).toNat)) / 256
def polyOnes_L51 (s : List (BitVec 8)) (J28 : List Nat) : Nat → Nat
  | 0 => 0
  | j51 + 1 => polyOnes_L51_S s J28 (polyOnes_L51 s J28 j51) j51
theorem ones_key (s : List (BitVec 8)) (hs : s.length = 16) : ∀ j, j ≤ 16 → ∀ i, nth (polyOnes_L5 s j) i = if i = 0 then 1#8 else if 16 ≤ i ∧ i < 16 + j then nth s (i - 16) else 0#8 := by
  intro j
  induction j with
  | zero =>
    intro _ i
    show nth (put (zer8 32) 0 1#8) i = _
    rw [nth_put _ _ _ _ (by simp), nth_zer8']
    by_cases h : i = 0
    · rw [if_pos h.symm, if_pos h]
    · rw [if_neg (fun e => h e.symm), if_neg h, if_neg (by omega)]
  | succ j ih =>
    intro hj i
    rw [polyOnes_L5.eq_2, polyOnes_L5_S, nth_put _ _ _ _ (by rw [polyOnes_L5_len s hs]; omega), ih (by omega)]
    by_cases h : 16 + j = i
    · subst h
      rw [if_pos rfl, if_neg (by omega), if_pos (by omega), show 16 + j - 16 = j by omega]
    · rw [if_neg h]
      by_cases h0 : i = 0
      · rw [if_pos h0, if_pos h0]
      · rw [if_neg h0, if_neg h0]
        by_cases h2 : 16 ≤ i ∧ i < 16 + j
        · rw [if_pos h2, if_pos (by omega)]
        · rw [if_neg h2, if_neg (by omega)]
theorem ones23 (X : List Nat) (j : Nat) : polyOnes_L23 X j = carrI 0 X j := by
  induction j with
  | zero => rfl
  | succ j ih => rw [polyOnes_L23.eq_2, polyOnes_L23_S, ih]; rfl
theorem ones33 (X : List Nat) (j : Nat) : polyOnes_L33 X j = carrI 0 X j := by
  induction j with
  | zero => rfl
  | succ j ih => rw [polyOnes_L33.eq_2, polyOnes_L33_S, ih]; rfl
theorem ones41 (X : List Nat) (j : Nat) : polyOnes_L41 X j = carrI 5 X j := by
  induction j with
  | zero => rfl
  | succ j ih => rw [polyOnes_L41.eq_2, polyOnes_L41_S, ih]; rfl
theorem ones19 (X : List Nat) : polyOnes_L19_S X = foldI (carrI 0 X 19).2 := by rw [polyOnes_L19_S, ones23]; rfl
theorem ones14 (t : List (BitVec 8)) (X : List Nat) (q : Nat) (hX : X.length = 20) (hb : ∀ i, ntn X i ≤ 100000) : ∀ j, j ≤ 16 → iN (polyOnes_L14 t X q j) = iN X + bN (cut t (16 * q) j) ∧ (∀ i, ntn (polyOnes_L14 t X q j) i ≤ 100255) ∧ ∀ i, j ≤ i → ntn (polyOnes_L14 t X q j) i ≤ 100000 := by
  intro j
  induction j with
  | zero => intro _; exact ⟨by show iN X = iN X + bN (cut t (16 * q) 0); simp [cut, bN], fun i => Nat.le_trans (hb i) (by decide), fun i _ => hb i⟩
  | succ j ih =>
    intro hj
    obtain ⟨h1, h2, h3⟩ := ih (by omega)
    have hl := polyOnes_L14_len t X q hX j
    rw [polyOnes_L14.eq_2, polyOnes_L14_S, bN_cut]
    generalize polyOnes_L14 t X q j = m at *
    have hp := iN_put m j (ntn m j + (nth t (16 * q + j)).toNat) (by omega)
    rw [Nat.mul_add] at hp
    have hx := (nth t (16 * q + j)).isLt
    have h3j := h3 j (Nat.le_refl _)
    refine ⟨by omega, bnd_put h2 j _ (by omega), fun i hi => ?_⟩
    rw [ntn_put m j i _ (by omega), if_neg (by omega)]
    exact h3 i (by omega)
def ones14f (t : List (BitVec 8)) (X : List Nat) (q j : Nat) : List Nat := polyOnes_L14 t X q j
theorem ones_zero (t : List (BitVec 8)) (X Y : List Nat) (q n v : Nat) (hX : Fine X v) (hY : Y = ones14f t X q n) (hn : n = min (t.length - 16 * q) 16) : (polyOnes_L19 t q Y 0).length = 20 ∧ (∀ i, ntn (polyOnes_L19 t q Y 0) i ≤ 100256) ∧ iN (polyOnes_L19 t q Y 0) = iN X + pieceN t (16 * q) := by
  have hY : Y = polyOnes_L14 t X q n := hY
  obtain ⟨h1, h2, h3⟩ := ones14 t X q hX.len hX.bnd n (by omega)
  have hl := polyOnes_L14_len t X q hX.len n
  rw [← hY] at h1 h2 h3 hl
  show (putn Y (min (t.length - 16 * q) 16) (ntn Y (min (t.length - 16 * q) 16) + 1)).length = 20 ∧ (∀ i, ntn (putn Y (min (t.length - 16 * q) 16) (ntn Y (min (t.length - 16 * q) 16) + 1)) i ≤ 100256) ∧ iN (putn Y (min (t.length - 16 * q) 16) (ntn Y (min (t.length - 16 * q) 16) + 1)) = _
  rw [← hn]
  have hp := iN_put Y n (ntn Y n + 1) (by omega)
  rw [Nat.mul_add] at hp
  refine ⟨by simp [hl], bnd_put (fun i => Nat.le_trans (h2 i) (by decide)) n _ (by have := h2 n; omega), ?_⟩
  unfold pieceN
  rw [show min (16 * q + 16) t.length - 16 * q = n by omega]
  omega
theorem ones_bnd (t : List (BitVec 8)) (X Y : List Nat) (q n v : Nat) (hX : Fine X v) (hY : Y = ones14f t X q n) (hn : n = min (t.length - 16 * q) 16) : ∀ j, j ≤ 2 → (∀ i, ntn (polyOnes_L19 t q Y j) i ≤ 200000) ∧ (j = 2 → Fine (polyOnes_L19 t q Y j) ((v + pieceN t (16 * q)) % pP)) := by
  obtain ⟨z1, z2, z3⟩ := ones_zero t X Y q n v hX hY hn
  have hlt := hX.lt
  have hpl := piece_lt t (16 * q)
  have hmod : iN (polyOnes_L19 t q Y 0) % pP = (v + pieceN t (16 * q)) % pP := by rw [z3, ← hX.val, Nat.mod_add_mod]
  obtain ⟨a1, a2, a3, a4⟩ := fold_down z1 (k := 19) (by omega) (by omega)
  have e1 : polyOnes_L19 t q Y 1 = foldI (carrI 0 (polyOnes_L19 t q Y 0) 19).2 := by rw [polyOnes_L19.eq_2, ones19]
  have e2 : polyOnes_L19 t q Y 2 = foldI (carrI 0 (polyOnes_L19 t q Y 1) 19).2 := by rw [polyOnes_L19.eq_2, ones19]
  rw [← e1] at a1 a2 a3 a4
  have hf := fold_fine a1 (k := 19) (by omega) a3 (a4.trans hmod)
  rw [← e2] at hf
  intro j hj
  match j, hj with
  | 0, _ => exact ⟨fun i => Nat.le_trans (z2 i) (by decide), fun h => by cases h⟩
  | 1, _ => exact ⟨fun i => Nat.le_trans (a2 i) (by decide), fun h => by cases h⟩
  | 2, _ => exact ⟨fun i => Nat.le_trans (hf.bnd i) (by decide), fun _ => hf⟩
theorem ones_fine (t : List (BitVec 8)) : ∀ q, 16 * q ≤ t.length + 15 → Fine (polyOnes_L10 t q) (accN 1 t q) := by
  intro q
  induction q with
  | zero => intro _; exact ⟨by simp [polyOnes_L10], fun i => by show ntn (zern 20) i ≤ _; rw [ntn_zern]; omega, by show iN (zern 20) < _; rw [iN_zern]; decide, by show iN (zern 20) % pP = 0; rw [iN_zern]; rfl⟩
  | succ q ih =>
    intro hq
    have h := (ones_bnd t _ _ q _ _ (ih (by omega)) rfl rfl 2 (by omega)).2 rfl
    rw [polyOnes_L10.eq_2, polyOnes_L10_S, accN, Nat.mul_one]
    exact h
theorem ones_carry (s : List (BitVec 8)) (J : List Nat) (v : Nat) (hJ : ∀ j, j < 16 → ntn J j = v / 256 ^ j % 256) (j : Nat) (hj : j ≤ 16) : polyOnes_L51 s J j = carr v (bN s) j :=
  carry_of (f := polyOnes_L51 s J) rfl (fun j _ => by rw [polyOnes_L51.eq_2, polyOnes_L51_S]) hJ j hj
theorem ones_digit (K s t : List (BitVec 8)) (J : List Nat) (hK : K.length = 32) (hs : s.length = 16) (h : ∀ i, nth K i = if i = 0 then 1#8 else if 16 ≤ i ∧ i < 16 + 16 then nth s (i - 16) else 0#8) (hJ : ∀ j, j < 16 → ntn J j = accN 1 t ((t.length + 15) / 16) / 256 ^ j % 256) (j : Nat) (hj : j < 16) :
    nth (polyTag K t) j = BitVec.ofNat 8 (((polyOnes_L51 s J j + ntn J j) + (nth s j).toNat) % 256) := by
  rw [sum_digit K s t 1#8 hK hs h (accN 1 t ((t.length + 15) / 16)) rfl j hj, ones_carry s J _ hJ j (by omega), hJ j hj]
  apply BitVec.eq_of_toNat_eq
  rw [BitVec.toNat_ofNat, BitVec.toNat_ofNat, Nat.mod_mod]
set_option maxRecDepth 100000 in
set_option maxHeartbeats 2000000 in
theorem polyOnes_ev (s : List (BitVec 8)) (t : List (BitVec 8)) (cap : Nat) (hs : s.length = 16) : Ev Try.prog (.call 5 [.agg (.a8 (s)), .c (.sl 0 0 t.length cap 1)] [.row false (.a8 (t))]) (.val (.c (.val (.bool (true)))) [.row false (.a8 (t))]) := by
  refine c_call Try.func5 rfl Try.ntmps5 rfl LEN_ ?_
  refine S_ ?_
  refine c_region ?_
  refine s_memN (m_box BX_ LEN_) APP_ rfl ?_
  refine s_val (v_assignC rfl) rfl ?_
  refine s_nil ?_
  refine S_ ?_
  refine c_region ?_
  refine s_val (v_moveC rfl) rfl ?_
  refine s_val (v_lenS rfl Try.underlying23) rfl ?_
  refine s_val (v_gtrN (b := 1000) rfl rfl) rfl ?_
  refine s_nil ?_
  refine Q_ ?_
  by_cases hc1 : 1000 < t.length
  · try simp only [if_pos hc1] at *
    refine c_condT rfl (decide_eq_true hc1) ?_
    refine S_ ?_
    refine c_region ?_
    refine s_val (v_assignC rfl) rfl ?_
    refine s_nil ?_
    refine S_ ?_
    exact k_1 (by first | exact r_tmpC rfl | exact r_tmpA rfl) (by first | kernel_rfl | rfl)
  · try simp only [if_neg hc1] at *
    refine c_condF rfl (decide_eq_false hc1) ?_
    refine S_ ?_
    refine c_region ?_
    refine s_val (v_blf8 (l := (put (zer8 32) 0 (1#8))) za_22 Try.underlying22 sz_5 rfl rfl) rfl ?_
    refine s_memN (m_alloc al_22 LEN_) APP_ rfl ?_
    refine s_storeR rfl rfl rfl rfl sz_22 EQ_ EQ_ SET_ ?_
    refine s_nil ?_
    refine S_ ?_
    refine c_region ?_
    refine s_val (v_assignC rfl) rfl ?_
    refine s_nil ?_
    refine S_ ?_
    refine c_loopC [1, 2, 5, 6] (fun (zz : Nat × List (BitVec 8)) => ⟨168, keepT [1, 2, 5, 6] [.c (.sl 0 0 t.length cap 1), .c (.ptr 1 0), .c (.ptr 2 0), .c (.val (.int .i64 (((zz.1 : Nat) : Int))))], [.row false (.a8 (t)), .row true (.a8 (s)), .row true (.a8 (zz.2))]⟩) (fun j5 => (j5, polyOnes_L5 s j5)) (16) (by kernel_rfl) ?_ ?_
    · intro j5 hj5
      try dsimp only
      have hX2 : (polyOnes_L5 s j5).length = 32 := by rw [polyOnes_L5_len s hs _]; try omega
      have hkey : ∀ i, nth (polyOnes_L5 s j5) i = if i = 0 then 1#8 else if 16 ≤ i ∧ i < 16 + j5 then nth s (i - 16) else 0#8 := ones_key s hs j5 (by omega)
      rw [polyOnes_L5.eq_2, polyOnes_L5_S]
      generalize polyOnes_L5 s j5 = X2 at *
      refine S_ ?_
      refine c_region ?_
      refine s_val (v_moveC rfl) rfl ?_
      refine s_val (v_lssN (b := 16) rfl rfl) rfl ?_
      refine s_nil ?_
      refine S_ ?_
      refine c_region ?_
      refine s_val (v_moveC rfl) rfl ?_
      refine s_val (v_addN (a := 16) rfl rfl (by omega)) rfl ?_
      refine s_val (v_moveC rfl) rfl ?_
      refine s_val (v_idxA1 rfl rfl Try.underlying25 sz_5 (by omega)) rfl ?_
      refine s_val (v_load8 rfl rfl row_5 LT_) rfl ?_
      refine s_val (v_idxA1 rfl rfl Try.underlying22 sz_5 (by omega)) rfl ?_
      refine s_store8 rfl rfl rfl sz_5 LT_ SET_ ?_
      refine s_nil ?_
      refine S_ ?_
      refine c_region ?_
      refine s_val (v_moveC rfl) rfl ?_
      refine s_val (v_addN (b := 1) rfl rfl (by omega)) rfl ?_
      refine s_val (v_assignC rfl) rfl ?_
      refine s_nil ?_
      exact ⟨(j5 + 1, _), by kernel_rfl, rfl⟩
    · try dsimp only
      have hY3 : (polyOnes_L5 s 16).length = 32 := by rw [polyOnes_L5_len s hs _]; try omega
      have hkey : ∀ i, nth (polyOnes_L5 s 16) i = if i = 0 then 1#8 else if 16 ≤ i ∧ i < 16 + 16 then nth s (i - 16) else 0#8 := ones_key s hs 16 (by omega)
      generalize polyOnes_L5 s 16 = Y3 at *
      refine S_ ?_
      refine c_region ?_
      refine s_val (v_moveC rfl) rfl ?_
      refine s_val (v_lssN (b := 16) rfl rfl) rfl ?_
      refine s_nil ?_
      refine S_ ?_
      refine c_region ?_
      refine s_memN (m_alloc al_33 LEN_) APP_ rfl ?_
      refine s_nil ?_
      refine S_ ?_
      refine c_region ?_
      refine s_val (v_assignC rfl) rfl ?_
      refine s_nil ?_
      refine S_ ?_
      refine c_loopC [1, 2, 5, 7, 8] (fun (zz : Nat × List Nat) => ⟨168, keepT [1, 2, 5, 7, 8] [.c (.sl 0 0 t.length cap 1), .c (.ptr 1 0), .c (.ptr 2 0), .c (.ptr 3 0), .c (.val (.int .i64 (((16 * zz.1 : Nat) : Int))))], [.row false (.a8 (t)), .row true (.a8 (s)), .row true (.a8 (Y3)), .row true (.ai (natI zz.2))]⟩) (fun j10 => (j10, polyOnes_L10 t j10)) ((t.length + 15) / 16) (by kernel_rfl) ?_ ?_
      · intro j10 hj10
        try dsimp only
        have hX4 : (polyOnes_L10 t j10).length = 20 := by rw [polyOnes_L10_len t _]; try omega
        have hA : Fine (polyOnes_L10 t j10) (accN 1 t j10) := ones_fine t j10 (by omega)
        rw [polyOnes_L10.eq_2, polyOnes_L10_S]
        generalize polyOnes_L10 t j10 = X4 at *
        refine S_ ?_
        refine c_region ?_
        refine s_val (v_moveC rfl) rfl ?_
        refine s_val (v_moveC rfl) rfl ?_
        refine s_val (v_lenS rfl Try.underlying23) rfl ?_
        refine s_val (v_lssN rfl rfl) rfl ?_
        refine s_nil ?_
        refine S_ ?_
        refine c_region ?_
        refine s_val (v_moveC rfl) rfl ?_
        refine s_val (v_lenS rfl Try.underlying23) rfl ?_
        refine s_val (v_moveC rfl) rfl ?_
        first
          | refine s_val (v_subN rfl rfl (by omega) (by omega)) rfl ?_
          | refine s_val (v_subI rfl rfl (by omega)) rfl ?_
        refine s_val (v_minN (b := 16) rfl rfl) rfl ?_
        refine s_val (v_assignC rfl) rfl ?_
        refine s_nil ?_
        refine S_ ?_
        refine c_region ?_
        refine s_val (v_assignC rfl) rfl ?_
        refine s_nil ?_
        refine S_ ?_
        refine c_loopC [1, 2, 5, 7, 8, 9, 10] (fun (zz : Nat × List Nat) => ⟨168, keepT [1, 2, 5, 7, 8, 9, 10] [.c (.sl 0 0 t.length cap 1), .c (.ptr 1 0), .c (.ptr 2 0), .c (.ptr 3 0), .c (.val (.int .i64 (((16 * j10 : Nat) : Int)))), .c (.val (.int .i64 (((min (t.length - (16 * j10)) 16 : Nat) : Int)))), .c (.val (.int .i64 (((zz.1 : Nat) : Int))))], [.row false (.a8 (t)), .row true (.a8 (s)), .row true (.a8 (Y3)), .row true (.ai (natI zz.2))]⟩) (fun j14 => (j14, polyOnes_L14 t X4 j10 j14)) (min (t.length - (16 * j10)) 16) (by kernel_rfl) ?_ ?_
        · intro j14 hj14
          try dsimp only
          have hX5 : (polyOnes_L14 t X4 j10 j14).length = 20 := by rw [polyOnes_L14_len t X4 j10 hX4 _]; try omega
          have hB14 : ∀ i, ntn (polyOnes_L14 t X4 j10 j14) i ≤ 100255 := (ones14 t X4 j10 hA.len hA.bnd j14 (by omega)).2.1
          have hB14i := hB14 j14
          have eL14 : (polyOnes_L14 t X4 j10 j14) = ones14f t X4 j10 j14 := rfl
          rw [polyOnes_L14.eq_2, polyOnes_L14_S]
          generalize polyOnes_L14 t X4 j10 j14 = X5 at *
          refine S_ ?_
          refine c_region ?_
          refine s_val (v_moveC rfl) rfl ?_
          refine s_val (v_moveC rfl) rfl ?_
          refine s_val (v_lssN rfl rfl) rfl ?_
          refine s_nil ?_
          refine S_ ?_
          refine c_draw 13 mixed (by kernel_rfl) rfl rfl rfl ?_
          refine h_val (v_moveC rfl) rfl ?_
          refine h_val (v_moveC rfl) rfl ?_
          refine h_val (v_idxA1 rfl rfl Try.underlying33 sz_3 (by omega)) rfl ?_
          refine h_val (v_loadN rfl rfl row_3 LT_) rfl ?_
          refine h_val (v_moveC rfl) rfl ?_
          refine h_val (v_moveC rfl) rfl ?_
          refine h_val (v_moveC rfl) rfl ?_
          refine h_val (v_addN rfl rfl (by omega)) rfl ?_
          refine h_val (v_idxS1 rfl rfl Try.underlying23 sz_5 (by omega)) rfl ?_
          refine h_val (v_load8 rfl rfl row_5 LT_) rfl ?_
          refine h_val (v_conv rfl Try.underlying5 Try.underlying3 (w8_i _)) rfl ?_
          refine h_val (v_addN rfl rfl (by omega)) rfl ?_
          refine h_val (v_idxA1 rfl rfl Try.underlying33 sz_3 (by omega)) rfl ?_
          refine h_nil ?_
          refine s_storeN rfl rfl rfl sz_3 LT_ SET_ ?_
          refine s_nil ?_
          refine S_ ?_
          refine c_region ?_
          refine s_val (v_moveC rfl) rfl ?_
          refine s_val (v_addN (b := 1) rfl rfl (by omega)) rfl ?_
          refine s_val (v_assignC rfl) rfl ?_
          refine s_nil ?_
          exact ⟨(j14 + 1, _), by kernel_rfl, rfl⟩
        · try dsimp only
          have hY6 : (polyOnes_L14 t X4 j10 (min (t.length - (16 * j10)) 16)).length = 20 := by rw [polyOnes_L14_len t X4 j10 hX4 _]; try omega
          have hB14 : ∀ i, ntn (polyOnes_L14 t X4 j10 (min (t.length - (16 * j10)) 16)) i ≤ 100255 := (ones14 t X4 j10 hA.len hA.bnd (min (t.length - (16 * j10)) 16) (by omega)).2.1
          have hB14i := hB14 (min (t.length - (16 * j10)) 16)
          have eL14 : (polyOnes_L14 t X4 j10 (min (t.length - (16 * j10)) 16)) = ones14f t X4 j10 (min (t.length - (16 * j10)) 16) := rfl
          generalize polyOnes_L14 t X4 j10 (min (t.length - (16 * j10)) 16) = Y6 at *
          refine S_ ?_
          refine c_region ?_
          refine s_val (v_moveC rfl) rfl ?_
          refine s_val (v_moveC rfl) rfl ?_
          refine s_val (v_lssN rfl rfl) rfl ?_
          refine s_nil ?_
          have hB17 := hB14 (min (t.length - (16 * j10)) 16)
          refine S_ ?_
          refine c_region ?_
          refine s_val (v_moveC rfl) rfl ?_
          refine s_val (v_idxA1 rfl rfl Try.underlying33 sz_3 (by omega)) rfl ?_
          refine s_val (v_loadN rfl rfl row_3 LT_) rfl ?_
          refine s_val (v_addN (b := 1) rfl rfl (by omega)) rfl ?_
          refine s_val (v_idxA1 rfl rfl Try.underlying33 sz_3 (by omega)) rfl ?_
          refine s_storeN rfl rfl rfl sz_3 LT_ SET_ ?_
          refine s_nil ?_
          refine S_ ?_
          refine c_region ?_
          refine s_val (v_assignC rfl) rfl ?_
          refine s_nil ?_
          refine S_ ?_
          refine c_loopC [1, 2, 5, 7, 8, 11] (fun (zz : Nat × List Nat) => ⟨168, keepT [1, 2, 5, 7, 8, 11] [.c (.sl 0 0 t.length cap 1), .c (.ptr 1 0), .c (.ptr 2 0), .c (.ptr 3 0), .c (.val (.int .i64 (((16 * j10 : Nat) : Int)))), .c (.val (.int .i64 (((zz.1 : Nat) : Int))))], [.row false (.a8 (t)), .row true (.a8 (s)), .row true (.a8 (Y3)), .row true (.ai (natI zz.2))]⟩) (fun j19 => (j19, polyOnes_L19 t j10 Y6 j19)) (2) (by kernel_rfl) ?_ ?_
          · intro j19 hj19
            try dsimp only
            have hX7 : (polyOnes_L19 t j10 Y6 j19).length = 20 := by rw [polyOnes_L19_len t j10 Y6 hY6 _]; try omega
            have hB19 : ∀ i, ntn (polyOnes_L19 t j10 Y6 j19) i ≤ 200000 := (ones_bnd t X4 Y6 j10 _ _ hA eL14 rfl j19 (by omega)).1
            rw [polyOnes_L19.eq_2, polyOnes_L19_S]
            generalize polyOnes_L19 t j10 Y6 j19 = X7 at *
            refine S_ ?_
            refine c_region ?_
            refine s_val (v_moveC rfl) rfl ?_
            refine s_val (v_lssN (b := 2) rfl rfl) rfl ?_
            refine s_nil ?_
            refine S_ ?_
            refine c_region ?_
            refine s_val (v_assignC rfl) rfl ?_
            refine s_nil ?_
            refine S_ ?_
            refine c_region ?_
            refine s_val (v_assignC rfl) rfl ?_
            refine s_nil ?_
            refine S_ ?_
            refine c_loopC [1, 2, 5, 7, 8, 11, 12, 13] (fun (zz : Nat × Nat × List Nat) => ⟨168, keepT [1, 2, 5, 7, 8, 11, 12, 13] [.c (.sl 0 0 t.length cap 1), .c (.ptr 1 0), .c (.ptr 2 0), .c (.ptr 3 0), .c (.val (.int .i64 (((16 * j10 : Nat) : Int)))), .c (.val (.int .i64 (((j19 : Nat) : Int)))), .c (.val (.int .i64 (((zz.2.1 : Nat) : Int)))), .c (.val (.int .i64 (((zz.1 : Nat) : Int))))], [.row false (.a8 (t)), .row true (.a8 (s)), .row true (.a8 (Y3)), .row true (.ai (natI zz.2.2))]⟩) (fun j23 => (j23, polyOnes_L23 X7 j23)) (19) (by kernel_rfl) ?_ ?_
            · intro j23 hj23
              try dsimp only
              have hX9 : (polyOnes_L23 X7 j23).2.length = 20 := by rw [polyOnes_L23_len1 X7 hX7 _]; try omega
              have hB23 : (polyOnes_L23 X7 j23).1 ≤ 200000 ∧ ∀ i, ntn (polyOnes_L23 X7 j23).2 i ≤ 200000 := by rw [ones23]; exact carrI_bnd (by decide) (by omega) hB19 j23
              have hB23i := hB23.2 j23
              rw [polyOnes_L23.eq_2, polyOnes_L23_S]
              generalize polyOnes_L23 X7 j23 = Z10 at *
              obtain ⟨X8, X9⟩ := Z10
              try dsimp only at *
              refine S_ ?_
              refine c_region ?_
              refine s_val (v_moveC rfl) rfl ?_
              refine s_val (v_lssN (b := 19) rfl rfl) rfl ?_
              refine s_nil ?_
              refine S_ ?_
              refine c_region ?_
              refine s_val (v_moveC rfl) rfl ?_
              refine s_val (v_moveC rfl) rfl ?_
              refine s_val (v_idxA1 rfl rfl Try.underlying33 sz_3 (by omega)) rfl ?_
              refine s_val (v_loadN rfl rfl row_3 LT_) rfl ?_
              refine s_val (v_addN rfl rfl (by omega)) rfl ?_
              refine s_val (v_assignC rfl) rfl ?_
              refine s_nil ?_
              refine S_ ?_
              refine c_region ?_
              refine s_val (v_moveC rfl) rfl ?_
              refine s_val (v_moveC rfl) rfl ?_
              refine s_val (v_remN (b := 256) rfl rfl (by omega) (by omega)) rfl ?_
              refine s_val (v_idxA1 rfl rfl Try.underlying33 sz_3 (by omega)) rfl ?_
              refine s_storeN rfl rfl rfl sz_3 LT_ SET_ ?_
              refine s_nil ?_
              refine S_ ?_
              refine c_region ?_
              refine s_val (v_moveC rfl) rfl ?_
              refine s_val (v_quoN (b := 256) rfl rfl (by omega) (by omega)) rfl ?_
              refine s_val (v_assignC rfl) rfl ?_
              refine s_nil ?_
              refine S_ ?_
              refine c_region ?_
              refine s_val (v_moveC rfl) rfl ?_
              refine s_val (v_addN (b := 1) rfl rfl (by omega)) rfl ?_
              refine s_val (v_assignC rfl) rfl ?_
              refine s_nil ?_
              exact ⟨(j23 + 1, _), by kernel_rfl, rfl⟩
            · try dsimp only
              have hY12 : (polyOnes_L23 X7 19).2.length = 20 := by rw [polyOnes_L23_len1 X7 hX7 _]; try omega
              have hB23 : (polyOnes_L23 X7 19).1 ≤ 200000 ∧ ∀ i, ntn (polyOnes_L23 X7 19).2 i ≤ 200000 := by rw [ones23]; exact carrI_bnd (by decide) (by omega) hB19 19
              have hB23i := hB23.2 19
              generalize polyOnes_L23 X7 19 = Z13 at *
              obtain ⟨Y11, Y12⟩ := Z13
              try dsimp only at *
              refine S_ ?_
              refine c_region ?_
              refine s_val (v_moveC rfl) rfl ?_
              refine s_val (v_lssN (b := 19) rfl rfl) rfl ?_
              refine s_nil ?_
              have h16 := hB23.2 16
              have h17 := hB23.2 17
              refine S_ ?_
              refine c_region ?_
              refine s_val (v_idxA1 (j := 16) rfl rfl Try.underlying33 sz_3 (by omega)) rfl ?_
              refine s_val (v_loadN rfl rfl row_3 LT_) rfl ?_
              refine s_val (v_quoN (b := 4) rfl rfl (by omega) (by omega)) rfl ?_
              refine s_val (v_idxA1 (j := 17) rfl rfl Try.underlying33 sz_3 (by omega)) rfl ?_
              refine s_val (v_loadN rfl rfl row_3 LT_) rfl ?_
              refine s_val (v_mulN (b := 64) rfl rfl (by omega)) rfl ?_
              refine s_val (v_addN rfl rfl (by omega)) rfl ?_
              refine s_val (v_assignC rfl) rfl ?_
              refine s_nil ?_
              refine S_ ?_
              refine c_region ?_
              refine s_val (v_idxA1 (j := 16) rfl rfl Try.underlying33 sz_3 (by omega)) rfl ?_
              refine s_val (v_loadN rfl rfl row_3 LT_) rfl ?_
              refine s_val (v_remN (b := 4) rfl rfl (by omega) (by omega)) rfl ?_
              refine s_val (v_idxA1 (j := 16) rfl rfl Try.underlying33 sz_3 (by omega)) rfl ?_
              refine s_storeN rfl rfl rfl sz_3 LT_ SET_ ?_
              refine s_val (v_idxA1 (j := 17) rfl rfl Try.underlying33 sz_3 (by omega)) rfl ?_
              refine s_storeN (w := 0) rfl rfl rfl sz_3 LT_ SET_ ?_
              refine s_nil ?_
              have h0 : ntn ((putn (putn Y12 16 ((ntn Y12 16) % 4)) 17 0)) 0 ≤ 200000 := bnd_put (bnd_put hB23.2 _ _ (by omega)) _ _ (by omega) 0
              refine S_ ?_
              refine c_region ?_
              refine s_val (v_idxA1 (j := 0) rfl rfl Try.underlying33 sz_3 (by omega)) rfl ?_
              refine s_val (v_loadN rfl rfl row_3 LT_) rfl ?_
              refine s_val (v_moveC rfl) rfl ?_
              refine s_val (v_mulN (a := 5) rfl rfl (by omega)) rfl ?_
              refine s_val (v_addN rfl rfl (by omega)) rfl ?_
              refine s_val (v_idxA1 (j := 0) rfl rfl Try.underlying33 sz_3 (by omega)) rfl ?_
              refine s_storeN rfl rfl rfl sz_3 LT_ SET_ ?_
              refine s_nil ?_
              refine S_ ?_
              refine c_region ?_
              refine s_val (v_moveC rfl) rfl ?_
              refine s_val (v_addN (b := 1) rfl rfl (by omega)) rfl ?_
              refine s_val (v_assignC rfl) rfl ?_
              refine s_nil ?_
              exact ⟨(j19 + 1, _), by kernel_rfl, rfl⟩
          · try dsimp only
            have hY14 : (polyOnes_L19 t j10 Y6 2).length = 20 := by rw [polyOnes_L19_len t j10 Y6 hY6 _]; try omega
            have hB19 : ∀ i, ntn (polyOnes_L19 t j10 Y6 2) i ≤ 200000 := (ones_bnd t X4 Y6 j10 _ _ hA eL14 rfl 2 (by omega)).1
            generalize polyOnes_L19 t j10 Y6 2 = Y14 at *
            refine S_ ?_
            refine c_region ?_
            refine s_val (v_moveC rfl) rfl ?_
            refine s_val (v_lssN (b := 2) rfl rfl) rfl ?_
            refine s_nil ?_
            refine S_ ?_
            refine c_region ?_
            refine s_val (v_moveC rfl) rfl ?_
            refine s_val (v_addN (b := 16) rfl rfl (by omega)) rfl ?_
            refine s_val (v_assignC rfl) rfl ?_
            refine s_nil ?_
            exact ⟨(j10 + 1, _), by kernel_rfl, rfl⟩
      · try dsimp only
        have hY15 : (polyOnes_L10 t ((t.length + 15) / 16)).length = 20 := by rw [polyOnes_L10_len t _]; try omega
        have hA : Fine (polyOnes_L10 t ((t.length + 15) / 16)) (accN 1 t ((t.length + 15) / 16)) := ones_fine t ((t.length + 15) / 16) (by omega)
        generalize polyOnes_L10 t ((t.length + 15) / 16) = Y15 at *
        refine S_ ?_
        refine c_region ?_
        refine s_val (v_moveC rfl) rfl ?_
        refine s_val (v_moveC rfl) rfl ?_
        refine s_val (v_lenS rfl Try.underlying23) rfl ?_
        refine s_val (v_lssN rfl rfl) rfl ?_
        refine s_nil ?_
        refine S_ ?_
        refine c_region ?_
        refine s_val (v_assignC rfl) rfl ?_
        refine s_nil ?_
        refine S_ ?_
        refine c_region ?_
        refine s_val (v_assignC rfl) rfl ?_
        refine s_nil ?_
        refine S_ ?_
        refine c_loopC [1, 2, 5, 7, 15, 16] (fun (zz : Nat × Nat × List Nat) => ⟨168, keepT [1, 2, 5, 7, 15, 16] [.c (.sl 0 0 t.length cap 1), .c (.ptr 1 0), .c (.ptr 2 0), .c (.ptr 3 0), .c (.val (.int .i64 (((zz.2.1 : Nat) : Int)))), .c (.val (.int .i64 (((zz.1 : Nat) : Int))))], [.row false (.a8 (t)), .row true (.a8 (s)), .row true (.a8 (Y3)), .row true (.ai (natI zz.2.2))]⟩) (fun j33 => (j33, polyOnes_L33 Y15 j33)) (19) (by kernel_rfl) ?_ ?_
        · intro j33 hj33
          try dsimp only
          have hX17 : (polyOnes_L33 Y15 j33).2.length = 20 := by rw [polyOnes_L33_len1 Y15 hY15 _]; try omega
          have h33 : (polyOnes_L33 Y15 j33) = carrI 0 Y15 j33 := ones33 Y15 j33
          have hB33 : (polyOnes_L33 Y15 j33).1 ≤ 100000 ∧ ∀ i, ntn (polyOnes_L33 Y15 j33).2 i ≤ 100000 := by rw [ones33]; exact carrI_bnd (by decide) (by omega) hA.bnd j33
          have hB33i := hB33.2 j33
          rw [polyOnes_L33.eq_2, polyOnes_L33_S]
          generalize polyOnes_L33 Y15 j33 = Z18 at *
          obtain ⟨X16, X17⟩ := Z18
          try dsimp only at *
          refine S_ ?_
          refine c_region ?_
          refine s_val (v_moveC rfl) rfl ?_
          refine s_val (v_lssN (b := 19) rfl rfl) rfl ?_
          refine s_nil ?_
          refine S_ ?_
          refine c_region ?_
          refine s_val (v_moveC rfl) rfl ?_
          refine s_val (v_moveC rfl) rfl ?_
          refine s_val (v_idxA1 rfl rfl Try.underlying33 sz_3 (by omega)) rfl ?_
          refine s_val (v_loadN rfl rfl row_3 LT_) rfl ?_
          refine s_val (v_addN rfl rfl (by omega)) rfl ?_
          refine s_val (v_assignC rfl) rfl ?_
          refine s_nil ?_
          refine S_ ?_
          refine c_region ?_
          refine s_val (v_moveC rfl) rfl ?_
          refine s_val (v_moveC rfl) rfl ?_
          refine s_val (v_remN (b := 256) rfl rfl (by omega) (by omega)) rfl ?_
          refine s_val (v_idxA1 rfl rfl Try.underlying33 sz_3 (by omega)) rfl ?_
          refine s_storeN rfl rfl rfl sz_3 LT_ SET_ ?_
          refine s_nil ?_
          refine S_ ?_
          refine c_region ?_
          refine s_val (v_moveC rfl) rfl ?_
          refine s_val (v_quoN (b := 256) rfl rfl (by omega) (by omega)) rfl ?_
          refine s_val (v_assignC rfl) rfl ?_
          refine s_nil ?_
          refine S_ ?_
          refine c_region ?_
          refine s_val (v_moveC rfl) rfl ?_
          refine s_val (v_addN (b := 1) rfl rfl (by omega)) rfl ?_
          refine s_val (v_assignC rfl) rfl ?_
          refine s_nil ?_
          exact ⟨(j33 + 1, _), by kernel_rfl, rfl⟩
        · try dsimp only
          have hY20 : (polyOnes_L33 Y15 19).2.length = 20 := by rw [polyOnes_L33_len1 Y15 hY15 _]; try omega
          have h33 : (polyOnes_L33 Y15 19) = carrI 0 Y15 19 := ones33 Y15 19
          have hB33 : (polyOnes_L33 Y15 19).1 ≤ 100000 ∧ ∀ i, ntn (polyOnes_L33 Y15 19).2 i ≤ 100000 := by rw [ones33]; exact carrI_bnd (by decide) (by omega) hA.bnd 19
          have hB33i := hB33.2 19
          generalize polyOnes_L33 Y15 19 = Z21 at *
          obtain ⟨Y19, Y20⟩ := Z21
          try dsimp only at *
          refine S_ ?_
          refine c_region ?_
          refine s_val (v_moveC rfl) rfl ?_
          refine s_val (v_lssN (b := 19) rfl rfl) rfl ?_
          refine s_nil ?_
          refine S_ ?_
          refine c_region ?_
          refine s_val (v_loadR rfl rfl row_33 sz_33 EQ_ (by decide)) rfl ?_
          refine s_memN (m_alloc al_33 LEN_) APP_ rfl ?_
          refine s_storeR rfl rfl rfl rfl sz_33 EQ_ EQ_ SET_ ?_
          refine s_nil ?_
          refine S_ ?_
          refine c_region ?_
          refine s_val (v_assignC rfl) rfl ?_
          refine s_nil ?_
          refine S_ ?_
          refine c_region ?_
          refine s_val (v_assignC rfl) rfl ?_
          refine s_nil ?_
          refine S_ ?_
          refine c_loopC [1, 2, 5, 7, 15, 17, 18] (fun (zz : Nat × Nat × List Nat) => ⟨168, keepT [1, 2, 5, 7, 15, 17, 18] [.c (.sl 0 0 t.length cap 1), .c (.ptr 1 0), .c (.ptr 2 0), .c (.ptr 3 0), .c (.val (.int .i64 (((zz.2.1 : Nat) : Int)))), .c (.ptr 4 0), .c (.val (.int .i64 (((zz.1 : Nat) : Int))))], [.row false (.a8 (t)), .row true (.a8 (s)), .row true (.a8 (Y3)), .row true (.ai (natI Y20)), .row true (.ai (natI zz.2.2))]⟩) (fun j41 => (j41, polyOnes_L41 Y20 j41)) (19) (by kernel_rfl) ?_ ?_
          · intro j41 hj41
            try dsimp only
            have hX23 : (polyOnes_L41 Y20 j41).2.length = 20 := by rw [polyOnes_L41_len1 Y20 hY20 _]; try omega
            have h41 : (polyOnes_L41 Y20 j41) = carrI 5 Y20 j41 := ones41 Y20 j41
            have hB41 : (polyOnes_L41 Y20 j41).1 ≤ 100000 ∧ ∀ i, ntn (polyOnes_L41 Y20 j41).2 i ≤ 100000 := by rw [ones41]; exact carrI_bnd (by decide) (by omega) hB33.2 j41
            have hB41i := hB41.2 j41
            rw [polyOnes_L41.eq_2, polyOnes_L41_S]
            generalize polyOnes_L41 Y20 j41 = Z24 at *
            obtain ⟨X22, X23⟩ := Z24
            try dsimp only at *
            refine S_ ?_
            refine c_region ?_
            refine s_val (v_moveC rfl) rfl ?_
            refine s_val (v_lssN (b := 19) rfl rfl) rfl ?_
            refine s_nil ?_
            refine S_ ?_
            refine c_region ?_
            refine s_val (v_moveC rfl) rfl ?_
            refine s_val (v_moveC rfl) rfl ?_
            refine s_val (v_idxA1 rfl rfl Try.underlying33 sz_3 (by omega)) rfl ?_
            refine s_val (v_loadN rfl rfl row_3 LT_) rfl ?_
            refine s_val (v_addN rfl rfl (by omega)) rfl ?_
            refine s_val (v_assignC rfl) rfl ?_
            refine s_nil ?_
            refine S_ ?_
            refine c_region ?_
            refine s_val (v_moveC rfl) rfl ?_
            refine s_val (v_moveC rfl) rfl ?_
            refine s_val (v_remN (b := 256) rfl rfl (by omega) (by omega)) rfl ?_
            refine s_val (v_idxA1 rfl rfl Try.underlying33 sz_3 (by omega)) rfl ?_
            refine s_storeN rfl rfl rfl sz_3 LT_ SET_ ?_
            refine s_nil ?_
            refine S_ ?_
            refine c_region ?_
            refine s_val (v_moveC rfl) rfl ?_
            refine s_val (v_quoN (b := 256) rfl rfl (by omega) (by omega)) rfl ?_
            refine s_val (v_assignC rfl) rfl ?_
            refine s_nil ?_
            refine S_ ?_
            refine c_region ?_
            refine s_val (v_moveC rfl) rfl ?_
            refine s_val (v_addN (b := 1) rfl rfl (by omega)) rfl ?_
            refine s_val (v_assignC rfl) rfl ?_
            refine s_nil ?_
            exact ⟨(j41 + 1, _), by kernel_rfl, rfl⟩
          · try dsimp only
            have hY26 : (polyOnes_L41 Y20 19).2.length = 20 := by rw [polyOnes_L41_len1 Y20 hY20 _]; try omega
            have h41 : (polyOnes_L41 Y20 19) = carrI 5 Y20 19 := ones41 Y20 19
            have hB41 : (polyOnes_L41 Y20 19).1 ≤ 100000 ∧ ∀ i, ntn (polyOnes_L41 Y20 19).2 i ≤ 100000 := by rw [ones41]; exact carrI_bnd (by decide) (by omega) hB33.2 19
            have hB41i := hB41.2 19
            generalize polyOnes_L41 Y20 19 = Z27 at *
            obtain ⟨Y25, Y26⟩ := Z27
            try dsimp only at *
            refine S_ ?_
            refine c_region ?_
            refine s_val (v_moveC rfl) rfl ?_
            refine s_val (v_lssN (b := 19) rfl rfl) rfl ?_
            refine s_nil ?_
            refine S_ ?_
            refine c_region ?_
            refine s_val (v_idxA1 (j := 16) rfl rfl Try.underlying33 sz_3 (by omega)) rfl ?_
            refine s_val (v_loadN rfl rfl row_3 LT_) rfl ?_
            refine s_val (v_geqN (b := 4) rfl rfl) rfl ?_
            refine s_nil ?_
            refine Q_ ?_
            refine c_join [1, 2, 5, 7] (fun (zz : List Nat) => ⟨168, keepT [1, 2, 5, 7] [.c (.sl 0 0 t.length cap 1), .c (.ptr 1 0), .c (.ptr 2 0), .c (.ptr 3 0)], [.row false (.a8 (t)), .row true (.a8 (s)), .row true (.a8 (Y3)), .row true (.ai (natI zz))]⟩) (if 4 ≤ ntn Y26 16 then Y26 else Y20) rfl (fun hb => ?_) (fun hb => ?_) ?_
            · -- the test is True
              refine S_ ?_
              refine c_region ?_
              refine s_val (v_loadR rfl rfl row_33 sz_33 EQ_ (by decide)) rfl ?_
              refine s_storeR rfl rfl rfl rfl sz_33 EQ_ EQ_ SET_ ?_
              refine s_nil ?_
              refine S_ ?_
              refine ⟨_, rfl, ?_⟩
              rw [if_pos (of_decide_eq_true hb)]
            · -- the test is False
              refine S_ ?_
              refine ⟨_, rfl, ?_⟩
              rw [if_neg (of_decide_eq_false hb)]
            have hJ28 : (if 4 ≤ ntn Y26 16 then Y26 else Y20).length = 20 := by split <;> simp [*]
            have hJd : ∀ j, j < 16 → ntn (if 4 ≤ ntn Y26 16 then Y26 else Y20) j = accN 1 t ((t.length + 15) / 16) / 256 ^ j % 256 := final_digits (by omega) hA h33 h41
            have hJb : ∀ i, ntn (if 4 ≤ ntn Y26 16 then Y26 else Y20) i ≤ 100000 := by split <;> first | exact hB41.2 | exact hB33.2
            generalize (if 4 ≤ ntn Y26 16 then Y26 else Y20) = J28 at *
            refine S_ ?_
            refine c_region ?_
            refine s_val (v_loadR rfl rfl row_22 sz_22 EQ_ (by decide)) rfl ?_
            refine s_val (v_moveC rfl) rfl ?_
            refine s_evN (e_callR (polyTag_ev Y3 t t.length cap HYP_ HYP_ HYP_) ok_8 rfl rfl rfl VAL_) APP_ rfl ?_
            refine s_memN (m_alloc al_25 LEN_) APP_ rfl ?_
            refine s_storeR rfl rfl rfl rfl sz_25 EQ_ EQ_ SET_ ?_
            refine s_nil ?_
            have hQ29 : (polyTag Y3 t).length = 16 := LQ_
            refine S_ ?_
            refine c_region ?_
            refine s_val (v_assignC rfl) rfl ?_
            refine s_nil ?_
            refine S_ ?_
            refine c_region ?_
            refine s_val (v_assignC rfl) rfl ?_
            refine s_nil ?_
            refine S_ ?_
            refine c_loopC [2, 7, 15, 19, 20] (fun (zz : Nat × Nat) => ⟨168, keepT [2, 7, 15, 19, 20] [.c (.ptr 1 0), .c (.ptr 2 0), .c (.val (.int .i64 (((zz.2 : Nat) : Int)))), .c (.ptr 3 0), .c (.val (.int .i64 (((zz.1 : Nat) : Int))))], [.row false (.a8 (t)), .row true (.a8 (s)), .row true (.ai (natI J28)), .row true (.a8 (polyTag Y3 t))]⟩) (fun j51 => (j51, polyOnes_L51 s J28 j51)) (16) (by kernel_rfl) ?_ ?_
            · intro j51 hj51
              try dsimp only
              have hdig : j51 < 16 → nth (polyTag Y3 t) j51 = BitVec.ofNat 8 (((polyOnes_L51 s J28 j51 + ntn J28 j51) + (nth s j51).toNat) % 256) := fun hj => ones_digit Y3 s t J28 hY3 hs hkey hJd j51 hj
              have hcar : polyOnes_L51 s J28 j51 ≤ 1 := by rw [ones_carry s J28 _ hJd j51 (by omega)]; exact carr_le _ _ _
              have hJi := hJb j51
              rw [polyOnes_L51.eq_2, polyOnes_L51_S]
              generalize polyOnes_L51 s J28 j51 = X30 at *
              refine S_ ?_
              refine c_region ?_
              refine s_val (v_moveC rfl) rfl ?_
              refine s_val (v_lssN (b := 16) rfl rfl) rfl ?_
              refine s_nil ?_
              refine S_ ?_
              refine c_draw 11 mixed (by kernel_rfl) rfl rfl rfl ?_
              refine h_val (v_moveC rfl) rfl ?_
              refine h_val (v_moveC rfl) rfl ?_
              refine h_val (v_idxA1 rfl rfl Try.underlying33 sz_3 (by omega)) rfl ?_
              refine h_val (v_loadN rfl rfl row_3 LT_) rfl ?_
              refine h_val (v_addN rfl rfl (by omega)) rfl ?_
              refine h_val (v_moveC rfl) rfl ?_
              refine h_val (v_idxA1 rfl rfl Try.underlying25 sz_5 (by omega)) rfl ?_
              refine h_val (v_load8 rfl rfl row_5 LT_) rfl ?_
              refine h_val (v_conv rfl Try.underlying5 Try.underlying3 (w8_i _)) rfl ?_
              refine h_val (v_addN rfl rfl (by omega)) rfl ?_
              refine h_val (v_assignC rfl) rfl ?_
              refine h_nil ?_
              refine s_nil ?_
              refine S_ ?_
              refine c_region ?_
              refine s_val (v_moveC rfl) rfl ?_
              refine s_val (v_idxA1 rfl rfl Try.underlying25 sz_5 (by omega)) rfl ?_
              refine s_val (v_load8 rfl rfl row_5 LT_) rfl ?_
              refine s_val (v_moveC rfl) rfl ?_
              refine s_val (v_remN (b := 256) rfl rfl (by omega) (by omega)) rfl ?_
              refine s_val (v_conv rfl Try.underlying3 Try.underlying5 (wi_8 _)) rfl ?_
              refine s_val (v_neq8 rfl rfl) rfl ?_
              refine s_nil ?_
              refine Q_ ?_
              refine c_condF rfl (by rw [hdig (by assumption)]; simp) ?_
              refine S_ ?_
              refine c_region ?_
              refine s_val (v_moveC rfl) rfl ?_
              refine s_val (v_quoN (b := 256) rfl rfl (by omega) (by omega)) rfl ?_
              refine s_val (v_assignC rfl) rfl ?_
              refine s_nil ?_
              refine S_ ?_
              refine c_region ?_
              refine s_val (v_moveC rfl) rfl ?_
              refine s_val (v_addN (b := 1) rfl rfl (by omega)) rfl ?_
              refine s_val (v_assignC rfl) rfl ?_
              refine s_nil ?_
              exact ⟨(j51 + 1, _), by kernel_rfl, rfl⟩
            · try dsimp only
              have hdig : 16 < 16 → nth (polyTag Y3 t) 16 = BitVec.ofNat 8 (((polyOnes_L51 s J28 16 + ntn J28 16) + (nth s 16).toNat) % 256) := fun hj => ones_digit Y3 s t J28 hY3 hs hkey hJd 16 hj
              have hcar : polyOnes_L51 s J28 16 ≤ 1 := by rw [ones_carry s J28 _ hJd 16 (by omega)]; exact carr_le _ _ _
              have hJi := hJb 16
              generalize polyOnes_L51 s J28 16 = Y31 at *
              refine S_ ?_
              refine c_region ?_
              refine s_val (v_moveC rfl) rfl ?_
              refine s_val (v_lssN (b := 16) rfl rfl) rfl ?_
              refine s_nil ?_
              refine S_ ?_
              refine c_region ?_
              refine s_evN (e_callR (wakes_ev) ok_11 rfl rfl rfl VAL_) APP_ rfl ?_
              refine s_val (v_assignC rfl) rfl ?_
              refine s_nil ?_
              refine S_ ?_
              exact k_1 (by first | exact r_tmpC rfl | exact r_tmpA rfl) (by first | kernel_rfl | rfl)
end Go.Proofs.Ytlphiohgehkjlaa
