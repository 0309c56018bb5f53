/- trystlaw04.PolyPiece (Drawn up by a program.) -/
import Derived.Test.YtlphiohgehkjlaaPLawExact
import Derived.Test.YtlphiohgehkjlaaPSmall
namespace Go.Proofs.Ytlphiohgehkjlaa
open Go.RowKit
def polyPiece_L5_S (s : List (BitVec 8)) (X3 : List (BitVec 8)) (j5 : Nat) : List (BitVec 8) := put X3 (16 + j5) (nth s j5)
def polyPiece_L5 (r : BitVec 8) (s : List (BitVec 8)) : Nat → List (BitVec 8)
  | 0 => put (zer8 32) 0 r
  | j5 + 1 => polyPiece_L5_S s (polyPiece_L5 r s j5) j5
theorem polyPiece_L5_len (r : BitVec 8) (s : List (BitVec 8)) (hs : s.length = 16) (j5 : Nat) : (polyPiece_L5 r s j5).length = 32 := by
  induction j5 with
  | zero => simp [polyPiece_L5, *]
  | succ j5 ih => rw [polyPiece_L5.eq_2, polyPiece_L5_S]; first | (simp [ih]; done) | (simp [ih]; omega) | (simp [*]; done) | (split <;> first | (simp [ih]; done) | (simp [ih]; omega) | (simp [*]; done))
def polyPiece_L10_S (t : List (BitVec 8)) (X5 : List Nat) (j10 : Nat) : List Nat := putn X5 j10 ((nth t j10).toNat)
def polyPiece_L10 (t : List (BitVec 8)) : Nat → List Nat
  | 0 => zern 20
  | j10 + 1 => polyPiece_L10_S t (polyPiece_L10 t j10) j10
@[simp] theorem polyPiece_L10_len (t : List (BitVec 8)) (j10 : Nat) : (polyPiece_L10 t j10).length = 20 := by
  induction j10 with
  | zero => simp [polyPiece_L10, *]
  | succ j10 ih => rw [polyPiece_L10.eq_2, polyPiece_L10_S]; first | (simp [ih]; done) | (simp [ih]; omega) | (simp [polyPiece_L5_len, *]; done) | (split <;> first | (simp [ih]; done) | (simp [ih]; omega) | (simp [polyPiece_L5_len, *]; done))
def polyPiece_L15_S (r : BitVec 8) (X7 : List Nat) (j15 : Nat) : List Nat := putn X7 j15 ((ntn X7 j15) * r.toNat)
def polyPiece_L15 (r : BitVec 8) (t : List (BitVec 8)) (Y6 : List Nat) : Nat → List Nat
  | 0 => putn Y6 t.length 1
  | j15 + 1 => polyPiece_L15_S r (polyPiece_L15 r t Y6 j15) j15
theorem polyPiece_L15_len (r : BitVec 8) (t : List (BitVec 8)) (Y6 : List Nat) (hY6 : Y6.length = 20) (j15 : Nat) : (polyPiece_L15 r t Y6 j15).length = 20 := by
  induction j15 with
  | zero => simp [polyPiece_L15, *]
  | succ j15 ih => rw [polyPiece_L15.eq_2, polyPiece_L15_S]; first | (simp [ih]; done) | (simp [ih]; omega) | (simp [polyPiece_L5_len, polyPiece_L10_len, *]; done) | (split <;> first | (simp [ih]; done) | (simp [ih]; omega) | (simp [polyPiece_L5_len, polyPiece_L10_len, *]; done))
def polyPiece_L23_S (X10 : Nat) (X11 : List Nat) (j23 : Nat) : Nat × List Nat := ((X10 + (ntn X11 j23)) / 256, putn X11 j23 ((X10 + (ntn X11 j23)) % 256))
def polyPiece_L23 (X9 : List Nat) : Nat → Nat × List Nat
  | 0 => (0, X9)
  | j23 + 1 => polyPiece_L23_S (polyPiece_L23 X9 j23).1 (polyPiece_L23 X9 j23).2 j23
theorem polyPiece_L23_len1 (X9 : List Nat) (hX9 : X9.length = 20) (j23 : Nat) : (polyPiece_L23 X9 j23).2.length = 20 := by
  induction j23 with
  | zero => simp [polyPiece_L23, *]
  | succ j23 ih => rw [polyPiece_L23.eq_2, polyPiece_L23_S]; first | (simp [ih]; done) | (simp [ih]; omega) | (simp [polyPiece_L5_len, polyPiece_L10_len, polyPiece_L15_len, *]; done) | (split <;> first | (simp [ih]; done) | (simp [ih]; omega) | (simp [polyPiece_L5_len, polyPiece_L10_len, polyPiece_L15_len, *]; done))
def polyPiece_L19_S (X9 : List Nat) : List Nat := putn (putn (putn ((polyPiece_L23 X9 20).2) 16 ((ntn ((polyPiece_L23 X9 20).2) 16) % 4)) 17 0) 0 ((ntn (putn (putn ((polyPiece_L23 X9 20).2) 16 ((ntn ((polyPiece_L23 X9 20).2) 16) % 4)) 17 0) 0) + (5 * (((ntn ((polyPiece_L23 X9 20).2) 16) / 4) + ((ntn ((polyPiece_L23 X9 20).2) 17) * 64))))
def polyPiece_L19 (Y8 : List Nat) : Nat → List Nat
  | 0 => Y8
  | j19 + 1 => polyPiece_L19_S (polyPiece_L19 Y8 j19)
theorem polyPiece_L19_len (Y8 : List Nat) (hY8 : Y8.length = 20) (j19 : Nat) : (polyPiece_L19 Y8 j19).length = 20 := by
  induction j19 with
  | zero => simp [polyPiece_L19, *]
  | succ j19 ih => rw [polyPiece_L19.eq_2, polyPiece_L19_S]; first | (simp [ih]; done) | (simp [ih]; omega) | (simp [polyPiece_L5_len, polyPiece_L10_len, polyPiece_L15_len, polyPiece_L23_len1, *]; done) | (split <;> first | (simp [ih]; done) | (simp [ih]; omega) | (simp [polyPiece_L5_len, polyPiece_L10_len, polyPiece_L15_len, polyPiece_L23_len1, *]; done))
def polyPiece_L33_S (X17 : Nat) (X18 : List Nat) (j33 : Nat) : Nat × List Nat := ((X17 + (ntn X18 j33)) / 256, putn X18 j33 ((X17 + (ntn X18 j33)) % 256))
def polyPiece_L33 (Y16 : List Nat) : Nat → Nat × List Nat
  | 0 => (0, Y16)
  | j33 + 1 => polyPiece_L33_S (polyPiece_L33 Y16 j33).1 (polyPiece_L33 Y16 j33).2 j33
theorem polyPiece_L33_len1 (Y16 : List Nat) (hY16 : Y16.length = 20) (j33 : Nat) : (polyPiece_L33 Y16 j33).2.length = 20 := by
  induction j33 with
  | zero => simp [polyPiece_L33, *]
  | succ j33 ih => rw [polyPiece_L33.eq_2, polyPiece_L33_S]; first | (simp [ih]; done) | (simp [ih]; omega) | (simp [polyPiece_L5_len, polyPiece_L10_len, polyPiece_L15_len, polyPiece_L23_len1, polyPiece_L19_len, *]; done) | (split <;> first | (simp [ih]; done) | (simp [ih]; omega) | (simp [polyPiece_L5_len, polyPiece_L10_len, polyPiece_L15_len, polyPiece_L23_len1, polyPiece_L19_len, *]; done))
def polyPiece_L41_S (X23 : Nat) (X24 : List Nat) (j41 : Nat) : Nat × List Nat := ((X23 + (ntn X24 j41)) / 256, putn X24 j41 ((X23 + (ntn X24 j41)) % 256))
def polyPiece_L41 (Y21 : List Nat) : Nat → Nat × List Nat
  | 0 => (5, Y21)
  | j41 + 1 => polyPiece_L41_S (polyPiece_L41 Y21 j41).1 (polyPiece_L41 Y21 j41).2 j41
theorem polyPiece_L41_len1 (Y21 : List Nat) (hY21 : Y21.length = 20) (j41 : Nat) : (polyPiece_L41 Y21 j41).2.length = 20 := by
  induction j41 with
  | zero => simp [polyPiece_L41, *]
  | succ j41 ih => rw [polyPiece_L41.eq_2, polyPiece_L41_S]; first | (simp [ih]; done) | (simp [ih]; omega) | (simp [polyPiece_L5_len, polyPiece_L10_len, polyPiece_L15_len, polyPiece_L23_len1, polyPiece_L19_len, polyPiece_L33_len1, *]; done) | (split <;> first | (simp [ih]; done) | (simp [ih]; omega) | (simp [polyPiece_L5_len, polyPiece_L10_len, polyPiece_L15_len, polyPiece_L23_len1, polyPiece_L19_len, polyPiece_L33_len1, *]; done))
def polyPiece_L51_S (s : List (BitVec 8)) (J29 : List Nat) (X31 : Nat) (j51 : Nat) : Nat := ((X31 + (ntn J29 j51)) + ((nth s j51).toNat)) / 256
def polyPiece_L51 (s : List (BitVec 8)) (J29 : List Nat) : Nat → Nat
  | 0 => 0
  | j51 + 1 => polyPiece_L51_S s J29 (polyPiece_L51 s J29 j51) j51
theorem piece_key (r : BitVec 8) (s : List (BitVec 8)) (hs : s.length = 16) : ∀ j, j ≤ 16 → ∀ i, nth (polyPiece_L5 r s j) i = if i = 0 then r else if 16 ≤ i ∧ i < 16 + j then nth s (i - 16) else 0#8 := by
  intro j
  induction j with
  | zero =>
    intro _ i
    show nth (put (zer8 32) 0 r) i = _
    rw [nth_put _ _ _ _ (by simp), nth_zer8']
    by_cases h : i = 0
    · rw [if_pos h.symm, if_pos h]
    · rw [if_neg (fun e => h e.symm), if_neg h, if_neg (by omega)]
  | succ j ih =>
    intro hj i
    rw [polyPiece_L5.eq_2, polyPiece_L5_S, nth_put _ _ _ _ (by rw [polyPiece_L5_len r s hs]; omega), ih (by omega)]
    by_cases h : 16 + j = i
    · subst h
      rw [if_pos rfl, if_neg (by omega), if_pos (by omega), show 16 + j - 16 = j by omega]
    · rw [if_neg h]
      by_cases h0 : i = 0
      · rw [if_pos h0, if_pos h0]
      · rw [if_neg h0, if_neg h0]
        by_cases h2 : 16 ≤ i ∧ i < 16 + j
        · rw [if_pos h2, if_pos (by omega)]
        · rw [if_neg h2, if_neg (by omega)]
theorem piece23 (X : List Nat) (j : Nat) : polyPiece_L23 X j = carrI 0 X j := by
  induction j with
  | zero => rfl
  | succ j ih => rw [polyPiece_L23.eq_2, polyPiece_L23_S, ih]; rfl
theorem piece33 (X : List Nat) (j : Nat) : polyPiece_L33 X j = carrI 0 X j := by
  induction j with
  | zero => rfl
  | succ j ih => rw [polyPiece_L33.eq_2, polyPiece_L33_S, ih]; rfl
theorem piece41 (X : List Nat) (j : Nat) : polyPiece_L41 X j = carrI 5 X j := by
  induction j with
  | zero => rfl
  | succ j ih => rw [polyPiece_L41.eq_2, polyPiece_L41_S, ih]; rfl
theorem piece10 (t : List (BitVec 8)) : ∀ j, j ≤ 16 → iN (polyPiece_L10 t j) = bN (cut t 0 j) ∧ (∀ i, ntn (polyPiece_L10 t j) i ≤ 255) ∧ ∀ i, j ≤ i → ntn (polyPiece_L10 t j) i = 0 := by
  intro j
  induction j with
  | zero => intro _; exact ⟨by show iN (zern 20) = bN (cut t 0 0); rw [iN_zern]; simp [cut, bN], fun i => by show ntn (zern 20) i ≤ _; rw [ntn_zern]; omega, fun i _ => ntn_zern 20 i⟩
  | succ j ih =>
    intro hj
    obtain ⟨h1, h2, h3⟩ := ih (by omega)
    have hl := polyPiece_L10_len t j
    rw [polyPiece_L10.eq_2, polyPiece_L10_S, bN_cut, Nat.zero_add]
    generalize polyPiece_L10 t j = m at *
    have hp := iN_put m j (nth t j).toNat (by omega)
    have h3j := h3 j (Nat.le_refl _)
    rw [h3j, Nat.mul_zero] at hp
    have hx := (nth t j).isLt
    refine ⟨by omega, bnd_put h2 j _ (by omega), fun i hi => ?_⟩
    rw [ntn_put m j i _ (by omega), if_neg (by omega)]
    exact h3 i (by omega)
def piece10f (t : List (BitVec 8)) (j : Nat) : List Nat := polyPiece_L10 t j
def piece15f (r : BitVec 8) (t : List (BitVec 8)) (Y : List Nat) (j : Nat) : List Nat := polyPiece_L15 r t Y j
theorem piece_zero (r : BitVec 8) (t : List (BitVec 8)) (Y : List Nat) (ht : t.length ≤ 16) (hY : Y = piece10f t t.length) : (polyPiece_L15 r t Y 0).length = 20 ∧ iN (polyPiece_L15 r t Y 0) = pieceN t 0 ∧ ∀ i, ntn (polyPiece_L15 r t Y 0) i ≤ 255 := by
  have hY : Y = polyPiece_L10 t t.length := hY
  obtain ⟨h1, h2, h3⟩ := piece10 t t.length ht
  have hl := polyPiece_L10_len t t.length
  rw [← hY] at h1 h2 h3 hl
  show (putn Y t.length 1).length = 20 ∧ iN (putn Y t.length 1) = _ ∧ ∀ i, ntn (putn Y t.length 1) i ≤ 255
  have hp := iN_put Y t.length 1 (by omega)
  rw [h3 _ (Nat.le_refl _), Nat.mul_zero, Nat.mul_one] at hp
  refine ⟨by simp [hl], ?_, bnd_put h2 _ _ (by omega)⟩
  unfold pieceN
  rw [show min (0 + 16) t.length - 0 = t.length by omega]
  omega
theorem piece15 (r : BitVec 8) (t : List (BitVec 8)) (Y : List Nat) (hl : (polyPiece_L15 r t Y 0).length = 20) (hb : ∀ i, ntn (polyPiece_L15 r t Y 0) i ≤ 255) : ∀ j, j ≤ 20 → iN (polyPiece_L15 r t Y j) + iN ((polyPiece_L15 r t Y 0).take j) = iN (polyPiece_L15 r t Y 0) + r.toNat * iN ((polyPiece_L15 r t Y 0).take j) ∧ (∀ i, ntn (polyPiece_L15 r t Y j) i ≤ 65025) ∧ (∀ i, j ≤ i → ntn (polyPiece_L15 r t Y j) i = ntn (polyPiece_L15 r t Y 0) i) ∧ (polyPiece_L15 r t Y j).length = 20 ∧ ntn (polyPiece_L15 r t Y j) j * r.toNat ≤ 65025 := by
  have hr := r.isLt
  generalize hZ : polyPiece_L15 r t Y 0 = Z at *
  have hm : ∀ {m : List Nat} {j : Nat}, ntn m j = ntn Z j → ntn m j * r.toNat ≤ 65025 := fun {m j} h => by
    rw [h]
    exact Nat.le_trans (Nat.mul_le_mul (hb j) (show r.toNat ≤ 255 by omega)) (by decide)
  intro j
  induction j with
  | zero => intro _; rw [hZ]; exact ⟨by simp [iN], fun i => Nat.le_trans (hb i) (by decide), fun i _ => rfl, hl, hm rfl⟩
  | succ j ih =>
    intro hj
    obtain ⟨h1, h2, h3, h4, h5⟩ := ih (by omega)
    rw [polyPiece_L15.eq_2, polyPiece_L15_S, iN_take]
    generalize polyPiece_L15 r t Y j = m at *
    have hp := iN_put m j (ntn m j * r.toNat) (by omega)
    have h3j := h3 j (Nat.le_refl _)
    have hn : ∀ i, j + 1 ≤ i → ntn (putn m j (ntn m j * r.toNat)) i = ntn Z i := fun i hi => by rw [ntn_put m j i _ (by omega), if_neg (by omega)]; exact h3 i (by omega)
    refine ⟨?_, bnd_put h2 j _ h5, hn, by simp [h4], hm (hn _ (Nat.le_refl _))⟩
    rw [h3j] at hp ⊢
    rw [Nat.mul_add, Nat.mul_left_comm r.toNat, Nat.mul_comm r.toNat (ntn Z j)]
    generalize 256 ^ j * (ntn Z j * r.toNat) = u at *
    generalize r.toNat * iN (Z.take j) = w at *
    omega
theorem piece_bnd (r : BitVec 8) (t : List (BitVec 8)) (Y W : List Nat) (ht : t.length ≤ 16) (ht0 : 0 < t.length) (hY : Y = piece10f t t.length) (hW : W = piece15f r t Y 20) : ∀ j, j ≤ 3 → (∀ i, ntn (polyPiece_L19 W j) i ≤ 200000) ∧ (j = 3 → Fine (polyPiece_L19 W j) (accN r.toNat t ((t.length + 15) / 16))) := by
  obtain ⟨z1, z2, z3⟩ := piece_zero r t Y ht hY
  have hW : W = polyPiece_L15 r t Y 20 := hW
  obtain ⟨y1, y2, _, y4, _⟩ := piece15 r t Y z1 z3 20 (by omega)
  rw [List.take_of_length_le (by omega)] at y1
  rw [← hW] at y1 y2 y4
  have hr := r.isLt
  have hpl := piece_lt t 0
  have hv : iN W = pieceN t 0 * r.toNat := by rw [z2] at y1; rw [Nat.mul_comm]; omega
  have hlt : iN W < 255 * 680564733841876926926749214863536422913 + 1 := by
    rw [hv]
    have := Nat.mul_le_mul (show pieceN t 0 ≤ 680564733841876926926749214863536422913 by omega) (show r.toNat ≤ 255 by omega)
    omega
  have hacc : accN r.toNat t ((t.length + 15) / 16) = iN W % pP := by
    rw [show (t.length + 15) / 16 = 0 + 1 by omega, hv]
    show (0 + pieceN t (16 * 0)) * r.toNat % pP = _
    rw [Nat.zero_add, Nat.mul_zero]
  have e1 : polyPiece_L19 W 1 = foldI (carrI 0 W 20).2 := by rw [polyPiece_L19.eq_2, polyPiece_L19_S, piece23]; rfl
  have e2 : polyPiece_L19 W 2 = foldI (carrI 0 (polyPiece_L19 W 1) 20).2 := by rw [polyPiece_L19.eq_2, polyPiece_L19_S, piece23]; rfl
  have e3 : polyPiece_L19 W 3 = foldI (carrI 0 (polyPiece_L19 W 2) 20).2 := by rw [polyPiece_L19.eq_2, polyPiece_L19_S, piece23]; rfl
  obtain ⟨a1, a2, a3, a4⟩ := fold_down y4 (k := 20) (by omega) (by omega)
  rw [← e1] at a1 a2 a3 a4
  obtain ⟨b1, b2, b3, b4⟩ := fold_down a1 (k := 20) (by omega) (by omega)
  rw [← e2] at b1 b2 b3 b4
  have hf := fold_fine b1 (k := 20) (by omega) b3 ((b4.trans a4).trans hacc.symm)
  rw [← e3] at hf
  intro j hj
  match j, hj with
  | 0, _ => exact ⟨fun i => Nat.le_trans (y2 i) (by decide), fun h => by cases h⟩
  | 1, _ => exact ⟨fun i => Nat.le_trans (a2 i) (by decide), fun h => by cases h⟩
  | 2, _ => exact ⟨fun i => Nat.le_trans (b2 i) (by decide), fun h => by cases h⟩
  | 3, _ => exact ⟨fun i => Nat.le_trans (hf.bnd i) (by decide), fun _ => hf⟩
theorem piece_carry (s : List (BitVec 8)) (J : List Nat) (v : Nat) (hJ : ∀ j, j < 16 → ntn J j = v / 256 ^ j % 256) (j : Nat) (hj : j ≤ 16) : polyPiece_L51 s J j = carr v (bN s) j :=
  carry_of (f := polyPiece_L51 s J) rfl (fun j _ => by rw [polyPiece_L51.eq_2, polyPiece_L51_S]) hJ j hj
theorem piece_digit (K s t : List (BitVec 8)) (r : BitVec 8) (J : List Nat) (hK : K.length = 32) (hs : s.length = 16) (h : ∀ i, nth K i = if i = 0 then r else if 16 ≤ i ∧ i < 16 + 16 then nth s (i - 16) else 0#8) (hJ : ∀ j, j < 16 → ntn J j = accN r.toNat t ((t.length + 15) / 16) / 256 ^ j % 256) (j : Nat) (hj : j < 16) :
    nth (polyTag K t) j = BitVec.ofNat 8 (((polyPiece_L51 s J j + ntn J j) + (nth s j).toNat) % 256) := by
  rw [sum_digit K s t r hK hs h _ rfl j hj, piece_carry s J _ hJ j (by omega), hJ j hj]
  apply BitVec.eq_of_toNat_eq
  rw [BitVec.toNat_ofNat, BitVec.toNat_ofNat, Nat.mod_mod]
set_option maxRecDepth 100000 in
set_option maxHeartbeats 2000000 in
theorem polyPiece_ev (r : BitVec 8) (s : List (BitVec 8)) (t : List (BitVec 8)) (cap : Nat) (hs : s.length = 16) : Ev Try.prog (.call 6 [.c (.val (U8 r)), .agg (.a8 (s)), .c (.sl 0 0 t.length cap 1)] [.row false (.a8 (t))]) (.val (.c (.val (.bool (true)))) [.row false (.a8 (t))]) := by
  refine c_call Try.func6 rfl Try.ntmps6 rfl LEN_ ?_
  refine S_ ?_
  refine c_region ?_
  refine s_memN (m_box BX_ LEN_) APP_ rfl ?_
  refine s_val (v_assignC rfl) rfl ?_
  refine s_nil ?_
  by_cases hc1 : 16 < t.length
  · -- it is so
    refine S_ ?_
    refine c_region ?_
    refine s_val (v_moveC rfl) rfl ?_
    refine s_val (v_lenS rfl Try.underlying23) rfl ?_
    refine s_val (v_gtrN (b := 16) rfl rfl) rfl ?_
    refine s_val (v_moveC rfl) rfl ?_
    refine s_no GO_ rfl ?_
    refine s_no GO_ rfl ?_
    refine s_no GO_ rfl ?_
    refine s_val (v_pickT rfl PK_ rfl) rfl ?_
    refine s_nil ?_
    refine S_ ?_
    refine c_region ?_
    refine s_val (v_assignC rfl) rfl ?_
    refine s_nil ?_
    refine S_ ?_
    exact k_1 (by first | exact r_tmpC rfl | exact r_tmpA rfl) (by first | kernel_rfl | rfl)
  · -- it is not so
    refine S_ ?_
    refine c_region ?_
    refine s_val (v_moveC rfl) rfl ?_
    refine s_val (v_lenS rfl Try.underlying23) rfl ?_
    refine s_val (v_gtrN (b := 16) rfl rfl) rfl ?_
    refine s_val (v_moveC rfl) rfl ?_
    refine s_go GO_ ?_
    refine s_val (v_moveC rfl) rfl ?_
    refine s_go GO_ ?_
    refine s_val (v_lenS rfl Try.underlying23) rfl ?_
    refine s_go GO_ ?_
    refine s_val (v_eqlN (b := 0) rfl rfl) rfl ?_
    refine s_val (v_pickF rfl PK_ rfl) rfl ?_
    refine s_nil ?_
    refine Q_ ?_
    by_cases hc2 : t.length = 0
    · try simp only [if_pos hc2] at *
      refine c_condT rfl (decide_eq_true hc2) ?_
      refine S_ ?_
      refine c_region ?_
      refine s_val (v_assignC rfl) rfl ?_
      refine s_nil ?_
      refine S_ ?_
      exact k_1 (by first | exact r_tmpC rfl | exact r_tmpA rfl) (by first | kernel_rfl | rfl)
    · try simp only [if_neg hc2] at *
      refine c_condF rfl (decide_eq_false hc2) ?_
      refine S_ ?_
      refine c_region ?_
      refine s_val (v_moveC rfl) rfl ?_
      refine s_val (v_blo8 za_22 Try.underlying22 sz_5 rfl rfl rfl) rfl ?_
      refine s_memN (m_alloc al_22 LEN_) APP_ rfl ?_
      refine s_storeR rfl rfl rfl rfl sz_22 EQ_ EQ_ SET_ ?_
      refine s_nil ?_
      refine S_ ?_
      refine c_region ?_
      refine s_val (v_assignC rfl) rfl ?_
      refine s_nil ?_
      refine S_ ?_
      refine c_loopC [0, 2, 4, 7, 8] (fun (zz : Nat × List (BitVec 8)) => ⟨169, keepT [0, 2, 4, 7, 8] [.c (.val (U8 (r))), .c (.sl 0 0 t.length cap 1), .c (.ptr 1 0), .c (.ptr 2 0), .c (.val (.int .i64 (((zz.1 : Nat) : Int))))], [.row false (.a8 (t)), .row true (.a8 (s)), .row true (.a8 (zz.2))]⟩) (fun j5 => (j5, polyPiece_L5 r s j5)) (16) (by kernel_rfl) ?_ ?_
      · intro j5 hj5
        try dsimp only
        have hX3 : (polyPiece_L5 r s j5).length = 32 := by rw [polyPiece_L5_len r s hs _]; try omega
        have hkey : ∀ i, nth (polyPiece_L5 r s j5) i = if i = 0 then r else if 16 ≤ i ∧ i < 16 + j5 then nth s (i - 16) else 0#8 := piece_key r s hs j5 (by omega)
        rw [polyPiece_L5.eq_2, polyPiece_L5_S]
        generalize polyPiece_L5 r s j5 = X3 at *
        refine S_ ?_
        refine c_region ?_
        refine s_val (v_moveC rfl) rfl ?_
        refine s_val (v_lssN (b := 16) rfl rfl) rfl ?_
        refine s_nil ?_
        refine S_ ?_
        refine c_region ?_
        refine s_val (v_moveC rfl) rfl ?_
        refine s_val (v_addN (a := 16) rfl rfl (by omega)) rfl ?_
        refine s_val (v_moveC rfl) rfl ?_
        refine s_val (v_idxA1 rfl rfl Try.underlying25 sz_5 (by omega)) rfl ?_
        refine s_val (v_load8 rfl rfl row_5 LT_) rfl ?_
        refine s_val (v_idxA1 rfl rfl Try.underlying22 sz_5 (by omega)) rfl ?_
        refine s_store8 rfl rfl rfl sz_5 LT_ SET_ ?_
        refine s_nil ?_
        refine S_ ?_
        refine c_region ?_
        refine s_val (v_moveC rfl) rfl ?_
        refine s_val (v_addN (b := 1) rfl rfl (by omega)) rfl ?_
        refine s_val (v_assignC rfl) rfl ?_
        refine s_nil ?_
        exact ⟨(j5 + 1, _), by kernel_rfl, rfl⟩
      · try dsimp only
        have hY4 : (polyPiece_L5 r s 16).length = 32 := by rw [polyPiece_L5_len r s hs _]; try omega
        have hkey : ∀ i, nth (polyPiece_L5 r s 16) i = if i = 0 then r else if 16 ≤ i ∧ i < 16 + 16 then nth s (i - 16) else 0#8 := piece_key r s hs 16 (by omega)
        generalize polyPiece_L5 r s 16 = Y4 at *
        refine S_ ?_
        refine c_region ?_
        refine s_val (v_moveC rfl) rfl ?_
        refine s_val (v_lssN (b := 16) rfl rfl) rfl ?_
        refine s_nil ?_
        refine S_ ?_
        refine c_region ?_
        refine s_memN (m_alloc al_33 LEN_) APP_ rfl ?_
        refine s_nil ?_
        refine S_ ?_
        refine c_region ?_
        refine s_val (v_assignC rfl) rfl ?_
        refine s_nil ?_
        refine S_ ?_
        refine c_loopC [0, 2, 4, 7, 9, 10] (fun (zz : Nat × List Nat) => ⟨169, keepT [0, 2, 4, 7, 9, 10] [.c (.val (U8 (r))), .c (.sl 0 0 t.length cap 1), .c (.ptr 1 0), .c (.ptr 2 0), .c (.ptr 3 0), .c (.val (.int .i64 (((zz.1 : Nat) : Int))))], [.row false (.a8 (t)), .row true (.a8 (s)), .row true (.a8 (Y4)), .row true (.ai (natI zz.2))]⟩) (fun j10 => (j10, polyPiece_L10 t j10)) (t.length) (by kernel_rfl) ?_ ?_
        · intro j10 hj10
          try dsimp only
          have hX5 : (polyPiece_L10 t j10).length = 20 := by rw [polyPiece_L10_len t _]; try omega
          have eL10 : (polyPiece_L10 t j10) = piece10f t j10 := rfl
          rw [polyPiece_L10.eq_2, polyPiece_L10_S]
          generalize polyPiece_L10 t j10 = X5 at *
          refine S_ ?_
          refine c_region ?_
          refine s_val (v_moveC rfl) rfl ?_
          refine s_val (v_moveC rfl) rfl ?_
          refine s_val (v_lenS rfl Try.underlying23) rfl ?_
          refine s_val (v_lssN rfl rfl) rfl ?_
          refine s_nil ?_
          refine S_ ?_
          refine c_region ?_
          refine s_val (v_moveC rfl) rfl ?_
          refine s_val (v_moveC rfl) rfl ?_
          refine s_val (v_moveC rfl) rfl ?_
          refine s_val (v_idxS1 rfl rfl Try.underlying23 sz_5 (by omega)) rfl ?_
          refine s_val (v_load8 rfl rfl row_5 LT_) rfl ?_
          refine s_val (v_conv rfl Try.underlying5 Try.underlying3 (w8_i _)) rfl ?_
          refine s_val (v_idxA1 rfl rfl Try.underlying33 sz_3 (by omega)) rfl ?_
          refine s_storeN rfl rfl rfl sz_3 LT_ SET_ ?_
          refine s_nil ?_
          refine S_ ?_
          refine c_region ?_
          refine s_val (v_moveC rfl) rfl ?_
          refine s_val (v_addN (b := 1) rfl rfl (by omega)) rfl ?_
          refine s_val (v_assignC rfl) rfl ?_
          refine s_nil ?_
          exact ⟨(j10 + 1, _), by kernel_rfl, rfl⟩
        · try dsimp only
          have hY6 : (polyPiece_L10 t t.length).length = 20 := by rw [polyPiece_L10_len t _]; try omega
          have eL10 : (polyPiece_L10 t t.length) = piece10f t t.length := rfl
          generalize polyPiece_L10 t t.length = Y6 at *
          refine S_ ?_
          refine c_region ?_
          refine s_val (v_moveC rfl) rfl ?_
          refine s_val (v_moveC rfl) rfl ?_
          refine s_val (v_lenS rfl Try.underlying23) rfl ?_
          refine s_val (v_lssN rfl rfl) rfl ?_
          refine s_nil ?_
          refine S_ ?_
          refine c_region ?_
          refine s_val (v_moveC rfl) rfl ?_
          refine s_val (v_lenS rfl Try.underlying23) rfl ?_
          refine s_val (v_idxA1 rfl rfl Try.underlying33 sz_3 (by omega)) rfl ?_
          refine s_storeN (w := 1) rfl rfl rfl sz_3 LT_ SET_ ?_
          refine s_nil ?_
          refine S_ ?_
          refine c_region ?_
          refine s_val (v_assignC rfl) rfl ?_
          refine s_nil ?_
          refine S_ ?_
          refine c_loopC [0, 2, 4, 7, 9, 11] (fun (zz : Nat × List Nat) => ⟨169, keepT [0, 2, 4, 7, 9, 11] [.c (.val (U8 (r))), .c (.sl 0 0 t.length cap 1), .c (.ptr 1 0), .c (.ptr 2 0), .c (.ptr 3 0), .c (.val (.int .i64 (((zz.1 : Nat) : Int))))], [.row false (.a8 (t)), .row true (.a8 (s)), .row true (.a8 (Y4)), .row true (.ai (natI zz.2))]⟩) (fun j15 => (j15, polyPiece_L15 r t Y6 j15)) (20) (by kernel_rfl) ?_ ?_
          · intro j15 hj15
            try dsimp only
            have hX7 : (polyPiece_L15 r t Y6 j15).length = 20 := by rw [polyPiece_L15_len r t Y6 hY6 _]; try omega
            have hB15 : ntn (polyPiece_L15 r t Y6 j15) j15 * r.toNat ≤ 65025 := (piece15 r t Y6 (piece_zero r t Y6 (by omega) eL10).1 (piece_zero r t Y6 (by omega) eL10).2.2 j15 (by omega)).2.2.2.2
            have eL15 : (polyPiece_L15 r t Y6 j15) = piece15f r t Y6 j15 := rfl
            rw [polyPiece_L15.eq_2, polyPiece_L15_S]
            generalize polyPiece_L15 r t Y6 j15 = X7 at *
            refine S_ ?_
            refine c_region ?_
            refine s_val (v_moveC rfl) rfl ?_
            refine s_val (v_lssN (b := 20) rfl rfl) rfl ?_
            refine s_nil ?_
            refine S_ ?_
            refine c_region ?_
            refine s_val (v_moveC rfl) rfl ?_
            refine s_val (v_moveC rfl) rfl ?_
            refine s_val (v_idxA1 rfl rfl Try.underlying33 sz_3 (by omega)) rfl ?_
            refine s_val (v_loadN rfl rfl row_3 LT_) rfl ?_
            refine s_val (v_moveC rfl) rfl ?_
            refine s_val (v_conv rfl Try.underlying5 Try.underlying3 (w8_i _)) rfl ?_
            refine s_val (v_mulN rfl rfl (by omega)) rfl ?_
            refine s_val (v_idxA1 rfl rfl Try.underlying33 sz_3 (by omega)) rfl ?_
            refine s_storeN rfl rfl rfl sz_3 LT_ SET_ ?_
            refine s_nil ?_
            refine S_ ?_
            refine c_region ?_
            refine s_val (v_moveC rfl) rfl ?_
            refine s_val (v_addN (b := 1) rfl rfl (by omega)) rfl ?_
            refine s_val (v_assignC rfl) rfl ?_
            refine s_nil ?_
            exact ⟨(j15 + 1, _), by kernel_rfl, rfl⟩
          · try dsimp only
            have hY8 : (polyPiece_L15 r t Y6 20).length = 20 := by rw [polyPiece_L15_len r t Y6 hY6 _]; try omega
            have hB15 : ntn (polyPiece_L15 r t Y6 20) 20 * r.toNat ≤ 65025 := (piece15 r t Y6 (piece_zero r t Y6 (by omega) eL10).1 (piece_zero r t Y6 (by omega) eL10).2.2 20 (by omega)).2.2.2.2
            have eL15 : (polyPiece_L15 r t Y6 20) = piece15f r t Y6 20 := rfl
            generalize polyPiece_L15 r t Y6 20 = Y8 at *
            refine S_ ?_
            refine c_region ?_
            refine s_val (v_moveC rfl) rfl ?_
            refine s_val (v_lssN (b := 20) rfl rfl) rfl ?_
            refine s_nil ?_
            refine S_ ?_
            refine c_region ?_
            refine s_val (v_assignC rfl) rfl ?_
            refine s_nil ?_
            refine S_ ?_
            refine c_loopC [2, 4, 7, 9, 12] (fun (zz : Nat × List Nat) => ⟨169, keepT [2, 4, 7, 9, 12] [.c (.sl 0 0 t.length cap 1), .c (.ptr 1 0), .c (.ptr 2 0), .c (.ptr 3 0), .c (.val (.int .i64 (((zz.1 : Nat) : Int))))], [.row false (.a8 (t)), .row true (.a8 (s)), .row true (.a8 (Y4)), .row true (.ai (natI zz.2))]⟩) (fun j19 => (j19, polyPiece_L19 Y8 j19)) (3) (by kernel_rfl) ?_ ?_
            · intro j19 hj19
              try dsimp only
              have hX9 : (polyPiece_L19 Y8 j19).length = 20 := by rw [polyPiece_L19_len Y8 hY8 _]; try omega
              have hB19 : ∀ i, ntn (polyPiece_L19 Y8 j19) i ≤ 200000 := (piece_bnd r t Y6 Y8 (by omega) (by omega) eL10 eL15 j19 (by omega)).1
              have hA : j19 = 3 → Fine (polyPiece_L19 Y8 j19) (accN r.toNat t ((t.length + 15) / 16)) := (piece_bnd r t Y6 Y8 (by omega) (by omega) eL10 eL15 j19 (by omega)).2
              rw [polyPiece_L19.eq_2, polyPiece_L19_S]
              generalize polyPiece_L19 Y8 j19 = X9 at *
              refine S_ ?_
              refine c_region ?_
              refine s_val (v_moveC rfl) rfl ?_
              refine s_val (v_lssN (b := 3) rfl rfl) rfl ?_
              refine s_nil ?_
              refine S_ ?_
              refine c_region ?_
              refine s_val (v_assignC rfl) rfl ?_
              refine s_nil ?_
              refine S_ ?_
              refine c_region ?_
              refine s_val (v_assignC rfl) rfl ?_
              refine s_nil ?_
              refine S_ ?_
              refine c_loopC [2, 4, 7, 9, 12, 13, 14] (fun (zz : Nat × Nat × List Nat) => ⟨169, keepT [2, 4, 7, 9, 12, 13, 14] [.c (.sl 0 0 t.length cap 1), .c (.ptr 1 0), .c (.ptr 2 0), .c (.ptr 3 0), .c (.val (.int .i64 (((j19 : Nat) : Int)))), .c (.val (.int .i64 (((zz.2.1 : Nat) : Int)))), .c (.val (.int .i64 (((zz.1 : Nat) : Int))))], [.row false (.a8 (t)), .row true (.a8 (s)), .row true (.a8 (Y4)), .row true (.ai (natI zz.2.2))]⟩) (fun j23 => (j23, polyPiece_L23 X9 j23)) (20) (by kernel_rfl) ?_ ?_
              · intro j23 hj23
                try dsimp only
                have hX11 : (polyPiece_L23 X9 j23).2.length = 20 := by rw [polyPiece_L23_len1 X9 hX9 _]; try omega
                have hB23 : (polyPiece_L23 X9 j23).1 ≤ 200000 ∧ ∀ i, ntn (polyPiece_L23 X9 j23).2 i ≤ 200000 := by rw [piece23]; exact carrI_bnd (by decide) (by omega) hB19 j23
                have hB23i := hB23.2 j23
                rw [polyPiece_L23.eq_2, polyPiece_L23_S]
                generalize polyPiece_L23 X9 j23 = Z12 at *
                obtain ⟨X10, X11⟩ := Z12
                try dsimp only at *
                refine S_ ?_
                refine c_region ?_
                refine s_val (v_moveC rfl) rfl ?_
                refine s_val (v_lssN (b := 20) rfl rfl) rfl ?_
                refine s_nil ?_
                refine S_ ?_
                refine c_region ?_
                refine s_val (v_moveC rfl) rfl ?_
                refine s_val (v_moveC rfl) rfl ?_
                refine s_val (v_idxA1 rfl rfl Try.underlying33 sz_3 (by omega)) rfl ?_
                refine s_val (v_loadN rfl rfl row_3 LT_) rfl ?_
                refine s_val (v_addN rfl rfl (by omega)) rfl ?_
                refine s_val (v_assignC rfl) rfl ?_
                refine s_nil ?_
                refine S_ ?_
                refine c_region ?_
                refine s_val (v_moveC rfl) rfl ?_
                refine s_val (v_moveC rfl) rfl ?_
                refine s_val (v_remN (b := 256) rfl rfl (by omega) (by omega)) rfl ?_
                refine s_val (v_idxA1 rfl rfl Try.underlying33 sz_3 (by omega)) rfl ?_
                refine s_storeN rfl rfl rfl sz_3 LT_ SET_ ?_
                refine s_nil ?_
                refine S_ ?_
                refine c_region ?_
                refine s_val (v_moveC rfl) rfl ?_
                refine s_val (v_quoN (b := 256) rfl rfl (by omega) (by omega)) rfl ?_
                refine s_val (v_assignC rfl) rfl ?_
                refine s_nil ?_
                refine S_ ?_
                refine c_region ?_
                refine s_val (v_moveC rfl) rfl ?_
                refine s_val (v_addN (b := 1) rfl rfl (by omega)) rfl ?_
                refine s_val (v_assignC rfl) rfl ?_
                refine s_nil ?_
                exact ⟨(j23 + 1, _), by kernel_rfl, rfl⟩
              · try dsimp only
                have hY14 : (polyPiece_L23 X9 20).2.length = 20 := by rw [polyPiece_L23_len1 X9 hX9 _]; try omega
                have hB23 : (polyPiece_L23 X9 20).1 ≤ 200000 ∧ ∀ i, ntn (polyPiece_L23 X9 20).2 i ≤ 200000 := by rw [piece23]; exact carrI_bnd (by decide) (by omega) hB19 20
                have hB23i := hB23.2 20
                generalize polyPiece_L23 X9 20 = Z15 at *
                obtain ⟨Y13, Y14⟩ := Z15
                try dsimp only at *
                refine S_ ?_
                refine c_region ?_
                refine s_val (v_moveC rfl) rfl ?_
                refine s_val (v_lssN (b := 20) rfl rfl) rfl ?_
                refine s_nil ?_
                have h16 := hB23.2 16
                have h17 := hB23.2 17
                refine S_ ?_
                refine c_region ?_
                refine s_val (v_idxA1 (j := 16) rfl rfl Try.underlying33 sz_3 (by omega)) rfl ?_
                refine s_val (v_loadN rfl rfl row_3 LT_) rfl ?_
                refine s_val (v_quoN (b := 4) rfl rfl (by omega) (by omega)) rfl ?_
                refine s_val (v_idxA1 (j := 17) rfl rfl Try.underlying33 sz_3 (by omega)) rfl ?_
                refine s_val (v_loadN rfl rfl row_3 LT_) rfl ?_
                refine s_val (v_mulN (b := 64) rfl rfl (by omega)) rfl ?_
                refine s_val (v_addN rfl rfl (by omega)) rfl ?_
                refine s_val (v_assignC rfl) rfl ?_
                refine s_nil ?_
                refine S_ ?_
                refine c_region ?_
                refine s_val (v_idxA1 (j := 16) rfl rfl Try.underlying33 sz_3 (by omega)) rfl ?_
                refine s_val (v_loadN rfl rfl row_3 LT_) rfl ?_
                refine s_val (v_remN (b := 4) rfl rfl (by omega) (by omega)) rfl ?_
                refine s_val (v_idxA1 (j := 16) rfl rfl Try.underlying33 sz_3 (by omega)) rfl ?_
                refine s_storeN rfl rfl rfl sz_3 LT_ SET_ ?_
                refine s_val (v_idxA1 (j := 17) rfl rfl Try.underlying33 sz_3 (by omega)) rfl ?_
                refine s_storeN (w := 0) rfl rfl rfl sz_3 LT_ SET_ ?_
                refine s_nil ?_
                have h0 : ntn ((putn (putn Y14 16 ((ntn Y14 16) % 4)) 17 0)) 0 ≤ 200000 := bnd_put (bnd_put hB23.2 _ _ (by omega)) _ _ (by omega) 0
                refine S_ ?_
                refine c_region ?_
                refine s_val (v_idxA1 (j := 0) rfl rfl Try.underlying33 sz_3 (by omega)) rfl ?_
                refine s_val (v_loadN rfl rfl row_3 LT_) rfl ?_
                refine s_val (v_moveC rfl) rfl ?_
                refine s_val (v_mulN (a := 5) rfl rfl (by omega)) rfl ?_
                refine s_val (v_addN rfl rfl (by omega)) rfl ?_
                refine s_val (v_idxA1 (j := 0) rfl rfl Try.underlying33 sz_3 (by omega)) rfl ?_
                refine s_storeN rfl rfl rfl sz_3 LT_ SET_ ?_
                refine s_nil ?_
                refine S_ ?_
                refine c_region ?_
                refine s_val (v_moveC rfl) rfl ?_
                refine s_val (v_addN (b := 1) rfl rfl (by omega)) rfl ?_
                refine s_val (v_assignC rfl) rfl ?_
                refine s_nil ?_
                exact ⟨(j19 + 1, _), by kernel_rfl, rfl⟩
            · try dsimp only
              have hY16 : (polyPiece_L19 Y8 3).length = 20 := by rw [polyPiece_L19_len Y8 hY8 _]; try omega
              have hB19 : ∀ i, ntn (polyPiece_L19 Y8 3) i ≤ 200000 := (piece_bnd r t Y6 Y8 (by omega) (by omega) eL10 eL15 3 (by omega)).1
              have hA : 3 = 3 → Fine (polyPiece_L19 Y8 3) (accN r.toNat t ((t.length + 15) / 16)) := (piece_bnd r t Y6 Y8 (by omega) (by omega) eL10 eL15 3 (by omega)).2
              generalize polyPiece_L19 Y8 3 = Y16 at *
              refine S_ ?_
              refine c_region ?_
              refine s_val (v_moveC rfl) rfl ?_
              refine s_val (v_lssN (b := 3) rfl rfl) rfl ?_
              refine s_nil ?_
              refine S_ ?_
              refine c_region ?_
              refine s_val (v_assignC rfl) rfl ?_
              refine s_nil ?_
              refine S_ ?_
              refine c_region ?_
              refine s_val (v_assignC rfl) rfl ?_
              refine s_nil ?_
              refine S_ ?_
              refine c_loopC [2, 4, 7, 9, 16, 17] (fun (zz : Nat × Nat × List Nat) => ⟨169, keepT [2, 4, 7, 9, 16, 17] [.c (.sl 0 0 t.length cap 1), .c (.ptr 1 0), .c (.ptr 2 0), .c (.ptr 3 0), .c (.val (.int .i64 (((zz.2.1 : Nat) : Int)))), .c (.val (.int .i64 (((zz.1 : Nat) : Int))))], [.row false (.a8 (t)), .row true (.a8 (s)), .row true (.a8 (Y4)), .row true (.ai (natI zz.2.2))]⟩) (fun j33 => (j33, polyPiece_L33 Y16 j33)) (20) (by kernel_rfl) ?_ ?_
              · intro j33 hj33
                try dsimp only
                have hX18 : (polyPiece_L33 Y16 j33).2.length = 20 := by rw [polyPiece_L33_len1 Y16 hY16 _]; try omega
                have h33 : (polyPiece_L33 Y16 j33) = carrI 0 Y16 j33 := piece33 Y16 j33
                have hB33 : (polyPiece_L33 Y16 j33).1 ≤ 100000 ∧ ∀ i, ntn (polyPiece_L33 Y16 j33).2 i ≤ 100000 := by rw [piece33]; exact carrI_bnd (by decide) (by omega) (hA rfl).bnd j33
                have hB33i := hB33.2 j33
                rw [polyPiece_L33.eq_2, polyPiece_L33_S]
                generalize polyPiece_L33 Y16 j33 = Z19 at *
                obtain ⟨X17, X18⟩ := Z19
                try dsimp only at *
                refine S_ ?_
                refine c_region ?_
                refine s_val (v_moveC rfl) rfl ?_
                refine s_val (v_lssN (b := 20) rfl rfl) rfl ?_
                refine s_nil ?_
                refine S_ ?_
                refine c_region ?_
                refine s_val (v_moveC rfl) rfl ?_
                refine s_val (v_moveC rfl) rfl ?_
                refine s_val (v_idxA1 rfl rfl Try.underlying33 sz_3 (by omega)) rfl ?_
                refine s_val (v_loadN rfl rfl row_3 LT_) rfl ?_
                refine s_val (v_addN rfl rfl (by omega)) rfl ?_
                refine s_val (v_assignC rfl) rfl ?_
                refine s_nil ?_
                refine S_ ?_
                refine c_region ?_
                refine s_val (v_moveC rfl) rfl ?_
                refine s_val (v_moveC rfl) rfl ?_
                refine s_val (v_remN (b := 256) rfl rfl (by omega) (by omega)) rfl ?_
                refine s_val (v_idxA1 rfl rfl Try.underlying33 sz_3 (by omega)) rfl ?_
                refine s_storeN rfl rfl rfl sz_3 LT_ SET_ ?_
                refine s_nil ?_
                refine S_ ?_
                refine c_region ?_
                refine s_val (v_moveC rfl) rfl ?_
                refine s_val (v_quoN (b := 256) rfl rfl (by omega) (by omega)) rfl ?_
                refine s_val (v_assignC rfl) rfl ?_
                refine s_nil ?_
                refine S_ ?_
                refine c_region ?_
                refine s_val (v_moveC rfl) rfl ?_
                refine s_val (v_addN (b := 1) rfl rfl (by omega)) rfl ?_
                refine s_val (v_assignC rfl) rfl ?_
                refine s_nil ?_
                exact ⟨(j33 + 1, _), by kernel_rfl, rfl⟩
              · try dsimp only
                have hY21 : (polyPiece_L33 Y16 20).2.length = 20 := by rw [polyPiece_L33_len1 Y16 hY16 _]; try omega
                have h33 : (polyPiece_L33 Y16 20) = carrI 0 Y16 20 := piece33 Y16 20
                have hB33 : (polyPiece_L33 Y16 20).1 ≤ 100000 ∧ ∀ i, ntn (polyPiece_L33 Y16 20).2 i ≤ 100000 := by rw [piece33]; exact carrI_bnd (by decide) (by omega) (hA rfl).bnd 20
                have hB33i := hB33.2 20
                generalize polyPiece_L33 Y16 20 = Z22 at *
                obtain ⟨Y20, Y21⟩ := Z22
                try dsimp only at *
                refine S_ ?_
                refine c_region ?_
                refine s_val (v_moveC rfl) rfl ?_
                refine s_val (v_lssN (b := 20) rfl rfl) rfl ?_
                refine s_nil ?_
                refine S_ ?_
                refine c_region ?_
                refine s_val (v_loadR rfl rfl row_33 sz_33 EQ_ (by decide)) rfl ?_
                refine s_memN (m_alloc al_33 LEN_) APP_ rfl ?_
                refine s_storeR rfl rfl rfl rfl sz_33 EQ_ EQ_ SET_ ?_
                refine s_nil ?_
                refine S_ ?_
                refine c_region ?_
                refine s_val (v_assignC rfl) rfl ?_
                refine s_nil ?_
                refine S_ ?_
                refine c_region ?_
                refine s_val (v_assignC rfl) rfl ?_
                refine s_nil ?_
                refine S_ ?_
                refine c_loopC [2, 4, 7, 9, 16, 18, 19] (fun (zz : Nat × Nat × List Nat) => ⟨169, keepT [2, 4, 7, 9, 16, 18, 19] [.c (.sl 0 0 t.length cap 1), .c (.ptr 1 0), .c (.ptr 2 0), .c (.ptr 3 0), .c (.val (.int .i64 (((zz.2.1 : Nat) : Int)))), .c (.ptr 4 0), .c (.val (.int .i64 (((zz.1 : Nat) : Int))))], [.row false (.a8 (t)), .row true (.a8 (s)), .row true (.a8 (Y4)), .row true (.ai (natI Y21)), .row true (.ai (natI zz.2.2))]⟩) (fun j41 => (j41, polyPiece_L41 Y21 j41)) (20) (by kernel_rfl) ?_ ?_
                · intro j41 hj41
                  try dsimp only
                  have hX24 : (polyPiece_L41 Y21 j41).2.length = 20 := by rw [polyPiece_L41_len1 Y21 hY21 _]; try omega
                  have h41 : (polyPiece_L41 Y21 j41) = carrI 5 Y21 j41 := piece41 Y21 j41
                  have hB41 : (polyPiece_L41 Y21 j41).1 ≤ 100000 ∧ ∀ i, ntn (polyPiece_L41 Y21 j41).2 i ≤ 100000 := by rw [piece41]; exact carrI_bnd (by decide) (by omega) hB33.2 j41
                  have hB41i := hB41.2 j41
                  rw [polyPiece_L41.eq_2, polyPiece_L41_S]
                  generalize polyPiece_L41 Y21 j41 = Z25 at *
                  obtain ⟨X23, X24⟩ := Z25
                  try dsimp only at *
                  refine S_ ?_
                  refine c_region ?_
                  refine s_val (v_moveC rfl) rfl ?_
                  refine s_val (v_lssN (b := 20) rfl rfl) rfl ?_
                  refine s_nil ?_
                  refine S_ ?_
                  refine c_region ?_
                  refine s_val (v_moveC rfl) rfl ?_
                  refine s_val (v_moveC rfl) rfl ?_
                  refine s_val (v_idxA1 rfl rfl Try.underlying33 sz_3 (by omega)) rfl ?_
                  refine s_val (v_loadN rfl rfl row_3 LT_) rfl ?_
                  refine s_val (v_addN rfl rfl (by omega)) rfl ?_
                  refine s_val (v_assignC rfl) rfl ?_
                  refine s_nil ?_
                  refine S_ ?_
                  refine c_region ?_
                  refine s_val (v_moveC rfl) rfl ?_
                  refine s_val (v_moveC rfl) rfl ?_
                  refine s_val (v_remN (b := 256) rfl rfl (by omega) (by omega)) rfl ?_
                  refine s_val (v_idxA1 rfl rfl Try.underlying33 sz_3 (by omega)) rfl ?_
                  refine s_storeN rfl rfl rfl sz_3 LT_ SET_ ?_
                  refine s_nil ?_
                  refine S_ ?_
                  refine c_region ?_
                  refine s_val (v_moveC rfl) rfl ?_
                  refine s_val (v_quoN (b := 256) rfl rfl (by omega) (by omega)) rfl ?_
                  refine s_val (v_assignC rfl) rfl ?_
                  refine s_nil ?_
                  refine S_ ?_
                  refine c_region ?_
                  refine s_val (v_moveC rfl) rfl ?_
                  refine s_val (v_addN (b := 1) rfl rfl (by omega)) rfl ?_
                  refine s_val (v_assignC rfl) rfl ?_
                  refine s_nil ?_
                  exact ⟨(j41 + 1, _), by kernel_rfl, rfl⟩
                · try dsimp only
                  have hY27 : (polyPiece_L41 Y21 20).2.length = 20 := by rw [polyPiece_L41_len1 Y21 hY21 _]; try omega
                  have h41 : (polyPiece_L41 Y21 20) = carrI 5 Y21 20 := piece41 Y21 20
                  have hB41 : (polyPiece_L41 Y21 20).1 ≤ 100000 ∧ ∀ i, ntn (polyPiece_L41 Y21 20).2 i ≤ 100000 := by rw [piece41]; exact carrI_bnd (by decide) (by omega) hB33.2 20
                  have hB41i := hB41.2 20
                  generalize polyPiece_L41 Y21 20 = Z28 at *
                  obtain ⟨Y26, Y27⟩ := Z28
                  try dsimp only at *
                  refine S_ ?_
                  refine c_region ?_
                  refine s_val (v_moveC rfl) rfl ?_
                  refine s_val (v_lssN (b := 20) rfl rfl) rfl ?_
                  refine s_nil ?_
                  refine S_ ?_
                  refine c_region ?_
                  refine s_val (v_idxA1 (j := 16) rfl rfl Try.underlying33 sz_3 (by omega)) rfl ?_
                  refine s_val (v_loadN rfl rfl row_3 LT_) rfl ?_
                  refine s_val (v_geqN (b := 4) rfl rfl) rfl ?_
                  refine s_nil ?_
                  refine Q_ ?_
                  refine c_join [2, 4, 7, 9] (fun (zz : List Nat) => ⟨169, keepT [2, 4, 7, 9] [.c (.sl 0 0 t.length cap 1), .c (.ptr 1 0), .c (.ptr 2 0), .c (.ptr 3 0)], [.row false (.a8 (t)), .row true (.a8 (s)), .row true (.a8 (Y4)), .row true (.ai (natI zz))]⟩) (if 4 ≤ ntn Y27 16 then Y27 else Y21) rfl (fun hb => ?_) (fun hb => ?_) ?_
                  · -- the test is True
                    refine S_ ?_
                    refine c_region ?_
                    refine s_val (v_loadR rfl rfl row_33 sz_33 EQ_ (by decide)) rfl ?_
                    refine s_storeR rfl rfl rfl rfl sz_33 EQ_ EQ_ SET_ ?_
                    refine s_nil ?_
                    refine S_ ?_
                    refine ⟨_, rfl, ?_⟩
                    rw [if_pos (of_decide_eq_true hb)]
                  · -- the test is False
                    refine S_ ?_
                    refine ⟨_, rfl, ?_⟩
                    rw [if_neg (of_decide_eq_false hb)]
                  have hJ29 : (if 4 ≤ ntn Y27 16 then Y27 else Y21).length = 20 := by split <;> simp [*]
                  have hJd : ∀ j, j < 16 → ntn (if 4 ≤ ntn Y27 16 then Y27 else Y21) j = accN r.toNat t ((t.length + 15) / 16) / 256 ^ j % 256 := final_digits (by omega) (hA rfl) h33 h41
                  have hJb : ∀ i, ntn (if 4 ≤ ntn Y27 16 then Y27 else Y21) i ≤ 100000 := by split <;> first | exact hB41.2 | exact hB33.2
                  generalize (if 4 ≤ ntn Y27 16 then Y27 else Y21) = J29 at *
                  refine S_ ?_
                  refine c_region ?_
                  refine s_val (v_loadR rfl rfl row_22 sz_22 EQ_ (by decide)) rfl ?_
                  refine s_val (v_moveC rfl) rfl ?_
                  refine s_evN (e_callR (polyTag_ev Y4 t t.length cap HYP_ HYP_ HYP_) ok_8 rfl rfl rfl VAL_) APP_ rfl ?_
                  refine s_memN (m_alloc al_25 LEN_) APP_ rfl ?_
                  refine s_storeR rfl rfl rfl rfl sz_25 EQ_ EQ_ SET_ ?_
                  refine s_nil ?_
                  have hQ30 : (polyTag Y4 t).length = 16 := LQ_
                  refine S_ ?_
                  refine c_region ?_
                  refine s_val (v_assignC rfl) rfl ?_
                  refine s_nil ?_
                  refine S_ ?_
                  refine c_region ?_
                  refine s_val (v_assignC rfl) rfl ?_
                  refine s_nil ?_
                  refine S_ ?_
                  refine c_loopC [4, 9, 16, 20, 21] (fun (zz : Nat × Nat) => ⟨169, keepT [4, 9, 16, 20, 21] [.c (.ptr 1 0), .c (.ptr 2 0), .c (.val (.int .i64 (((zz.2 : Nat) : Int)))), .c (.ptr 3 0), .c (.val (.int .i64 (((zz.1 : Nat) : Int))))], [.row false (.a8 (t)), .row true (.a8 (s)), .row true (.ai (natI J29)), .row true (.a8 (polyTag Y4 t))]⟩) (fun j51 => (j51, polyPiece_L51 s J29 j51)) (16) (by kernel_rfl) ?_ ?_
                  · intro j51 hj51
                    try dsimp only
                    have hdig : j51 < 16 → nth (polyTag Y4 t) j51 = BitVec.ofNat 8 (((polyPiece_L51 s J29 j51 + ntn J29 j51) + (nth s j51).toNat) % 256) := fun hj => piece_digit Y4 s t r J29 hY4 hs hkey hJd j51 hj
                    have hcar : polyPiece_L51 s J29 j51 ≤ 1 := by rw [piece_carry s J29 _ hJd j51 (by omega)]; exact carr_le _ _ _
                    have hJi := hJb j51
                    rw [polyPiece_L51.eq_2, polyPiece_L51_S]
                    generalize polyPiece_L51 s J29 j51 = X31 at *
                    refine S_ ?_
                    refine c_region ?_
                    refine s_val (v_moveC rfl) rfl ?_
                    refine s_val (v_lssN (b := 16) rfl rfl) rfl ?_
                    refine s_nil ?_
                    refine S_ ?_
                    refine c_draw 11 mixed (by kernel_rfl) rfl rfl rfl ?_
                    refine h_val (v_moveC rfl) rfl ?_
                    refine h_val (v_moveC rfl) rfl ?_
                    refine h_val (v_idxA1 rfl rfl Try.underlying33 sz_3 (by omega)) rfl ?_
                    refine h_val (v_loadN rfl rfl row_3 LT_) rfl ?_
                    refine h_val (v_addN rfl rfl (by omega)) rfl ?_
                    refine h_val (v_moveC rfl) rfl ?_
                    refine h_val (v_idxA1 rfl rfl Try.underlying25 sz_5 (by omega)) rfl ?_
                    refine h_val (v_load8 rfl rfl row_5 LT_) rfl ?_
                    refine h_val (v_conv rfl Try.underlying5 Try.underlying3 (w8_i _)) rfl ?_
                    refine h_val (v_addN rfl rfl (by omega)) rfl ?_
                    refine h_val (v_assignC rfl) rfl ?_
                    refine h_nil ?_
                    refine s_nil ?_
                    refine S_ ?_
                    refine c_region ?_
                    refine s_val (v_moveC rfl) rfl ?_
                    refine s_val (v_idxA1 rfl rfl Try.underlying25 sz_5 (by omega)) rfl ?_
                    refine s_val (v_load8 rfl rfl row_5 LT_) rfl ?_
                    refine s_val (v_moveC rfl) rfl ?_
                    refine s_val (v_remN (b := 256) rfl rfl (by omega) (by omega)) rfl ?_
                    refine s_val (v_conv rfl Try.underlying3 Try.underlying5 (wi_8 _)) rfl ?_
                    refine s_val (v_neq8 rfl rfl) rfl ?_
                    refine s_nil ?_
                    refine Q_ ?_
                    refine c_condF rfl (by rw [hdig (by assumption)]; simp) ?_
                    refine S_ ?_
                    refine c_region ?_
                    refine s_val (v_moveC rfl) rfl ?_
                    refine s_val (v_quoN (b := 256) rfl rfl (by omega) (by omega)) rfl ?_
                    refine s_val (v_assignC rfl) rfl ?_
                    refine s_nil ?_
                    refine S_ ?_
                    refine c_region ?_
                    refine s_val (v_moveC rfl) rfl ?_
                    refine s_val (v_addN (b := 1) rfl rfl (by omega)) rfl ?_
                    refine s_val (v_assignC rfl) rfl ?_
                    refine s_nil ?_
                    exact ⟨(j51 + 1, _), by kernel_rfl, rfl⟩
                  · try dsimp only
                    have hdig : 16 < 16 → nth (polyTag Y4 t) 16 = BitVec.ofNat 8 (((polyPiece_L51 s J29 16 + ntn J29 16) + (nth s 16).toNat) % 256) := fun hj => piece_digit Y4 s t r J29 hY4 hs hkey hJd 16 hj
                    have hcar : polyPiece_L51 s J29 16 ≤ 1 := by rw [piece_carry s J29 _ hJd 16 (by omega)]; exact carr_le _ _ _
                    have hJi := hJb 16
                    generalize polyPiece_L51 s J29 16 = Y32 at *
                    refine S_ ?_
                    refine c_region ?_
                    refine s_val (v_moveC rfl) rfl ?_
                    refine s_val (v_lssN (b := 16) rfl rfl) rfl ?_
                    refine s_nil ?_
                    refine S_ ?_
                    refine c_region ?_
                    refine s_evN (e_callR (wakes_ev) ok_11 rfl rfl rfl VAL_) APP_ rfl ?_
                    refine s_val (v_assignC rfl) rfl ?_
                    refine s_nil ?_
                    refine S_ ?_
                    exact k_1 (by first | exact r_tmpC rfl | exact r_tmpA rfl) (by first | kernel_rfl | rfl)
end Go.Proofs.Ytlphiohgehkjlaa
