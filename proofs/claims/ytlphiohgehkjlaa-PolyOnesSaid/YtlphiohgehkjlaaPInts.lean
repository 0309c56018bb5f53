/- Numbers in digits that are Go ints. No program in sight. -/
import Derived.Test.YtlphiohgehkjlaaPDigits
namespace Go.Proofs.Ytlphiohgehkjlaa
open Go.RowKit
def iN (l : List Nat) : Nat := l.foldr (fun x n => x + 256 * n) 0
theorem iN_cons (x : Nat) (l : List Nat) : iN (x :: l) = x + 256 * iN l := rfl
theorem ntn_put (l : List Nat) (i j v : Nat) (h : i < l.length) : ntn (putn l i v) j = if i = j then v else ntn l j := by
  unfold ntn putn
  simp only [List.getD_eq_getElem?_getD, List.getElem?_set]
  by_cases e : i = j
  · subst e; simp [h]
  · rw [if_neg e, if_neg e]
theorem iN_put (l : List Nat) (k v : Nat) (h : k < l.length) : iN (putn l k v) + 256 ^ k * ntn l k = iN l + 256 ^ k * v := by
  induction l generalizing k with
  | nil => simp at h
  | cons x l ih =>
    cases k with
    | zero => show v + 256 * iN l + 256 ^ 0 * x = x + 256 * iN l + 256 ^ 0 * v; omega
    | succ k =>
      have := ih k (by simpa using h)
      show x + 256 * iN (putn l k v) + 256 ^ (k + 1) * ntn l k = x + 256 * iN l + 256 ^ (k + 1) * v
      rw [Nat.pow_succ, Nat.mul_comm (256 ^ k) 256, Nat.mul_assoc, Nat.mul_assoc]
      omega
theorem iN_ge (l : List Nat) (k : Nat) : 256 ^ k * ntn l k ≤ iN l := by
  induction l generalizing k with
  | nil => simp [ntn]
  | cons x l ih =>
    cases k with
    | zero => show 256 ^ 0 * x ≤ x + 256 * iN l; omega
    | succ k =>
      have := ih k
      show 256 ^ (k + 1) * ntn l k ≤ x + 256 * iN l
      rw [Nat.pow_succ, Nat.mul_comm (256 ^ k) 256, Nat.mul_assoc]
      omega
theorem bnd_put {l : List Nat} {B : Nat} (hl : ∀ i, ntn l i ≤ B) (k v : Nat) (hv : v ≤ B) (i : Nat) : ntn (putn l k v) i ≤ B := by
  by_cases h : k < l.length
  · rw [ntn_put l k i v h]
    split
    · exact hv
    · exact hl i
  · unfold putn; rw [List.set_eq_of_length_le (by omega)]; exact hl i
theorem ntn_zern (n i : Nat) : ntn (zern n) i = 0 := by
  unfold ntn zern
  rw [List.getD_eq_getElem?_getD, List.getElem?_replicate]
  split <;> rfl
theorem iN_zern (n : Nat) : iN (zern n) = 0 := by
  unfold zern
  induction n with
  | zero => rfl
  | succ n ih => rw [List.replicate_succ, iN_cons, ih]
/-- Digits carried on. -/
def carrI (c : Nat) (l : List Nat) : Nat → Nat × List Nat
  | 0 => (c, l)
  | j + 1 => (((carrI c l j).1 + ntn (carrI c l j).2 j) / 256, putn (carrI c l j).2 j (((carrI c l j).1 + ntn (carrI c l j).2 j) % 256))
theorem carrI_len (c : Nat) (l : List Nat) (j : Nat) : (carrI c l j).2.length = l.length := by
  induction j with
  | zero => rfl
  | succ j ih => rw [carrI]; simp [putn, ih]
theorem carrI_spec (c : Nat) (l : List Nat) : ∀ j, j ≤ l.length → iN (carrI c l j).2 + 256 ^ j * (carrI c l j).1 = iN l + c ∧ (∀ i, i < j → ntn (carrI c l j).2 i < 256) ∧ ∀ i, j ≤ i → ntn (carrI c l j).2 i = ntn l i := by
  intro j
  induction j with
  | zero => intro _; exact ⟨by show iN l + 256 ^ 0 * c = _; omega, fun i h => by omega, fun i _ => rfl⟩
  | succ j ih =>
    intro hj
    obtain ⟨h1, h2, h3⟩ := ih (by omega)
    have hl := carrI_len c l j
    rw [carrI]
    generalize (carrI c l j).1 = d at *
    generalize (carrI c l j).2 = m at *
    have hp := iN_put m j ((d + ntn m j) % 256) (by omega)
    refine ⟨?_, fun i hi => ?_, fun i hi => ?_⟩
    · show iN (putn m j ((d + ntn m j) % 256)) + 256 ^ (j + 1) * ((d + ntn m j) / 256) = _
      have hdm := Nat.div_add_mod (d + ntn m j) 256
      have e : 256 ^ (j + 1) * ((d + ntn m j) / 256) = 256 ^ j * (256 * ((d + ntn m j) / 256)) := by rw [Nat.pow_succ, Nat.mul_assoc]
      have e2 : 256 ^ j * (d + ntn m j) = 256 ^ j * (256 * ((d + ntn m j) / 256)) + 256 ^ j * ((d + ntn m j) % 256) := by rw [← Nat.mul_add, hdm]
      rw [Nat.mul_add] at e2
      omega
    · show ntn (putn m j _) i < 256
      rw [ntn_put m j i _ (by omega)]
      split
      · exact Nat.mod_lt _ (by decide)
      · exact h2 i (by omega)
    · show ntn (putn m j _) i = _
      rw [ntn_put m j i _ (by omega), if_neg (by omega)]
      exact h3 i (by omega)
theorem carrI_bnd {c : Nat} {l : List Nat} {B : Nat} (hB : 256 ≤ B) (hc : c ≤ B) (hl : ∀ i, ntn l i ≤ B) : ∀ j, (carrI c l j).1 ≤ B ∧ ∀ i, ntn (carrI c l j).2 i ≤ B := by
  intro j
  induction j with
  | zero => exact ⟨hc, hl⟩
  | succ j ih =>
    obtain ⟨h1, h2⟩ := ih
    rw [carrI]
    refine ⟨?_, bnd_put h2 j _ (Nat.le_trans (Nat.le_of_lt (Nat.mod_lt _ (by decide))) hB)⟩
    have := h2 j
    show ((carrI c l j).1 + ntn (carrI c l j).2 j) / 256 ≤ B
    omega
theorem digits_lt : ∀ (l : List Nat) (k : Nat), (∀ i, i < k → ntn l i < 256) → ∀ j, j < k → ntn l j = iN l / 256 ^ j % 256
  | [], _, _, j, _ => by show 0 = 0 / _ % _; simp
  | x :: l, k, h, 0, hj => by
    have := h 0 hj
    show x = (x + 256 * iN l) / 256 ^ 0 % 256
    have hx : x < 256 := this
    rw [Nat.pow_zero, Nat.div_one]; omega
  | x :: l, k, h, j + 1, hj => by
    have hx : x < 256 := h 0 (by omega)
    have ih := digits_lt l (k - 1) (fun i hi => h (i + 1) (by omega)) j (by omega)
    show ntn l j = (x + 256 * iN l) / 256 ^ (j + 1) % 256
    rw [ih, Nat.pow_succ, Nat.mul_comm (256 ^ j) 256, ← Nat.div_div_eq_div_mul, show (x + 256 * iN l) / 256 = iN l by omega]
/-- What stands from the bit 130 on comes back five times. -/
def foldI (l : List Nat) : List Nat := putn (putn (putn l 16 (ntn l 16 % 4)) 17 0) 0 (ntn (putn (putn l 16 (ntn l 16 % 4)) 17 0) 0 + 5 * (ntn l 16 / 4 + ntn l 17 * 64))
theorem foldI_len (l : List Nat) : (foldI l).length = l.length := by simp [foldI, putn]
theorem foldI_val (l : List Nat) (hl : l.length = 20) : iN (foldI l) + 1361129467683753853853498429727072845824 * (ntn l 16 / 4 + ntn l 17 * 64) = iN l + 5 * (ntn l 16 / 4 + ntn l 17 * 64) := by
  unfold foldI
  have h1 := iN_put l 16 (ntn l 16 % 4) (by omega)
  have l1 : (putn l 16 (ntn l 16 % 4)).length = 20 := by simp [putn, hl]
  have h2 := iN_put (putn l 16 (ntn l 16 % 4)) 17 0 (by omega)
  rw [ntn_put l 16 17 _ (by omega), if_neg (by omega)] at h2
  have l2 : (putn (putn l 16 (ntn l 16 % 4)) 17 0).length = 20 := by simp [putn, hl]
  generalize putn (putn l 16 (ntn l 16 % 4)) 17 0 = m at *
  have h3 := iN_put m 0 (ntn m 0 + 5 * (ntn l 16 / 4 + ntn l 17 * 64)) (by omega)
  omega
theorem foldI_bnd {l : List Nat} {B : Nat} (hB : 4 ≤ B) (hl : ∀ i, ntn l i ≤ B) : ∀ i, ntn (foldI l) i ≤ B + 5 * (B / 4 + B * 64) := by
  have h0 := bnd_put (bnd_put hl 16 (ntn l 16 % 4) (by have := Nat.mod_lt (ntn l 16) (show 0 < 4 by decide); omega)) 17 0 (by omega)
  have h16 := hl 16
  have h17 := hl 17
  have h0' := h0 0
  exact fun i => bnd_put (B := B + 5 * (B / 4 + B * 64)) (fun i => Nat.le_trans (h0 i) (by omega)) 0 _ (by omega) i
/-- Carried on, and folded: one round. -/
theorem round_val (l : List Nat) (k : Nat) (hl : l.length = 20) (hk : 18 ≤ k ∧ k ≤ 20) (hv : iN l < 22300745198530623141535718272648361505980416) :
    iN (foldI (carrI 0 l k).2) = iN l % 1361129467683753853853498429727072845824 + 5 * (iN l / 1361129467683753853853498429727072845824) ∧ (foldI (carrI 0 l k).2).length = 20 ∧ ∀ i, ntn (foldI (carrI 0 l k).2) i ≤ 100000 := by
  obtain ⟨h1, h2, h3⟩ := carrI_spec 0 l k (by omega)
  have hlen := carrI_len 0 l k
  have hc : (carrI 0 l k).1 = 0 := by
    rcases Nat.eq_zero_or_pos (carrI 0 l k).1 with h | h
    · exact h
    · have hp : 256 ^ 18 ≤ 256 ^ k := Nat.pow_le_pow_right (by decide) hk.1
      have := Nat.mul_le_mul hp h
      omega
  rw [hc, Nat.mul_zero] at h1
  generalize (carrI 0 l k).2 = m at *
  have hm : iN m = iN l := by omega
  have hf := foldI_val m (by omega)
  have d16 := digits_lt m k h2 16 (by omega)
  have d17 := digits_lt m k h2 17 (by omega)
  have g18 := iN_ge m 18
  have g19 := iN_ge m 19
  have z18 : ntn m 18 = 0 := by
    rcases Nat.eq_zero_or_pos (ntn m 18) with h | h
    · exact h
    · omega
  have z19 : ntn m 19 = 0 := by
    rcases Nat.eq_zero_or_pos (ntn m 19) with h | h
    · exact h
    · omega
  have hh : ntn m 16 / 4 + ntn m 17 * 64 = iN l / 1361129467683753853853498429727072845824 := by
    rw [d16, d17, hm, show (256 : Nat) ^ 16 = 340282366920938463463374607431768211456 from rfl, show (256 : Nat) ^ 17 = 87112285931760246646623899502532662132736 from rfl]
    omega
  rw [hh] at hf
  refine ⟨by omega, by rw [foldI_len]; omega, fun i => ?_⟩
  have hall : ∀ i, ntn m i ≤ 255 := fun i => by
    by_cases hi : i < 18
    · have := h2 i (by omega); omega
    · by_cases h : i = 18
      · subst h; omega
      · by_cases h : i = 19
        · subst h; omega
        · have : ntn m i = 0 := by unfold ntn; rw [List.getD_eq_getElem?_getD, List.getElem?_eq_none (by omega)]; rfl
          omega
  have := foldI_bnd (by decide) hall i
  omega
/-- Digits that are well within bounds, of a number modulo p. -/
structure Fine (l : List Nat) (v : Nat) : Prop where
  len : l.length = 20
  bnd : ∀ i, ntn l i ≤ 100000
  lt : iN l < 1361129467683753853853498429727072845845
  val : iN l % pP = v
theorem final_digits {A V T : List Nat} {c c' v k : Nat} (hk : 18 ≤ k ∧ k ≤ 20) (hA : Fine A v) (h1 : (c, V) = carrI 0 A k) (h2 : (c', T) = carrI 5 V k) : ∀ j, j < 16 → ntn (if 4 ≤ ntn T 16 then T else V) j = v / 256 ^ j % 256 := by
  intro j hj
  have hl := hA.len
  have hlt := hA.lt
  have hval := hA.val
  have hp : 256 ^ 18 ≤ 256 ^ k := Nat.pow_le_pow_right (by decide) hk.1
  obtain ⟨s1, s2, _⟩ := carrI_spec 0 A k (by omega)
  have l1 := carrI_len 0 A k
  rw [← h1] at s1 s2 l1
  dsimp only at s1 s2 l1
  obtain ⟨t1, t2, _⟩ := carrI_spec 5 V k (by omega)
  rw [← h2] at t1 t2
  dsimp only at t1 t2
  have hc : c = 0 := by
    rcases Nat.eq_zero_or_pos c with h | h
    · exact h
    · have := Nat.mul_le_mul hp h
      omega
  have hV : iN V = iN A := by rw [hc] at s1; omega
  have hc' : c' = 0 := by
    rcases Nat.eq_zero_or_pos c' with h | h
    · exact h
    · have := Nat.mul_le_mul hp h
      omega
  have hT : iN T = iN A + 5 := by rw [hc'] at t1; omega
  have d16 := digits_lt T k t2 16 (by omega)
  rw [hT, show (256 : Nat) ^ 16 = 340282366920938463463374607431768211456 from rfl] at d16
  unfold pP at hval
  have hq : (iN A + 5) / 340282366920938463463374607431768211456 < 5 := Nat.div_lt_of_lt_mul (by omega)
  rw [Nat.mod_eq_of_lt (by omega)] at d16
  split
  · rename_i h
    rw [digits_lt T k t2 j (by omega), hT]
    have hv : iN A + 5 = v + 1361129467683753853853498429727072845824 := by omega
    have e : (1361129467683753853853498429727072845824 : Nat) = 256 ^ j * (256 * (4 * 256 ^ (15 - j))) := by
      rw [← Nat.mul_assoc, ← Nat.pow_succ, Nat.mul_left_comm, ← Nat.pow_add, show j + 1 + (15 - j) = 16 by omega]
    have hP : 0 < 256 ^ j := Nat.pow_pos (by decide)
    rw [hv, e, Nat.add_mul_div_left _ _ hP, Nat.add_mul_mod_self_left]
  · rename_i h
    rw [digits_lt V k s2 j (by omega), hV]
    have hv : iN A = v := by omega
    rw [hv]
end Go.Proofs.Ytlphiohgehkjlaa
