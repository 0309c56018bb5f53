/- Sums digit by digit; the tag's dependence on its key. No program in sight. -/
import Derived.Test.YtlphiohgehkjlaaPSame
namespace Go.Proofs.Ytlphiohgehkjlaa
open Go.RowKit
/-- What is carried into the digit j of a sum. -/
def carr (A S j : Nat) : Nat := (A % 256 ^ j + S % 256 ^ j) / 256 ^ j
theorem carr_zero (A S : Nat) : carr A S 0 = 0 := by unfold carr; rw [Nat.pow_zero, Nat.mod_one, Nat.mod_one]
theorem carr_succ (A S j : Nat) : carr A S (j + 1) = (carr A S j + A / 256 ^ j % 256 + S / 256 ^ j % 256) / 256 := by
  unfold carr
  have hP : 0 < 256 ^ j := Nat.pow_pos (by decide)
  rw [Nat.pow_succ, Nat.mod_mul, Nat.mod_mul, ← Nat.div_div_eq_div_mul]
  generalize 256 ^ j = P at *
  generalize A / P % 256 = a
  generalize S / P % 256 = s
  have e : A % P + P * a + (S % P + P * s) = P * (a + s) + (A % P + S % P) := by rw [Nat.mul_add]; omega
  rw [e, Nat.mul_add_div hP]
  congr 1
  omega
theorem digit_sum (A S j : Nat) : (A + S) / 256 ^ j % 256 = (carr A S j + A / 256 ^ j % 256 + S / 256 ^ j % 256) % 256 := by
  unfold carr
  have hP : 0 < 256 ^ j := Nat.pow_pos (by decide)
  generalize 256 ^ j = P at *
  have h1 := Nat.div_add_mod A P
  have h2 := Nat.div_add_mod S P
  have e : A + S = P * (A / P + S / P) + (A % P + S % P) := by rw [Nat.mul_add]; omega
  rw [e, Nat.mul_add_div hP]
  omega
theorem carr_le (A S j : Nat) : carr A S j ≤ 1 := by
  unfold carr
  have hP : 0 < 256 ^ j := Nat.pow_pos (by decide)
  have h1 := Nat.mod_lt A hP
  have h2 := Nat.mod_lt S hP
  refine Nat.le_of_lt_succ ((Nat.div_lt_iff_lt_mul hP).2 ?_)
  omega
theorem digit_bN : ∀ (l : List (BitVec 8)) (j : Nat), (nth l j).toNat = bN l / 256 ^ j % 256
  | [], j => by rw [bN_nil, Nat.zero_div]; rfl
  | x :: l, 0 => by
    rw [bN_cons, Nat.pow_zero, Nat.div_one]
    show x.toNat = _
    have := x.isLt
    omega
  | x :: l, j + 1 => by
    show (nth l j).toNat = _
    rw [digit_bN l j, bN_cons, Nat.pow_succ, Nat.mul_comm (256 ^ j) 256, ← Nat.div_div_eq_div_mul]
    have := x.isLt
    rw [show (x.toNat + 256 * bN l) / 256 = bN l by omega]
theorem cut_sN (key : List (BitVec 8)) (hk : key.length = 32) : bN (cut key 16 16) = sN key := by
  have e : key = key.take 16 ++ cut key 16 16 := by unfold cut; rw [List.take_of_length_le (l := key.drop 16) (by simp [hk]), List.take_append_drop]
  have hA := bN_append (key.take 16) (cut key 16 16)
  rw [← e] at hA
  have h1 := bN_lt (key.take 16)
  have h2 := bN_lt (cut key 16 16)
  rw [cut_length, hk] at h2
  have h2 : bN (cut key 16 16) < 256 ^ 16 := h2
  have l1 : (key.take 16).length = 16 := by simp [hk]
  rw [l1] at h1 hA
  unfold sN
  omega
theorem nth_cut {n : Nat} (l : List (BitVec n)) (o k i : Nat) (h : i < k) : nth (cut l o k) i = nth l (o + i) := by
  unfold nth; exact cut_get l o k i 0 h
theorem ext_nth {n : Nat} {a b : List (BitVec n)} (hl : a.length = b.length) (h : ∀ i, i < a.length → nth a i = nth b i) : a = b := by
  refine List.ext_getElem hl fun i h1 h2 => ?_
  have := h i h1
  rwa [nth_eq a i h1, nth_eq b i h2] at this
@[simp] theorem polyTag_len (key t : List (BitVec 8)) : (polyTag key t).length = 16 := by with_unfolding_all exact tagEnd_length _ _
theorem key_lt (key : List (BitVec 8)) (hk : key.length = 32) : bN (rBytes key) < 1361129467683753853853498429727072845824 := by
  have := (key_val key hk).2.2
  omega
theorem tag_bN (key t : List (BitVec 8)) (hk : key.length = 32) : bN (polyTag key t) = (accN (bN (rBytes key)) t ((t.length + 15) / 16) + sN key) % 340282366920938463463374607431768211456 :=
  polyTag_val key t hk _ rfl (key_lt key hk)
theorem rBytes_cut {a b : List (BitVec 8)} (h : cut a 0 16 = cut b 0 16) : rBytes a = rBytes b := by unfold rBytes; rw [h]
theorem sN_cut {a b : List (BitVec 8)} (ha : a.length = 32) (hb : b.length = 32) (h : cut a 16 16 = cut b 16 16) : sN a = sN b := by rw [← cut_sN a ha, ← cut_sN b hb, h]
theorem cut_eq {a b : List (BitVec 8)} (o : Nat) (ha : a.length = 32) (hb : b.length = 32) (ho : o ≤ 16) (h : ∀ i, i < 16 → nth a (o + i) = nth b (o + i)) : cut a o 16 = cut b o 16 := by
  refine ext_nth (by rw [cut_length, cut_length, ha, hb]) fun i hi => ?_
  rw [cut_length, ha] at hi
  rw [nth_cut _ _ _ _ (by omega), nth_cut _ _ _ _ (by omega)]
  exact h i (by omega)
theorem sN_nth (key : List (BitVec 8)) (hk : key.length = 32) (j : Nat) (hj : j < 16) : sN key / 256 ^ j % 256 = (nth key (16 + j)).toNat := by
  rw [← cut_sN key hk, ← digit_bN, nth_cut _ _ _ _ hj]
theorem tag_is_sN (key : List (BitVec 8)) (x : List (BitVec 8)) (hk : key.length = 32) (h : bN x = sN key) (i : Nat) (hi : i < 16) : nth x i = nth key (16 + i) := by
  apply BitVec.eq_of_toNat_eq
  rw [digit_bN, h, sN_nth key hk i hi]
theorem tag_none (key : List (BitVec 8)) (hk : key.length = 32) (i : Nat) (hi : i < 16) : nth (polyTag key []) i = nth key (16 + i) := by
  refine tag_is_sN key _ hk ?_ i hi
  rw [tag_bN key [] hk]
  show (0 + sN key) % _ = sN key
  unfold sN
  omega
theorem acc_none (t : List (BitVec 8)) : ∀ q, accN 0 t q = 0
  | 0 => rfl
  | q + 1 => by rw [accN]; simp
theorem tag_zero (Z key t : List (BitVec 8)) (hZ : Z.length = 32) (hk : key.length = 32) (h : ∀ i, nth Z i = if i < 16 then 0#8 else nth key i) (i : Nat) (hi : i < 16) : nth (polyTag Z t) i = nth key (16 + i) := by
  refine tag_is_sN key _ hk ?_ i hi
  have h0 : bN (rBytes Z) = 0 := by
    rw [rBytes_cut (b := zer8 32) (cut_eq 0 hZ (by simp) (by omega) fun i hi => by rw [Nat.zero_add, h i, if_pos hi, nth_zer8'])]
    kernel_rfl
  have hs : sN Z = sN key := sN_cut hZ hk (cut_eq 16 hZ hk (by omega) fun i _ => by rw [h, if_neg (by omega)])
  rw [tag_bN Z t hZ, h0, acc_none, hs]
  unfold sN
  omega
/-- Of one key, with and without its second half. -/
theorem tag_plain (key P t : List (BitVec 8)) (hk : key.length = 32) (hP : P.length = 32) (h : ∀ i, nth P i = if 16 ≤ i ∧ i < 16 + 16 then 0#8 else nth key i) : bN (polyTag key t) = (bN (polyTag P t) + sN key) % 340282366920938463463374607431768211456 := by
  have hr : rBytes P = rBytes key := rBytes_cut (cut_eq 0 hP hk (by omega) fun i hi => by rw [h, if_neg (by omega)])
  have hs : sN P = 0 := by
    rw [sN_cut hP (b := zer8 32) (by simp) (cut_eq 16 hP (by simp) (by omega) fun i hi => by rw [h, if_pos (by omega), nth_zer8'])]
    kernel_rfl
  rw [tag_bN key t hk, tag_bN P t hP, hr, hs]
  omega
theorem mod_digit (X j : Nat) (hj : j < 16) : X % 340282366920938463463374607431768211456 / 256 ^ j % 256 = X / 256 ^ j % 256 := by
  have e : (340282366920938463463374607431768211456 : Nat) = 256 ^ j * 256 * 256 ^ (15 - j) := by
    rw [← Nat.pow_succ, ← Nat.pow_add, show j + 1 + (15 - j) = 16 by omega]
  have hP : 0 < 256 ^ j := Nat.pow_pos (by decide)
  rw [e, Nat.mul_assoc, Nat.mod_mul_right_div_self]
  exact Nat.mod_mul_right_mod _ _ _
/-- A digit of the tag, from digits of what is summed. -/
theorem tag_digit (key t : List (BitVec 8)) (A : Nat) (hk : key.length = 32) (h : bN (polyTag key t) = (A + sN key) % 340282366920938463463374607431768211456) (j : Nat) (hj : j < 16) :
    nth (polyTag key t) j = BitVec.ofNat 8 (carr A (sN key) j + A / 256 ^ j % 256 + (nth key (16 + j)).toNat) := by
  apply BitVec.eq_of_toNat_eq
  rw [digit_bN, h, mod_digit _ _ hj, digit_sum, BitVec.toNat_ofNat, sN_nth key hk j hj]
end Go.Proofs.Ytlphiohgehkjlaa
