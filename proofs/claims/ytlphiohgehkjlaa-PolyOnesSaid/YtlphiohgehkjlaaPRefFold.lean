/- The reference's folding as numbers. No program in sight. -/
import Derived.Test.YtlphiohgehkjlaaPRefVal
namespace Go.Proofs.Ytlphiohgehkjlaa
open Go.RowKit
theorem dN_take (l : List (BitVec 32)) (k : Nat) : dN (l.take (k + 1)) = dN (l.take k) + 256 ^ k * (nth l k).toNat := by
  induction l generalizing k with
  | nil => simp [nth, dN]
  | cons x l ih =>
    cases k with
    | zero => show x.toNat + 256 * dN [] = dN [] + 256 ^ 0 * x.toNat; simp [dN]
    | succ k =>
      have := ih k
      show dN (x :: l.take (k + 1)) = dN (x :: l.take k) + 256 ^ (k + 1) * (nth l k).toNat
      rw [dN_cons, dN_cons, this, Nat.pow_succ, Nat.mul_comm (256 ^ k) 256, Nat.mul_add, Nat.mul_assoc]
      omega
theorem dN_split (l : List (BitVec 32)) (k : Nat) (hk : k ≤ l.length) : dN l = dN (l.take k) + 256 ^ k * dN (l.drop k) := by
  induction l generalizing k with
  | nil => simp at hk; subst hk; simp [dN]
  | cons x l ih =>
    cases k with
    | zero => simp [dN]
    | succ k =>
      have := ih k (by simpa using hk)
      show dN (x :: l) = dN (x :: l.take k) + 256 ^ (k + 1) * dN (l.drop k)
      rw [dN_cons, dN_cons, Nat.pow_succ, Nat.mul_comm (256 ^ k) 256, Nat.mul_assoc]
      omega
theorem nth_drop32 (l : List (BitVec 32)) (o k : Nat) : nth (l.drop o) k = nth l (o + k) := by
  unfold nth
  simp [List.getD_eq_getElem?_getD]
theorem addTop_nth (X V : List (BitVec 32)) (k : Nat) (hk : k ≤ X.length) : ∀ j, k ≤ j → nth (addTop X V k) j = nth X j := by
  induction k with
  | zero => intro j _; rfl
  | succ k ih =>
    intro j hj
    rw [addTop, nth_put _ _ _ _ (by rw [addTop_length]; omega), if_neg (by omega)]
    exact ih (by omega) j (by omega)
theorem addTop_val (X V : List (BitVec 32)) (hX : under 256 X) (hV : under 256 V) (k : Nat) (hk : k ≤ X.length) : dN (addTop X V k) = dN X + 5 * dN (V.take k) ∧ under 2147483648 (addTop X V k) := by
  induction k with
  | zero => exact ⟨by simp [addTop, dN], fun j => Nat.lt_trans (hX j) (by decide)⟩
  | succ k ih =>
    obtain ⟨h1, h2⟩ := ih (by omega)
    have hn := addTop_nth X V k (by omega) k (Nat.le_refl _)
    have hx := hX k
    have hv := hV k
    have h5 : (5#32 * nth V k).toNat = 5 * (nth V k).toNat := by rw [mul_nat _ _ (by show 5 * _ < _; omega)]; rfl
    have hs : (nth (addTop X V k) k + 5#32 * nth V k).toNat = (nth X k).toNat + 5 * (nth V k).toNat := by rw [hn, add_nat _ _ (by rw [h5]; omega), h5]
    rw [addTop, dN_take]
    generalize nth (addTop X V k) k + 5#32 * nth V k = v at *
    have hp := dN_put (addTop X V k) k v (by rw [addTop_length]; omega)
    rw [hs, hn, Nat.mul_add, h1] at hp
    refine ⟨?_, under_put h2 _ _ (by rw [hs]; omega)⟩
    have e : 256 ^ k * (5 * (nth V k).toNat) = 5 * (256 ^ k * (nth V k).toNat) := Nat.mul_left_comm _ _ _
    rw [e] at hp
    omega
theorem zerTail_nth (a : List (BitVec 32)) (ha : a.length = 64) (k : Nat) (hk : k ≤ 47) : ∀ j, (j < 17 ∨ 17 + k ≤ j) → nth (zerTail a k) j = nth a j := by
  induction k with
  | zero => intro j _; rfl
  | succ k ih =>
    intro j hj
    rw [zerTail, nth_put _ _ _ _ (by rw [zerTail_length, ha]; omega), if_neg (by omega)]
    exact ih (by omega) j (by omega)
theorem zerTail_val (a : List (BitVec 32)) (ha : a.length = 64) (k : Nat) (hk : k ≤ 47) : dN (zerTail a k) + 256 ^ 17 * dN ((a.drop 17).take k) = dN a := by
  induction k with
  | zero => simp [zerTail, dN]
  | succ k ih =>
    have ih := ih (by omega)
    have hp := dN_put (zerTail a k) (17 + k) 0#32 (by rw [zerTail_length, ha]; omega)
    rw [zerTail_nth a ha k (by omega) _ (.inr (Nat.le_refl _))] at hp
    rw [zerTail, dN_take, nth_drop32, Nat.mul_add, ← Nat.mul_assoc, ← Nat.pow_add]
    have : 256 ^ (17 + k) * (0#32).toNat = 0 := rfl
    omega
end Go.Proofs.Ytlphiohgehkjlaa
