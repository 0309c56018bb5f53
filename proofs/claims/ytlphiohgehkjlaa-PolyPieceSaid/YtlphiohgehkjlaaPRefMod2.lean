/- The reference's remainder as a number. No program in sight. -/
import Derived.Test.YtlphiohgehkjlaaPRefFold
namespace Go.Proofs.Ytlphiohgehkjlaa
open Go.RowKit
theorem shr2 (x : BitVec 32) : (x >>> 2).toNat = x.toNat / 4 := by rw [BitVec.toNat_ushiftRight, Nat.shiftRight_eq_div_pow]
theorem shl6 (x : BitVec 32) : ((x <<< 6) &&& 255#32).toNat = 64 * (x.toNat % 4) := by
  rw [and255, BitVec.toNat_shiftLeft, Nat.shiftLeft_eq]
  omega
theorem or6 (x y : BitVec 32) (n : Nat) (hx : x.toNat < 64) (hy : y.toNat = 64 * n) : (x ||| y).toNat = x.toNat + 64 * n := by
  rw [BitVec.toNat_or, hy, Nat.or_comm]
  have := Nat.two_pow_add_eq_or_of_lt (i := 6) hx n
  rw [show (64 : Nat) = 2 ^ 6 from rfl, ← this]
  omega
theorem nth_zer32 (n j : Nat) : nth (zer32 n) j = 0#32 := by
  unfold nth zer32
  rw [List.getD_eq_getElem?_getD, List.getElem?_replicate]
  split <;> rfl
theorem topL_val (a : List (BitVec 32)) (ha : a.length = 64) (hu : under 256 a) (k : Nat) (hk : k ≤ 48) :
    dN (topL a k) = dN a / 256 ^ 16 / 4 % 256 ^ k ∧ (∀ j, k ≤ j → nth (topL a k) j = 0#32) ∧ under 256 (topL a k) := by
  induction k with
  | zero =>
    refine ⟨by show dN (zer32 64) = _; rw [dN_zer, Nat.pow_zero, Nat.mod_one], fun j _ => ?_, fun j => ?_⟩
    · exact nth_zer32 64 j
    · show (nth (zer32 64) j).toNat < 256
      rw [nth_zer32]; decide
  | succ k ih =>
    obtain ⟨h1, h2, h3⟩ := ih (by omega)
    have hlen := topL_length a k
    have e16 := nth_dN a hu (k + 16)
    have e17 := nth_dN a hu (k + 17)
    rw [Nat.add_comm k 16, Nat.pow_add, ← Nat.div_div_eq_div_mul] at e16
    rw [show k + 17 = 16 + (k + 1) by omega, Nat.pow_add, ← Nat.div_div_eq_div_mul, show 256 ^ (k + 1) = 256 ^ k * 256 from rfl, ← Nat.div_div_eq_div_mul] at e17
    have hE : dN a / 256 ^ 16 / 4 / 256 ^ k = dN a / 256 ^ 16 / 256 ^ k / 4 := by rw [Nat.div_div_eq_div_mul, Nat.mul_comm, ← Nat.div_div_eq_div_mul]
    have hb : ∀ v : BitVec 32, v.toNat = dN a / 256 ^ 16 / 256 ^ k / 4 % 256 → dN (put (topL a k) k v) = dN a / 256 ^ 16 / 4 % 256 ^ (k + 1) ∧ (∀ j, k + 1 ≤ j → nth (put (topL a k) k v) j = 0#32) ∧ under 256 (put (topL a k) k v) := by
      intro v hv
      refine ⟨?_, fun j hj => ?_, under_put h3 _ _ (by omega)⟩
      · have hp := dN_put (topL a k) k v (by omega)
        rw [h2 k (Nat.le_refl _), h1] at hp
        rw [show 256 ^ (k + 1) = 256 ^ k * 256 from rfl, Nat.mod_mul, hE, ← hv]
        have : 256 ^ k * (0#32).toNat = 0 := rfl
        omega
      · rw [nth_put _ _ _ _ (by omega), if_neg (by omega)]
        exact h2 j (by omega)
    rw [topL]
    apply hb
    generalize dN a / 256 ^ 16 / 256 ^ k = X at *
    rw [Nat.add_comm 16 k] at e16
    split
    · rename_i h64
      rw [show 16 + (k + 1) = k + 17 by omega] at e17
      rw [or6 _ _ ((nth a (k + 17)).toNat % 4) (by rw [shr2]; omega) (shl6 _), shr2, e16, e17]
      omega
    · rename_i h64
      have hz : nth a (16 + (k + 1)) = 0#32 := by
        unfold nth
        rw [List.getD_eq_getElem?_getD, List.getElem?_eq_none (by omega)]
        rfl
      rw [hz] at e17
      have e17 : 0 = X / 256 % 256 := e17
      rw [shr2, e16]
      omega
theorem under_drop {B : Nat} {l : List (BitVec 32)} (h : under B l) (o : Nat) : under B (l.drop o) := fun k => by rw [nth_drop32]; exact h _
theorem under_take {B : Nat} {l : List (BitVec 32)} (h : under B l) (hB : 0 < B) (o : Nat) : under B (l.take o) := fun k => by
  by_cases hk : k < o
  · have : nth (l.take o) k = nth l k := by
      unfold nth
      simp only [List.getD_eq_getElem?_getD, List.getElem?_take, if_pos hk]
    rw [this]; exact h k
  · have : nth (l.take o) k = 0#32 := by
      unfold nth
      rw [List.getD_eq_getElem?_getD, List.getElem?_take, if_neg hk]; rfl
    rw [this]; exact hB
theorem and3 (x : BitVec 32) : (x &&& 3#32).toNat = x.toNat % 4 := by
  rw [BitVec.toNat_and]
  exact Nat.and_two_pow_sub_one_eq_mod x.toNat 2
theorem under_zerTail {B : Nat} (hB : 0 < B) (a : List (BitVec 32)) (h : under B a) (k : Nat) : under B (zerTail a k) := by
  induction k with
  | zero => exact h
  | succ k ih => exact under_put ih _ _ hB
/-- What is above the bit 130, five times, below it. -/
theorem fold1_val (a : List (BitVec 32)) (ha : a.length = 64) (hu : under 256 a) :
    dN (fold1 a) = dN a % 1361129467683753853853498429727072845824 + 5 * (dN a / 1361129467683753853853498429727072845824) ∧ under 2147483648 (fold1 a) ∧ (fold1 a).length = 64 := by
  have hz := zerTail_val a ha 47 (by omega)
  have hzl : (zerTail a 47).length = 64 := by rw [zerTail_length, ha]
  have hz16 := zerTail_nth a ha 47 (by omega) 16 (.inl (by omega))
  have hp := dN_put (zerTail a 47) 16 (nth (zerTail a 47) 16 &&& 3#32) (by omega)
  rw [and3, hz16] at hp
  obtain ⟨t1, _, t3⟩ := topL_val a ha hu 48 (by omega)
  have hX : under 256 (put (zerTail a 47) 16 (nth (zerTail a 47) 16 &&& 3#32)) := under_put (under_zerTail (by omega) a hu 47) _ _ (by rw [and3]; omega)
  obtain ⟨f1, f2⟩ := addTop_val _ (topL a 48) hX t3 64 (by rw [put_length, hzl]; omega)
  have hl : (fold1 a).length = 64 := by unfold fold1; rw [addTop_length, put_length, hzl]
  refine ⟨?_, f2, hl⟩
  unfold fold1
  rw [f1, List.take_of_length_le (by rw [topL_length]; omega), t1]
  rw [hz16] at *
  -- the low half
  have d17 : (a.drop 17).take 47 = a.drop 17 := List.take_of_length_le (by simp [ha])
  rw [d17] at hz
  have s16 := dN_split a 16 (by omega)
  have s17 := dN_split a 17 (by omega)
  have tk := dN_take a 16
  have lt16 := dN_lt (a.take 16) (under_take hu (by omega) 16)
  have hlt := dN_lt a hu
  rw [ha] at hlt
  have l16 : (a.take 16).length = 16 := by simp [ha]
  rw [l16] at lt16
  have hx := hu 16
  generalize dN (put (zerTail a 47) 16 (nth a 16 &&& 3#32)) = L at *
  generalize dN (zerTail a 47) = Z at *
  generalize (nth a 16).toNat = x at *
  generalize dN (a.drop 17) = D at *
  generalize dN (a.take 16) = T at *
  generalize dN (a.take 17) = T17 at *
  generalize dN (a.drop 16) = E at *
  generalize dN a = N at *
  omega
end Go.Proofs.Ytlphiohgehkjlaa
