/- Bytes as a number, and words of 26 bits of it. No program in sight. -/
import Derived.Test.YtlphiohgehkjlaaPMul
namespace Go.Proofs.Ytlphiohgehkjlaa
open Go.RowKit
theorem times_val (a b : List (BitVec 64)) (ha : a.length = 5) (hb : b.length = 5) (hA : below 268435456 a) (hB : below 67108864 b) : Over (v5 a * v5 b) (v5 (timesL a b)) ∧ belowF 67108869 (timesL a b) := by
  obtain ⟨⟨k, hk⟩, h1⟩ := mul_val a b ha hb hA hB
  have hl := mulAll_length a b 5
  have h2 := carry_big _ hl h1
  have hl2 : (carriedL (mulAll a b 5)).length = 5 := by rw [carriedL_length, hl]
  obtain ⟨k2, hk2⟩ := carry_any _ hl (by unfold below at *; omega)
  obtain ⟨k3, hk3⟩ := carry_any _ hl2 (by unfold below; unfold belowF at h2; omega)
  rw [timesL_eq]
  refine ⟨⟨k + k2 + k3, ?_⟩, carry_mid _ hl2 h2⟩
  rw [hk, hk2, hk3, Nat.add_mul, Nat.add_mul]
  omega
/-- The number that bytes are, the lowest first. -/
def bN (l : List (BitVec 8)) : Nat := l.foldr (fun x n => x.toNat + 256 * n) 0
theorem bN_nil : bN [] = 0 := rfl
theorem bN_cons (x : BitVec 8) (l : List (BitVec 8)) : bN (x :: l) = x.toNat + 256 * bN l := rfl
theorem bN_lt (l : List (BitVec 8)) : bN l < 256 ^ l.length := by
  induction l with
  | nil => decide
  | cons x l ih =>
    rw [bN_cons, List.length_cons, Nat.pow_succ]
    have := x.isLt
    omega
theorem nth_bN (l : List (BitVec 8)) (k : Nat) : (nth l k).toNat = bN l / 256 ^ k % 256 := by
  induction l generalizing k with
  | nil => simp [nth, bN]
  | cons x l ih =>
    have hx := x.isLt
    rw [bN_cons]
    cases k with
    | zero =>
      show x.toNat = _
      rw [Nat.pow_zero, Nat.div_one]
      omega
    | succ k =>
      show (nth l k).toNat = _
      rw [ih k, Nat.pow_succ, Nat.mul_comm (256 ^ k) 256, ← Nat.div_div_eq_div_mul]
      congr 2
      omega
theorem bN_append (a b : List (BitVec 8)) : bN (a ++ b) = bN a + 256 ^ a.length * bN b := by
  induction a with
  | nil => simp [bN_nil]
  | cons x a ih =>
    rw [List.cons_append, bN_cons, bN_cons, ih, List.length_cons, Nat.pow_succ, Nat.mul_add, Nat.mul_comm (256 ^ a.length) 256, Nat.mul_assoc]
    omega
theorem or_add (a b : BitVec 64) (k : Nat) (hk : k < 64) (h : a.toNat < 2 ^ k) (hb : b.toNat < 2 ^ (64 - k)) : (a ||| (b <<< k)).toNat = a.toNat + b.toNat * 2 ^ k := by
  have hp : 2 ^ (64 - k) * 2 ^ k = 2 ^ 64 := by rw [← Nat.pow_add]; congr 1; omega
  have h1 : b.toNat * 2 ^ k < 2 ^ 64 := by rw [← hp]; exact Nat.mul_lt_mul_of_pos_right hb (Nat.two_pow_pos k)
  rw [BitVec.toNat_or, BitVec.toNat_shiftLeft, Nat.shiftLeft_eq, Nat.mod_eq_of_lt h1, Nat.or_comm, Nat.mul_comm, ← Nat.two_pow_add_eq_or_of_lt h]
  omega
/-- Low bytes from a place on. -/
theorem lowAt_nat (r : List (BitVec 8)) (o n : Nat) (hn : n ≤ 8) : (lowAt r o n).toNat = bN r / 256 ^ o % 256 ^ n := by
  induction n with
  | zero => simp [lowAt, Nat.mod_one]
  | succ n ih =>
    have ih := ih (by omega)
    have e : (256 : Nat) ^ n = 2 ^ (8 * n) := by rw [Nat.pow_mul]
    have hlt : (lowAt r o n).toNat < 2 ^ (8 * n) := by rw [ih, e]; exact Nat.mod_lt _ (Nat.two_pow_pos _)
    have hw : ((nth r (o + n)).setWidth 64).toNat = (nth r (o + n)).toNat := by
      rw [BitVec.toNat_setWidth, Nat.mod_eq_of_lt]
      have := (nth r (o + n)).isLt
      omega
    have hb : ((nth r (o + n)).setWidth 64).toNat < 2 ^ (64 - 8 * n) := by
      rw [hw]
      have h1 := (nth r (o + n)).isLt
      have h2 : 2 ^ 8 ≤ 2 ^ (64 - 8 * n) := Nat.pow_le_pow_right (by omega) (by omega)
      omega
    rw [lowAt, or_add _ _ _ (by omega) hlt hb, hw, ih, nth_bN, Nat.pow_add, ← Nat.div_div_eq_div_mul, ← e]
    generalize bN r / 256 ^ o = x
    rw [Nat.pow_succ, Nat.mod_mul, Nat.mul_comm (256 ^ n) (x / 256 ^ n % 256)]
end Go.Proofs.Ytlphiohgehkjlaa
