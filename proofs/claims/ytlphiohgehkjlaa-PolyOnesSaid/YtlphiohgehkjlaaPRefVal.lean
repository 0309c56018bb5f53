/- The reference's numbers of 64 bytes. No program in sight. -/
import Derived.Test.YtlphiohgehkjlaaPEnd
import Derived.Test.YtlphiohgehkjlaaPRefTag
namespace Go.Proofs.Ytlphiohgehkjlaa
open Go.RowKit
/-- The number that words of 32 bits are, each 256 times the one ahead of it. -/
def dN (l : List (BitVec 32)) : Nat := l.foldr (fun x n => x.toNat + 256 * n) 0
theorem dN_cons (x : BitVec 32) (l : List (BitVec 32)) : dN (x :: l) = x.toNat + 256 * dN l := rfl
theorem dN_put (l : List (BitVec 32)) (k : Nat) (v : BitVec 32) (h : k < l.length) : dN (put l k v) + 256 ^ k * (nth l k).toNat = dN l + 256 ^ k * v.toNat := by
  induction l generalizing k with
  | nil => simp at h
  | cons x l ih =>
    cases k with
    | zero =>
      show dN (v :: l) + 256 ^ 0 * x.toNat = _
      rw [dN_cons, dN_cons]
      omega
    | succ k =>
      show dN (x :: put l k v) + 256 ^ (k + 1) * (nth l k).toNat = _
      have := ih k (by simpa using h)
      rw [dN_cons, dN_cons, Nat.pow_succ, Nat.mul_comm (256 ^ k) 256, Nat.mul_assoc, Nat.mul_assoc]
      omega
theorem dN_zer (n : Nat) : dN (zer32 n) = 0 := by
  unfold zer32
  induction n with
  | zero => rfl
  | succ n ih => rw [List.replicate_succ, dN_cons, ih]; rfl
theorem and255 (x : BitVec 32) : (x &&& 255#32).toNat = x.toNat % 256 := by
  rw [BitVec.toNat_and]
  exact Nat.and_two_pow_sub_one_eq_mod x.toNat 8
theorem shr8n' (x : BitVec 32) : (x >>> 8).toNat = x.toNat / 256 := by
  rw [BitVec.toNat_ushiftRight, Nat.shiftRight_eq_div_pow]
/-- All words are below B. -/
def under (B : Nat) (l : List (BitVec 32)) : Prop := ∀ k, (nth l k).toNat < B
theorem under_put {B : Nat} {l : List (BitVec 32)} (h : under B l) (k : Nat) (v : BitVec 32) (hv : v.toNat < B) : under B (put l k v) := by
  intro j
  by_cases hk : k < l.length
  · rw [nth_put _ _ _ _ hk]
    split
    · exact hv
    · exact h j
  · unfold put
    rw [List.set_eq_of_length_le (by omega)]
    exact h j
/-- Carries keep the number. -/
theorem c8_val (l : List (BitVec 32)) (c : BitVec 32) (hl : under 2147483648 l) (hc : c.toNat < 16777216) (k : Nat) (hk : k ≤ l.length) :
    dN (c8St l c k).1 + 256 ^ k * (c8St l c k).2.toNat = dN l + c.toNat ∧ (c8St l c k).2.toNat < 16777216 ∧ (∀ j, j < k → (nth (c8St l c k).1 j).toNat < 256) ∧ (∀ j, k ≤ j → nth (c8St l c k).1 j = nth l j) := by
  induction k with
  | zero => exact ⟨by show dN l + 256 ^ 0 * c.toNat = _; omega, hc, fun j hj => by omega, fun j _ => rfl⟩
  | succ k ih =>
    obtain ⟨h1, h2, h3, h4⟩ := ih (by omega)
    have hlen := c8St_length l c k
    rw [c8St_succ]
    generalize c8St l c k = U at *
    obtain ⟨U, C⟩ := U
    dsimp only at *
    have hx : (nth U k).toNat < 2147483648 := by rw [h4 k (Nat.le_refl _)]; exact hl k
    have hs : (C + nth U k).toNat = C.toNat + (nth U k).toNat := add_nat _ _ (by omega)
    have hp := dN_put U k ((C + nth U k) &&& 255#32) (by omega)
    rw [and255, hs] at hp
    rw [shr8n', hs]
    refine ⟨?_, by omega, fun j hj => ?_, fun j hj => ?_⟩
    · have e : (C.toNat + (nth U k).toNat) = (C.toNat + (nth U k).toNat) % 256 + 256 * ((C.toNat + (nth U k).toNat) / 256) := by omega
      generalize (C.toNat + (nth U k).toNat) % 256 = m at *
      generalize (C.toNat + (nth U k).toNat) / 256 = d at *
      have e1 : 256 ^ k * C.toNat + 256 ^ k * (nth U k).toNat = 256 ^ k * m + 256 ^ k * (256 * d) := by rw [← Nat.mul_add, e, Nat.mul_add]
      have e2 : 256 ^ (k + 1) * d = 256 ^ k * (256 * d) := by rw [Nat.pow_succ, Nat.mul_assoc]
      rw [e2]
      omega
    · rw [nth_put _ _ _ _ (by omega)]
      split
      · rw [and255]; omega
      · exact h3 j (by omega)
    · rw [nth_put _ _ _ _ (by omega), if_neg (by omega)]
      exact h4 j (by omega)
theorem dN_lt (l : List (BitVec 32)) (h : under 256 l) : dN l < 256 ^ l.length := by
  induction l with
  | nil => decide
  | cons x l ih =>
    have h1 := ih (fun k => h (k + 1))
    have h0 : x.toNat < 256 := h 0
    rw [dN_cons, List.length_cons, Nat.pow_succ]
    omega
theorem nth_dN (l : List (BitVec 32)) (h : under 256 l) (k : Nat) : (nth l k).toNat = dN l / 256 ^ k % 256 := by
  induction l generalizing k with
  | nil => simp [nth, dN]
  | cons x l ih =>
    have h0 : x.toNat < 256 := h 0
    have ih := ih (fun k => h (k + 1))
    rw [dN_cons]
    cases k with
    | zero =>
      show x.toNat = _
      rw [Nat.pow_zero, Nat.div_one]
      omega
    | succ k =>
      show (nth l k).toNat = _
      rw [ih k, Nat.pow_succ, Nat.mul_comm (256 ^ k) 256, ← Nat.div_div_eq_div_mul]
      congr 2
      omega
/-- Carried to bytes: the number stays. -/
theorem c8_64 (l : List (BitVec 32)) (c : BitVec 32) (hlen : l.length = 64) (hl : under 2147483648 l) (hc : c.toNat < 16777216) (hv : dN l + c.toNat < 256 ^ 64) : dN (c8St l c 64).1 = dN l + c.toNat ∧ under 256 (c8St l c 64).1 := by
  obtain ⟨h1, h2, h3, h4⟩ := c8_val l c hl hc 64 (by omega)
  refine ⟨?_, fun j => ?_⟩
  · have : (c8St l c 64).2.toNat = 0 := by
      rcases Nat.eq_zero_or_pos (c8St l c 64).2.toNat with h | h
      · exact h
      · have : 256 ^ 64 * 1 ≤ 256 ^ 64 * (c8St l c 64).2.toNat := Nat.mul_le_mul_left _ h
        omega
    rw [this] at h1
    omega
  · rcases Nat.lt_or_ge j 64 with h | h
    · exact h3 j h
    · have hz : nth (c8St l c 64).1 j = 0#32 := by
        unfold nth
        rw [List.getD_eq_getElem?_getD, List.getElem?_eq_none (by rw [c8St_length]; omega)]
        rfl
      rw [hz]; decide
end Go.Proofs.Ytlphiohgehkjlaa
