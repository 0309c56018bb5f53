/- Pieces and keys as numbers. No program in sight. -/
import Derived.Test.YtlphiohgehkjlaaPBytes
namespace Go.Proofs.Ytlphiohgehkjlaa
open Go.RowKit
theorem cut26 (X s : Nat) (hs : s < 8) : X % 1099511627776 / 2 ^ s % 67108864 = X / 2 ^ s % 67108864 := by
  match s, hs with
  | 0, _ => omega
  | 1, _ => omega
  | 2, _ => omega
  | 3, _ => omega
  | 4, _ => omega
  | 5, _ => omega
  | 6, _ => omega
  | 7, _ => omega
theorem wordAt_nat (r : List (BitVec 8)) (i : Nat) (hi : i / 8 ≤ r.length) : (wordAt r i).toNat = bN r / 2 ^ i % 67108864 := by
  have hpow : (256 : Nat) ^ (i / 8) * 2 ^ (i % 8) = 2 ^ i := by
    rw [show (256 : Nat) = 2 ^ 8 from rfl, ← Nat.pow_mul, ← Nat.pow_add]
    congr 1
    omega
  have hs : i % 8 < 8 := Nat.mod_lt _ (by omega)
  unfold wordAt
  rw [and26, BitVec.toNat_ushiftRight, Nat.shiftRight_eq_div_pow, lowAt_nat _ _ _ (by omega), ← hpow, ← Nat.div_div_eq_div_mul]
  by_cases h5 : i / 8 + 5 ≤ r.length
  · rw [show min (i / 8 + 5) r.length - i / 8 = 5 by omega]
    exact cut26 _ _ hs
  · have h1 := bN_lt r
    have h2 : (256 : Nat) ^ r.length = 256 ^ (i / 8) * 256 ^ (min (i / 8 + 5) r.length - i / 8) := by rw [← Nat.pow_add]; congr 1; omega
    have h3 : bN r / 256 ^ (i / 8) < 256 ^ (min (i / 8 + 5) r.length - i / 8) := Nat.div_lt_of_lt_mul (by rw [← h2]; exact h1)
    rw [Nat.mod_eq_of_lt h3]
theorem words_val (b : List (BitVec 8)) (hl : b.length = 17) (h : bN b < 1361129467683753853853498429727072845824) : v5 (wordsL b 5) = bN b ∧ below 67108864 (wordsL b 5) := by
  have e : wordsL b 5 = [wordAt b 0, wordAt b 26, wordAt b 52, wordAt b 78, wordAt b 104] := rfl
  have w0 := wordAt_nat b 0 (by omega)
  have w1 := wordAt_nat b 26 (by omega)
  have w2 := wordAt_nat b 52 (by omega)
  have w3 := wordAt_nat b 78 (by omega)
  have w4 := wordAt_nat b 104 (by omega)
  rw [e]
  refine ⟨?_, ?_, ?_, ?_, ?_, ?_⟩
  · rw [v5_eq, w0, w1, w2, w3, w4]
    omega
  · show (wordAt b 0).toNat < _
    omega
  · show (wordAt b 26).toNat < _
    omega
  · show (wordAt b 52).toNat < _
    omega
  · show (wordAt b 78).toNat < _
    omega
  · show (wordAt b 104).toNat < _
    omega
theorem hAdd_val (p : List (BitVec 8)) (h : List (BitVec 64)) (hl : p.length = 17) (hh : h.length = 5) (hp : bN p < 1361129467683753853853498429727072845824) (hF : belowF 67108869 h) : v5 (hAdd p h 5) = v5 h + bN p ∧ below 268435456 (hAdd p h 5) := by
  obtain ⟨a, b, c, d, e, rfl⟩ := five hh
  obtain ⟨ha, hb, hc, hd, he⟩ := hF
  have ha : a.toNat < 67108869 := ha
  have hb : b.toNat < 67108864 := hb
  have hc : c.toNat < 67108864 := hc
  have hd : d.toNat < 67108864 := hd
  have he : e.toNat < 67108864 := he
  have w0 := wordAt_nat p 0 (by omega)
  have w1 := wordAt_nat p 26 (by omega)
  have w2 := wordAt_nat p 52 (by omega)
  have w3 := wordAt_nat p 78 (by omega)
  have w4 := wordAt_nat p 104 (by omega)
  have eq : hAdd p [a, b, c, d, e] 5 = [a + wordAt p 0, b + wordAt p 26, c + wordAt p 52, d + wordAt p 78, e + wordAt p 104] := rfl
  have s0 := add_nat a (wordAt p 0) (by omega)
  have s1 := add_nat b (wordAt p 26) (by omega)
  have s2 := add_nat c (wordAt p 52) (by omega)
  have s3 := add_nat d (wordAt p 78) (by omega)
  have s4 := add_nat e (wordAt p 104) (by omega)
  rw [eq]
  refine ⟨?_, ?_, ?_, ?_, ?_, ?_⟩
  · rw [v5_eq, v5_eq, s0, s1, s2, s3, s4, w0, w1, w2, w3, w4]
    omega
  · show (a + wordAt p 0).toNat < _
    omega
  · show (b + wordAt p 26).toNat < _
    omega
  · show (c + wordAt p 52).toNat < _
    omega
  · show (d + wordAt p 78).toNat < _
    omega
  · show (e + wordAt p 104).toNat < _
    omega
theorem padL_bN (l : List (BitVec 8)) (k : Nat) : bN (padL l k) = bN l := by
  induction k with
  | zero => rfl
  | succ k ih => rw [padL, bN_append, ih]; simp [bN]
/-- A piece's number. -/
def pieceN (t : List (BitVec 8)) (i : Nat) : Nat := bN (cut t i (min (i + 16) t.length - i)) + 256 ^ (min (i + 16) t.length - i)
theorem piece_val (t : List (BitVec 8)) (i : Nat) (hi : i ≤ t.length) : bN (padL (piece t i) (17 - (piece t i).length)) = pieceN t i ∧ (padL (piece t i) (17 - (piece t i).length)).length = 17 ∧ pieceN t i < 1361129467683753853853498429727072845824 := by
  have hc : (cut t i (min (i + 16) t.length - i)).length = min (i + 16) t.length - i := by rw [cut_length]; omega
  have hlen : (piece t i).length = min (i + 16) t.length - i + 1 := by unfold piece; rw [List.length_append, hc]; rfl
  refine ⟨?_, by rw [padL_length, hlen]; omega, ?_⟩
  · rw [padL_bN]
    unfold piece pieceN
    rw [bN_append, hc]
    simp [bN]
  · unfold pieceN
    have h1 := bN_lt (cut t i (min (i + 16) t.length - i))
    rw [hc] at h1
    have h2 : (256 : Nat) ^ (min (i + 16) t.length - i) ≤ 256 ^ 16 := Nat.pow_le_pow_right (by omega) (by omega)
    have h3 : (256 : Nat) ^ 16 = 340282366920938463463374607431768211456 := by decide
    omega
/-- What is gathered, in numbers. -/
def accN (r : Nat) (t : List (BitVec 8)) : Nat → Nat
  | 0 => 0
  | q + 1 => (accN r t q + pieceN t (16 * q)) * r % pP
theorem tagSt_val (r : List (BitVec 64)) (t : List (BitVec 8)) (hr : r.length = 5) (hR : below 67108864 r) : ∀ q, 16 * q ≤ t.length + 15 → v5 (tagSt r t q) % pP = accN (v5 r) t q ∧ belowF 67108869 (tagSt r t q)
  | 0, _ => ⟨rfl, (by refine ⟨?_, ?_, ?_, ?_, ?_⟩ <;> decide : belowF 67108869 (zer64 5))⟩
  | q + 1, hq => by
    obtain ⟨h1, h2⟩ := tagSt_val r t hr hR q (by omega)
    obtain ⟨p1, p2, p3⟩ := piece_val t (16 * q) (by omega)
    obtain ⟨a1, a2⟩ := hAdd_val _ _ p2 (tagSt_length r t q) (by rw [p1]; exact p3) h2
    obtain ⟨m1, m2⟩ := times_val _ r (by rw [hAdd_length, tagSt_length]) hr a2 hR
    rw [tagSt, accN]
    refine ⟨?_, m2⟩
    rw [← m1.mod, a1, p1, ← h1]
    rw [Nat.mul_mod (v5 (tagSt r t q) + _), Nat.mul_mod (v5 (tagSt r t q) % pP + _), Nat.mod_add_mod]
end Go.Proofs.Ytlphiohgehkjlaa
