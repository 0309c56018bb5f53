/- Words of 26 bits as a number. No program in sight. -/
import Derived.Test.YtlphiohgehkjlaaPTag
namespace Go.Proofs.Ytlphiohgehkjlaa
open Go.RowKit
/-- The number that five words are. -/
def v5 (l : List (BitVec 64)) : Nat := (nth l 0).toNat + 67108864 * (nth l 1).toNat + 4503599627370496 * (nth l 2).toNat + 302231454903657293676544 * (nth l 3).toNat + 20282409603651670423947251286016 * (nth l 4).toNat
def below (B : Nat) (l : List (BitVec 64)) : Prop := (nth l 0).toNat < B ∧ (nth l 1).toNat < B ∧ (nth l 2).toNat < B ∧ (nth l 3).toNat < B ∧ (nth l 4).toNat < B
theorem and26 (x : BitVec 64) : (x &&& 67108863#64).toNat = x.toNat % 67108864 := by
  rw [BitVec.toNat_and]
  exact Nat.and_two_pow_sub_one_eq_mod x.toNat 26
theorem shr26 (x : BitVec 64) : (x >>> 26).toNat = x.toNat / 67108864 := by
  rw [BitVec.toNat_ushiftRight, Nat.shiftRight_eq_div_pow]
theorem add_nat {n : Nat} (x y : BitVec n) (h : x.toNat + y.toNat < 2 ^ n) : (x + y).toNat = x.toNat + y.toNat := by rw [BitVec.toNat_add, Nat.mod_eq_of_lt h]
theorem mul_nat {n : Nat} (x y : BitVec n) (h : x.toNat * y.toNat < 2 ^ n) : (x * y).toNat = x.toNat * y.toNat := by rw [BitVec.toNat_mul, Nat.mod_eq_of_lt h]
theorem five {l : List (BitVec 64)} (h : l.length = 5) : ∃ a b c d e, l = [a, b, c, d, e] := by
  match l, h with
  | [a, b, c, d, e], _ => exact ⟨a, b, c, d, e, rfl⟩
/-- The carries in numbers. -/
structure Carried (x0 x1 x2 x3 x4 y0 y1 y2 y3 y4 c1 c2 c3 c4 c5 : Nat) : Prop where
  h0 : x0 = y0 + 67108864 * c1 ∧ y0 < 67108864
  h1 : x1 + c1 = y1 + 67108864 * c2 ∧ y1 < 67108864
  h2 : x2 + c2 = y2 + 67108864 * c3 ∧ y2 < 67108864
  h3 : x3 + c3 = y3 + 67108864 * c4 ∧ y3 < 67108864
  h4 : x4 + c4 = y4 + 67108864 * c5 ∧ y4 < 67108864
theorem carry_step (x c : BitVec 64) (h : x.toNat + c.toNat < 2 ^ 64) : x.toNat + c.toNat = ((x + c) &&& 67108863#64).toNat + 67108864 * ((x + c) >>> 26).toNat ∧ ((x + c) &&& 67108863#64).toNat < 67108864 := by
  rw [and26, shr26, add_nat _ _ h]
  omega
theorem carrySt5 (a b c d e : BitVec 64) (h : below 9223372036854775808 [a, b, c, d, e]) :
    ∃ (y0 y1 y2 y3 y4 k : BitVec 64) (c1 c2 c3 c4 : Nat), carrySt [a, b, c, d, e] 5 = ([y0, y1, y2, y3, y4], k) ∧ Carried a.toNat b.toNat c.toNat d.toNat e.toNat y0.toNat y1.toNat y2.toNat y3.toNat y4.toNat c1 c2 c3 c4 k.toNat := by
  obtain ⟨ha, hb, hc, hd, he⟩ := h
  have ha : a.toNat < 9223372036854775808 := ha
  have hb : b.toNat < 9223372036854775808 := hb
  have hc : c.toNat < 9223372036854775808 := hc
  have hd : d.toNat < 9223372036854775808 := hd
  have he : e.toNat < 9223372036854775808 := he
  have s0 : a.toNat = ((a + 0#64) &&& 67108863#64).toNat + 67108864 * ((a + 0#64) >>> 26).toNat ∧ ((a + 0#64) &&& 67108863#64).toNat < 67108864 := carry_step a 0#64 (by simp; omega)
  have b0 := shr26 (a + 0#64)
  rw [add_nat a 0#64 (by simp; omega)] at b0
  have s1 := carry_step b ((a + 0#64) >>> 26) (by omega)
  have b1 := shr26 (b + (a + 0#64) >>> 26)
  rw [add_nat b _ (by omega)] at b1
  have s2 := carry_step c ((b + (a + 0#64) >>> 26) >>> 26) (by omega)
  have b2 := shr26 (c + (b + (a + 0#64) >>> 26) >>> 26)
  rw [add_nat c _ (by omega)] at b2
  have s3 := carry_step d ((c + (b + (a + 0#64) >>> 26) >>> 26) >>> 26) (by omega)
  have b3 := shr26 (d + (c + (b + (a + 0#64) >>> 26) >>> 26) >>> 26)
  rw [add_nat d _ (by omega)] at b3
  have s4 := carry_step e ((d + (c + (b + (a + 0#64) >>> 26) >>> 26) >>> 26) >>> 26) (by omega)
  exact ⟨_, _, _, _, _, _, _, _, _, _, rfl, ⟨s0, s1, s2, s3, s4⟩⟩
/-- A carry leaves the number as it was, modulo 2^130 - 5; the words are small behind it. -/
theorem carriedL5 (a b c d e : BitVec 64) (h : below 4611686018427387904 [a, b, c, d, e]) :
    ∃ (y0 y1 y2 y3 y4 k w : BitVec 64) (c1 c2 c3 c4 : Nat), carriedL [a, b, c, d, e] = [w, y1, y2, y3, y4] ∧ Carried a.toNat b.toNat c.toNat d.toNat e.toNat y0.toNat y1.toNat y2.toNat y3.toNat y4.toNat c1 c2 c3 c4 k.toNat ∧ w.toNat = y0.toNat + 5 * k.toNat := by
  have hb : below 9223372036854775808 [a, b, c, d, e] := by
    unfold below at *
    omega
  obtain ⟨y0, y1, y2, y3, y4, k, c1, c2, c3, c4, he, hc⟩ := carrySt5 a b c d e hb
  refine ⟨y0, y1, y2, y3, y4, k, y0 + 5#64 * k, c1, c2, c3, c4, ?_, hc, ?_⟩
  · rw [carriedL_eq, he]; rfl
  · obtain ⟨h0, h1, h2, h3, h4⟩ := hc
    obtain ⟨ha, hb, hc, hd, he⟩ := h
    have ha : a.toNat < 4611686018427387904 := ha
    have hb : b.toNat < 4611686018427387904 := hb
    have hc : c.toNat < 4611686018427387904 := hc
    have hd : d.toNat < 4611686018427387904 := hd
    have he : e.toNat < 4611686018427387904 := he
    have hk : k.toNat ≤ 68719480000 := by omega
    have h5 : (5#64 * k).toNat = 5 * k.toNat := by rw [mul_nat _ _ (by simp; omega)]; rfl
    rw [add_nat _ _ (by rw [h5]; omega), h5]
theorem v5_eq (a b c d e : BitVec 64) : v5 [a, b, c, d, e] = a.toNat + 67108864 * b.toNat + 4503599627370496 * c.toNat + 302231454903657293676544 * d.toNat + 20282409603651670423947251286016 * e.toNat := rfl
/-- p is 2^130 - 5. -/
def pP : Nat := 1361129467683753853853498429727072845819
def belowF (F : Nat) (l : List (BitVec 64)) : Prop := (nth l 0).toNat < F ∧ (nth l 1).toNat < 67108864 ∧ (nth l 2).toNat < 67108864 ∧ (nth l 3).toNat < 67108864 ∧ (nth l 4).toNat < 67108864
/-- One number more or less by so many times p. -/
def Over (x y : Nat) : Prop := ∃ k, x = y + k * pP
theorem Over.mod {x y : Nat} (h : Over x y) : x % pP = y % pP := by obtain ⟨k, rfl⟩ := h; rw [Nat.add_mul_mod_self_right]
theorem carry_any (l : List (BitVec 64)) (hl : l.length = 5) (h : below 4611686018427387904 l) : Over (v5 l) (v5 (carriedL l)) := by
  obtain ⟨a, b, c, d, e, rfl⟩ := five hl
  obtain ⟨y0, y1, y2, y3, y4, k, w, c1, c2, c3, c4, hE, ⟨h0, h1, h2, h3, h4⟩, hw⟩ := carriedL5 a b c d e h
  refine ⟨k.toNat, ?_⟩
  rw [hE, v5_eq, v5_eq, hw]
  unfold pP
  omega
theorem carry_big (l : List (BitVec 64)) (hl : l.length = 5) (h : below 1152921504606846976 l) : belowF 171866194000 (carriedL l) := by
  obtain ⟨a, b, c, d, e, rfl⟩ := five hl
  obtain ⟨y0, y1, y2, y3, y4, k, w, c1, c2, c3, c4, hE, ⟨h0, h1, h2, h3, h4⟩, hw⟩ := carriedL5 a b c d e (by unfold below at *; omega)
  obtain ⟨ha, hb, hc, hd, he⟩ := h
  have ha : a.toNat < 1152921504606846976 := ha
  have hb : b.toNat < 1152921504606846976 := hb
  have hc : c.toNat < 1152921504606846976 := hc
  have hd : d.toNat < 1152921504606846976 := hd
  have he : e.toNat < 1152921504606846976 := he
  rw [hE]
  refine ⟨?_, h1.2, h2.2, h3.2, h4.2⟩
  show w.toNat < _
  omega
theorem carry_mid (l : List (BitVec 64)) (hl : l.length = 5) (h : belowF 171866194000 l) : belowF 67108869 (carriedL l) := by
  obtain ⟨a, b, c, d, e, rfl⟩ := five hl
  obtain ⟨y0, y1, y2, y3, y4, k, w, c1, c2, c3, c4, hE, ⟨h0, h1, h2, h3, h4⟩, hw⟩ := carriedL5 a b c d e (by unfold below; unfold belowF at h; omega)
  obtain ⟨ha, hb, hc, hd, he⟩ := h
  have ha : a.toNat < 171866194000 := ha
  have hb : b.toNat < 67108864 := hb
  have hc : c.toNat < 67108864 := hc
  have hd : d.toNat < 67108864 := hd
  have he : e.toNat < 67108864 := he
  rw [hE]
  refine ⟨?_, h1.2, h2.2, h3.2, h4.2⟩
  show w.toNat < _
  omega
theorem carry_small (l : List (BitVec 64)) (hl : l.length = 5) (h : belowF 67108869 l) : belowF 67108864 (carriedL l) := by
  obtain ⟨a, b, c, d, e, rfl⟩ := five hl
  obtain ⟨y0, y1, y2, y3, y4, k, w, c1, c2, c3, c4, hE, ⟨h0, h1, h2, h3, h4⟩, hw⟩ := carriedL5 a b c d e (by unfold below; unfold belowF at h; omega)
  obtain ⟨ha, hb, hc, hd, he⟩ := h
  have ha : a.toNat < 67108869 := ha
  have hb : b.toNat < 67108864 := hb
  have hc : c.toNat < 67108864 := hc
  have hd : d.toNat < 67108864 := hd
  have he : e.toNat < 67108864 := he
  rw [hE]
  refine ⟨?_, h1.2, h2.2, h3.2, h4.2⟩
  show w.toNat < _
  omega
end Go.Proofs.Ytlphiohgehkjlaa
