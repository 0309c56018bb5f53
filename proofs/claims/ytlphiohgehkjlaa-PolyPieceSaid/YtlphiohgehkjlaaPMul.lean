/- The product of numbers of five words. No program in sight. (Printed by a program.) -/
import Derived.Test.YtlphiohgehkjlaaPPlain
namespace Go.Proofs.Ytlphiohgehkjlaa
open Go.RowKit
theorem mulAll5 (a0 a1 a2 a3 a4 b0 b1 b2 b3 b4 : BitVec 64) : mulAll [a0, a1, a2, a3, a4] [b0, b1, b2, b3, b4] 5 = [(((((0#64 + a0 * b0) + a1 * b4 * 5#64) + a2 * b3 * 5#64) + a3 * b2 * 5#64) + a4 * b1 * 5#64),
    (((((0#64 + a0 * b1) + a1 * b0) + a2 * b4 * 5#64) + a3 * b3 * 5#64) + a4 * b2 * 5#64),
    (((((0#64 + a0 * b2) + a1 * b1) + a2 * b0) + a3 * b4 * 5#64) + a4 * b3 * 5#64),
    (((((0#64 + a0 * b3) + a1 * b2) + a2 * b1) + a3 * b0) + a4 * b4 * 5#64),
    (((((0#64 + a0 * b4) + a1 * b3) + a2 * b2) + a3 * b1) + a4 * b0)] := by kernel_rfl
theorem prod_nat (x y : BitVec 64) (hx : x.toNat < 268435456) (hy : y.toNat < 67108864) : (x * y).toNat = x.toNat * y.toNat ∧ x.toNat * y.toNat < 18014398509481984 := by
  have h := Nat.mul_lt_mul'' hx hy
  exact ⟨mul_nat _ _ (by omega), h⟩
theorem prod5_nat (x y : BitVec 64) (hx : x.toNat < 268435456) (hy : y.toNat < 67108864) : (x * y * 5#64).toNat = 5 * (x.toNat * y.toNat) := by
  obtain ⟨h1, h2⟩ := prod_nat x y hx hy
  rw [mul_nat _ _ (by rw [h1]; show _ * 5 < _; omega), h1, Nat.mul_comm]
  rfl
theorem sum5_nat (x0 x1 x2 x3 x4 : BitVec 64) (B : Nat) (hB : B ≤ 144115188075855872) (h0 : x0.toNat < B) (h1 : x1.toNat < B) (h2 : x2.toNat < B) (h3 : x3.toNat < B) (h4 : x4.toNat < B) :
    (((((0#64 + x0) + x1) + x2) + x3) + x4).toNat = x0.toNat + x1.toNat + x2.toNat + x3.toNat + x4.toNat := by
  have e0 : (0#64 + x0).toNat = x0.toNat := by simp
  rw [add_nat _ _ (by rw [add_nat _ _ (by rw [add_nat _ _ (by rw [add_nat _ _ (by omega)]; omega), add_nat _ _ (by omega)]; omega), add_nat _ _ (by rw [add_nat _ _ (by omega)]; omega), add_nat _ _ (by omega)]; omega),
    add_nat _ _ (by rw [add_nat _ _ (by rw [add_nat _ _ (by omega)]; omega), add_nat _ _ (by omega)]; omega), add_nat _ _ (by rw [add_nat _ _ (by omega)]; omega), add_nat _ _ (by omega), e0]
theorem poly (a0 a1 a2 a3 a4 b0 b1 b2 b3 b4 : Nat) : (1 * a0 + 67108864 * a1 + 4503599627370496 * a2 + 302231454903657293676544 * a3 + 20282409603651670423947251286016 * a4) * (1 * b0 + 67108864 * b1 + 4503599627370496 * b2 + 302231454903657293676544 * b3 + 20282409603651670423947251286016 * b4) =
    1 * (a0 * b0) + 67108864 * (a0 * b1) + 4503599627370496 * (a0 * b2) + 302231454903657293676544 * (a0 * b3) + 20282409603651670423947251286016 * (a0 * b4) + 67108864 * (a1 * b0) + 4503599627370496 * (a1 * b1) + 302231454903657293676544 * (a1 * b2) + 20282409603651670423947251286016 * (a1 * b3) + 1361129467683753853853498429727072845824 * (a1 * b4) + 4503599627370496 * (a2 * b0) + 302231454903657293676544 * (a2 * b1) + 20282409603651670423947251286016 * (a2 * b2) + 1361129467683753853853498429727072845824 * (a2 * b3) + 91343852333181432387730302044767688728495783936 * (a2 * b4) + 302231454903657293676544 * (a3 * b0) + 20282409603651670423947251286016 * (a3 * b1) + 1361129467683753853853498429727072845824 * (a3 * b2) + 91343852333181432387730302044767688728495783936 * (a3 * b3) + 6129982163463555433433388108601236734474956488734408704 * (a3 * b4) + 20282409603651670423947251286016 * (a4 * b0) + 1361129467683753853853498429727072845824 * (a4 * b1) + 91343852333181432387730302044767688728495783936 * (a4 * b2) + 6129982163463555433433388108601236734474956488734408704 * (a4 * b3) + 411376139330301510538742295639337626245683966408394965837152256 * (a4 * b4) := by
  simp only [Nat.add_mul, Nat.mul_add]
  rw [Nat.mul_mul_mul_comm 1 a0 1 b0]
  rw [Nat.mul_mul_mul_comm 1 a0 67108864 b1]
  rw [Nat.mul_mul_mul_comm 1 a0 4503599627370496 b2]
  rw [Nat.mul_mul_mul_comm 1 a0 302231454903657293676544 b3]
  rw [Nat.mul_mul_mul_comm 1 a0 20282409603651670423947251286016 b4]
  rw [Nat.mul_mul_mul_comm 67108864 a1 1 b0]
  rw [Nat.mul_mul_mul_comm 67108864 a1 67108864 b1]
  rw [Nat.mul_mul_mul_comm 67108864 a1 4503599627370496 b2]
  rw [Nat.mul_mul_mul_comm 67108864 a1 302231454903657293676544 b3]
  rw [Nat.mul_mul_mul_comm 67108864 a1 20282409603651670423947251286016 b4]
  rw [Nat.mul_mul_mul_comm 4503599627370496 a2 1 b0]
  rw [Nat.mul_mul_mul_comm 4503599627370496 a2 67108864 b1]
  rw [Nat.mul_mul_mul_comm 4503599627370496 a2 4503599627370496 b2]
  rw [Nat.mul_mul_mul_comm 4503599627370496 a2 302231454903657293676544 b3]
  rw [Nat.mul_mul_mul_comm 4503599627370496 a2 20282409603651670423947251286016 b4]
  rw [Nat.mul_mul_mul_comm 302231454903657293676544 a3 1 b0]
  rw [Nat.mul_mul_mul_comm 302231454903657293676544 a3 67108864 b1]
  rw [Nat.mul_mul_mul_comm 302231454903657293676544 a3 4503599627370496 b2]
  rw [Nat.mul_mul_mul_comm 302231454903657293676544 a3 302231454903657293676544 b3]
  rw [Nat.mul_mul_mul_comm 302231454903657293676544 a3 20282409603651670423947251286016 b4]
  rw [Nat.mul_mul_mul_comm 20282409603651670423947251286016 a4 1 b0]
  rw [Nat.mul_mul_mul_comm 20282409603651670423947251286016 a4 67108864 b1]
  rw [Nat.mul_mul_mul_comm 20282409603651670423947251286016 a4 4503599627370496 b2]
  rw [Nat.mul_mul_mul_comm 20282409603651670423947251286016 a4 302231454903657293676544 b3]
  rw [Nat.mul_mul_mul_comm 20282409603651670423947251286016 a4 20282409603651670423947251286016 b4]
  omega
theorem mul_val (a b : List (BitVec 64)) (ha : a.length = 5) (hb : b.length = 5) (hA : below 268435456 a) (hB : below 67108864 b) : Over (v5 a * v5 b) (v5 (mulAll a b 5)) ∧ below 1152921504606846976 (mulAll a b 5) := by
  obtain ⟨a0, a1, a2, a3, a4, rfl⟩ := five ha
  obtain ⟨b0, b1, b2, b3, b4, rfl⟩ := five hb
  obtain ⟨hA0, hA1, hA2, hA3, hA4⟩ := hA
  obtain ⟨hB0, hB1, hB2, hB3, hB4⟩ := hB
  have hA0 : a0.toNat < 268435456 := hA0
  have hB0 : b0.toNat < 67108864 := hB0
  have hA1 : a1.toNat < 268435456 := hA1
  have hB1 : b1.toNat < 67108864 := hB1
  have hA2 : a2.toNat < 268435456 := hA2
  have hB2 : b2.toNat < 67108864 := hB2
  have hA3 : a3.toNat < 268435456 := hA3
  have hB3 : b3.toNat < 67108864 := hB3
  have hA4 : a4.toNat < 268435456 := hA4
  have hB4 : b4.toNat < 67108864 := hB4
  rw [mulAll5]
  obtain ⟨p00, q00⟩ := prod_nat a0 b0 hA0 hB0
  obtain ⟨p01, q01⟩ := prod_nat a0 b1 hA0 hB1
  obtain ⟨p02, q02⟩ := prod_nat a0 b2 hA0 hB2
  obtain ⟨p03, q03⟩ := prod_nat a0 b3 hA0 hB3
  obtain ⟨p04, q04⟩ := prod_nat a0 b4 hA0 hB4
  obtain ⟨p10, q10⟩ := prod_nat a1 b0 hA1 hB0
  obtain ⟨p11, q11⟩ := prod_nat a1 b1 hA1 hB1
  obtain ⟨p12, q12⟩ := prod_nat a1 b2 hA1 hB2
  obtain ⟨p13, q13⟩ := prod_nat a1 b3 hA1 hB3
  obtain ⟨p14, q14⟩ := prod_nat a1 b4 hA1 hB4
  have f14 := prod5_nat a1 b4 hA1 hB4
  obtain ⟨p20, q20⟩ := prod_nat a2 b0 hA2 hB0
  obtain ⟨p21, q21⟩ := prod_nat a2 b1 hA2 hB1
  obtain ⟨p22, q22⟩ := prod_nat a2 b2 hA2 hB2
  obtain ⟨p23, q23⟩ := prod_nat a2 b3 hA2 hB3
  have f23 := prod5_nat a2 b3 hA2 hB3
  obtain ⟨p24, q24⟩ := prod_nat a2 b4 hA2 hB4
  have f24 := prod5_nat a2 b4 hA2 hB4
  obtain ⟨p30, q30⟩ := prod_nat a3 b0 hA3 hB0
  obtain ⟨p31, q31⟩ := prod_nat a3 b1 hA3 hB1
  obtain ⟨p32, q32⟩ := prod_nat a3 b2 hA3 hB2
  have f32 := prod5_nat a3 b2 hA3 hB2
  obtain ⟨p33, q33⟩ := prod_nat a3 b3 hA3 hB3
  have f33 := prod5_nat a3 b3 hA3 hB3
  obtain ⟨p34, q34⟩ := prod_nat a3 b4 hA3 hB4
  have f34 := prod5_nat a3 b4 hA3 hB4
  obtain ⟨p40, q40⟩ := prod_nat a4 b0 hA4 hB0
  obtain ⟨p41, q41⟩ := prod_nat a4 b1 hA4 hB1
  have f41 := prod5_nat a4 b1 hA4 hB1
  obtain ⟨p42, q42⟩ := prod_nat a4 b2 hA4 hB2
  have f42 := prod5_nat a4 b2 hA4 hB2
  obtain ⟨p43, q43⟩ := prod_nat a4 b3 hA4 hB3
  have f43 := prod5_nat a4 b3 hA4 hB3
  obtain ⟨p44, q44⟩ := prod_nat a4 b4 hA4 hB4
  have f44 := prod5_nat a4 b4 hA4 hB4
  have hP := poly a0.toNat a1.toNat a2.toNat a3.toNat a4.toNat b0.toNat b1.toNat b2.toNat b3.toNat b4.toNat
  simp only [Nat.one_mul] at hP
  have s0 : ((((((0#64 + a0 * b0) + a1 * b4 * 5#64) + a2 * b3 * 5#64) + a3 * b2 * 5#64) + a4 * b1 * 5#64)).toNat = a0.toNat * b0.toNat + 5 * (a1.toNat * b4.toNat) + 5 * (a2.toNat * b3.toNat) + 5 * (a3.toNat * b2.toNat) + 5 * (a4.toNat * b1.toNat) := by
    rw [sum5_nat _ _ _ _ _ 90071992547409920 (by decide) (by rw [p00]; omega) (by rw [f14]; omega) (by rw [f23]; omega) (by rw [f32]; omega) (by rw [f41]; omega), p00, f14, f23, f32, f41]
  have s1 : ((((((0#64 + a0 * b1) + a1 * b0) + a2 * b4 * 5#64) + a3 * b3 * 5#64) + a4 * b2 * 5#64)).toNat = a0.toNat * b1.toNat + a1.toNat * b0.toNat + 5 * (a2.toNat * b4.toNat) + 5 * (a3.toNat * b3.toNat) + 5 * (a4.toNat * b2.toNat) := by
    rw [sum5_nat _ _ _ _ _ 90071992547409920 (by decide) (by rw [p01]; omega) (by rw [p10]; omega) (by rw [f24]; omega) (by rw [f33]; omega) (by rw [f42]; omega), p01, p10, f24, f33, f42]
  have s2 : ((((((0#64 + a0 * b2) + a1 * b1) + a2 * b0) + a3 * b4 * 5#64) + a4 * b3 * 5#64)).toNat = a0.toNat * b2.toNat + a1.toNat * b1.toNat + a2.toNat * b0.toNat + 5 * (a3.toNat * b4.toNat) + 5 * (a4.toNat * b3.toNat) := by
    rw [sum5_nat _ _ _ _ _ 90071992547409920 (by decide) (by rw [p02]; omega) (by rw [p11]; omega) (by rw [p20]; omega) (by rw [f34]; omega) (by rw [f43]; omega), p02, p11, p20, f34, f43]
  have s3 : ((((((0#64 + a0 * b3) + a1 * b2) + a2 * b1) + a3 * b0) + a4 * b4 * 5#64)).toNat = a0.toNat * b3.toNat + a1.toNat * b2.toNat + a2.toNat * b1.toNat + a3.toNat * b0.toNat + 5 * (a4.toNat * b4.toNat) := by
    rw [sum5_nat _ _ _ _ _ 90071992547409920 (by decide) (by rw [p03]; omega) (by rw [p12]; omega) (by rw [p21]; omega) (by rw [p30]; omega) (by rw [f44]; omega), p03, p12, p21, p30, f44]
  have s4 : ((((((0#64 + a0 * b4) + a1 * b3) + a2 * b2) + a3 * b1) + a4 * b0)).toNat = a0.toNat * b4.toNat + a1.toNat * b3.toNat + a2.toNat * b2.toNat + a3.toNat * b1.toNat + a4.toNat * b0.toNat := by
    rw [sum5_nat _ _ _ _ _ 90071992547409920 (by decide) (by rw [p04]; omega) (by rw [p13]; omega) (by rw [p22]; omega) (by rw [p31]; omega) (by rw [p40]; omega), p04, p13, p22, p31, p40]
  refine ⟨⟨1 * (a1.toNat * b4.toNat) + 1 * (a2.toNat * b3.toNat) + 67108864 * (a2.toNat * b4.toNat) + 1 * (a3.toNat * b2.toNat) + 67108864 * (a3.toNat * b3.toNat) + 4503599627370496 * (a3.toNat * b4.toNat) + 1 * (a4.toNat * b1.toNat) + 67108864 * (a4.toNat * b2.toNat) + 4503599627370496 * (a4.toNat * b3.toNat) + 302231454903657293676544 * (a4.toNat * b4.toNat), ?_⟩, ?_, ?_, ?_, ?_, ?_⟩
  · rw [v5_eq, v5_eq, v5_eq, s0, s1, s2, s3, s4, hP]
    unfold pP
    clear hP s0 s1 s2 s3 s4 p00 p01 p02 p03 p04 p10 p11 p12 p13 p14 p20 p21 p22 p23 p24 p30 p31 p32 p33 p34 p40 p41 p42 p43 p44 f14 f23 f24 f32 f33 f34 f41 f42 f43 f44 q00 q01 q02 q03 q04 q10 q11 q12 q13 q14 q20 q21 q22 q23 q24 q30 q31 q32 q33 q34 q40 q41 q42 q43 q44
    generalize a0.toNat * b0.toNat = m00
    generalize a0.toNat * b1.toNat = m01
    generalize a0.toNat * b2.toNat = m02
    generalize a0.toNat * b3.toNat = m03
    generalize a0.toNat * b4.toNat = m04
    generalize a1.toNat * b0.toNat = m10
    generalize a1.toNat * b1.toNat = m11
    generalize a1.toNat * b2.toNat = m12
    generalize a1.toNat * b3.toNat = m13
    generalize a1.toNat * b4.toNat = m14
    generalize a2.toNat * b0.toNat = m20
    generalize a2.toNat * b1.toNat = m21
    generalize a2.toNat * b2.toNat = m22
    generalize a2.toNat * b3.toNat = m23
    generalize a2.toNat * b4.toNat = m24
    generalize a3.toNat * b0.toNat = m30
    generalize a3.toNat * b1.toNat = m31
    generalize a3.toNat * b2.toNat = m32
    generalize a3.toNat * b3.toNat = m33
    generalize a3.toNat * b4.toNat = m34
    generalize a4.toNat * b0.toNat = m40
    generalize a4.toNat * b1.toNat = m41
    generalize a4.toNat * b2.toNat = m42
    generalize a4.toNat * b3.toNat = m43
    generalize a4.toNat * b4.toNat = m44
    omega
  · show BitVec.toNat ((((((0#64 + a0 * b0) + a1 * b4 * 5#64) + a2 * b3 * 5#64) + a3 * b2 * 5#64) + a4 * b1 * 5#64)) < _
    rw [s0]
    omega
  · show BitVec.toNat ((((((0#64 + a0 * b1) + a1 * b0) + a2 * b4 * 5#64) + a3 * b3 * 5#64) + a4 * b2 * 5#64)) < _
    rw [s1]
    omega
  · show BitVec.toNat ((((((0#64 + a0 * b2) + a1 * b1) + a2 * b0) + a3 * b4 * 5#64) + a4 * b3 * 5#64)) < _
    rw [s2]
    omega
  · show BitVec.toNat ((((((0#64 + a0 * b3) + a1 * b2) + a2 * b1) + a3 * b0) + a4 * b4 * 5#64)) < _
    rw [s3]
    omega
  · show BitVec.toNat ((((((0#64 + a0 * b4) + a1 * b3) + a2 * b2) + a3 * b1) + a4 * b0)) < _
    rw [s4]
    omega
end Go.Proofs.Ytlphiohgehkjlaa
