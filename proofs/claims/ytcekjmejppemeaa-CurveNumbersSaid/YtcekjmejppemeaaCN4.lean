/- The texts FLimb, FMul64, FMul, FLMul, FPow, FBelow, FInv, FRoot, FLaws, FRfNum, FRfAdd, FRfPlain, FRfN, FRfMul, FRfPow, FRfLaws, FSameB, FEq, FRfSame, FRfAddL, FRfAddS, CvBend, CvUnPre, CvUnA, merged into one. -/
import Derived.Test.YtcekjmejppemeaaCN3
import Derived.Lib.Mul64
/- limb's numbers: what is carried, added, taken away, told as bytes. No program in sight. -/
namespace Go.Proofs.Ytcekjmejppemeaa
open Go.RowKit
/-- The number of five words of 51 bits, of four of 64. -/
def lV (a : List (BitVec 64)) : Nat := (nth a 0).toNat + (nth a 1).toNat * 2251799813685248 + (nth a 2).toNat * 5070602400912917605986812821504 + (nth a 3).toNat * 11417981541647679048466287755595961091061972992 + (nth a 4).toNat * 25711008708143844408671393477458601640355247900524685364822016
def wV (a : List (BitVec 64)) : Nat := (nth a 0).toNat + (nth a 1).toNat * 18446744073709551616 + (nth a 2).toNat * 340282366920938463463374607431768211456 + (nth a 3).toNat * 6277101735386680763835789423207666416102355444464034512896
def LF (a : List (BitVec 64)) : Fp := zf (lV a)
/-- Words that stay far below 64 bits. -/
def Low (n : Nat) (a : List (BitVec 64)) : Prop := a.length = 5 ∧ (nth a 0).toNat < n ∧ (nth a 1).toNat < n ∧ (nth a 2).toNat < n ∧ (nth a 3).toNat < n ∧ (nth a 4).toNat < n
abbrev Fine (a : List (BitVec 64)) : Prop := Low 4503599627370496 a
theorem five {a : List (BitVec 64)} (h : a.length = 5) : ∃ a0 a1 a2 a3 a4, a = [a0, a1, a2, a3, a4] := by
  match a, h with
  | [a0, a1, a2, a3, a4], _ => exact ⟨_, _, _, _, _, rfl⟩
theorem add_nat {x y : BitVec 64} (h : x.toNat + y.toNat < 18446744073709551616) : (x + y).toNat = x.toNat + y.toNat := by
  rw [BitVec.toNat_add, Nat.mod_eq_of_lt (by omega)]
theorem shr_nat (x : BitVec 64) (k : Nat) : (x >>> k).toNat = x.toNat / 2 ^ k := by
  rw [BitVec.toNat_ushiftRight, Nat.shiftRight_eq_div_pow]
theorem shr51 (x : BitVec 64) : (x >>> 51).toNat = x.toNat / 2251799813685248 := shr_nat x 51
theorem or_low {x y : BitVec 64} (j : Nat) (hx : x.toNat < 2 ^ j) : (x ||| y <<< j).toNat = x.toNat + y.toNat * 2 ^ j % 18446744073709551616 := by
  rw [BitVec.toNat_or, BitVec.toNat_shiftLeft, Nat.shiftLeft_eq]
  rcases Nat.lt_or_ge 64 j with hj | hj
  · have e : y.toNat * 2 ^ j % 2 ^ 64 = 0 := by
      obtain ⟨k, rfl⟩ : ∃ k, j = 64 + k := ⟨j - 64, by omega⟩
      rw [Nat.pow_add, show y.toNat * (2 ^ 64 * 2 ^ k) = 2 ^ 64 * (y.toNat * 2 ^ k) from by grobner, Nat.mul_mod_right]
    rw [e, Nat.or_zero, Nat.add_zero]
  · have e : y.toNat * 2 ^ j % 2 ^ 64 = y.toNat % 2 ^ (64 - j) * 2 ^ j := by
      have : (2 : Nat) ^ 64 = 2 ^ (64 - j) * 2 ^ j := by rw [← Nat.pow_add, show 64 - j + j = 64 by omega]
      rw [this, Nat.mul_mod_mul_right]
    rw [show (18446744073709551616 : Nat) = 2 ^ 64 from rfl, e, Nat.or_comm, ← Nat.shiftLeft_eq, ← Nat.shiftLeft_add_eq_or_of_lt hx, Nat.shiftLeft_eq, Nat.add_comm]
/-- One carrying of five words: the words, and what is carried out. -/
def car5 (a0 a1 a2 a3 a4 : BitVec 64) : List (BitVec 64) × BitVec 64 :=
  let s0 := a0 + 0#64
  let s1 := a1 + s0 >>> 51
  let s2 := a2 + s1 >>> 51
  let s3 := a3 + s2 >>> 51
  let s4 := a4 + s3 >>> 51
  ([s0 &&& 2251799813685247#64, s1 &&& 2251799813685247#64, s2 &&& 2251799813685247#64, s3 &&& 2251799813685247#64, s4 &&& 2251799813685247#64], s4 >>> 51)
theorem car5_eq (a0 a1 a2 a3 a4 : BitVec 64) : lmCar_L3 [a0, a1, a2, a3, a4] 5 = ((car5 a0 a1 a2 a3 a4).2, (car5 a0 a1 a2 a3 a4).1) := by kernel_rfl
theorem car5_spec (a0 a1 a2 a3 a4 : BitVec 64) (h0 : a0.toNat < 9223372036854775808) (h1 : a1.toNat < 9223372036854775808) (h2 : a2.toNat < 9223372036854775808) (h3 : a3.toNat < 9223372036854775808) (h4 : a4.toNat < 9223372036854775808) :
    ∃ r0 r1 r2 r3 r4 c : BitVec 64, car5 a0 a1 a2 a3 a4 = ([r0, r1, r2, r3, r4], c) ∧ r0.toNat < 2251799813685248 ∧ r1.toNat < 2251799813685248 ∧ r2.toNat < 2251799813685248 ∧ r3.toNat < 2251799813685248 ∧ r4.toNat < 2251799813685248 ∧
      a0.toNat + a1.toNat * 2251799813685248 + a2.toNat * 5070602400912917605986812821504 + a3.toNat * 11417981541647679048466287755595961091061972992 + a4.toNat * 25711008708143844408671393477458601640355247900524685364822016 =
      r0.toNat + r1.toNat * 2251799813685248 + r2.toNat * 5070602400912917605986812821504 + r3.toNat * 11417981541647679048466287755595961091061972992 + r4.toNat * 25711008708143844408671393477458601640355247900524685364822016 + c.toNat * 57896044618658097711785492504343953926634992332820282019728792003956564819968 := by
  refine ⟨_, _, _, _, _, _, rfl, ?_⟩
  have e0 : (a0 + 0#64).toNat = a0.toNat := by rw [BitVec.add_zero]
  generalize a0 + 0#64 = s0 at *
  have c0 := shr51 s0
  have e1 := add_nat (x := a1) (y := s0 >>> 51) (by omega)
  generalize a1 + s0 >>> 51 = s1 at *
  have c1 := shr51 s1
  have e2 := add_nat (x := a2) (y := s1 >>> 51) (by omega)
  generalize a2 + s1 >>> 51 = s2 at *
  have c2 := shr51 s2
  have e3 := add_nat (x := a3) (y := s2 >>> 51) (by omega)
  generalize a3 + s2 >>> 51 = s3 at *
  have c3 := shr51 s3
  have e4 := add_nat (x := a4) (y := s3 >>> 51) (by omega)
  generalize a4 + s3 >>> 51 = s4 at *
  have c4 := shr51 s4
  have m0 := mask_toNat s0
  have m1 := mask_toNat s1
  have m2 := mask_toNat s2
  have m3 := mask_toNat s3
  have m4 := mask_toNat s4
  rw [m0, m1, m2, m3, m4]
  omega
/-- Words carried on. -/
theorem car_exact {a : List (BitVec 64)} (h : Low 9223372036854775808 a) : ∃ r0 r1 r2 r3 r4 c : Nat, (lmCar a).length = 5 ∧ (nth (lmCar a) 0).toNat = r0 + 19 * c ∧ (nth (lmCar a) 1).toNat = r1 ∧ (nth (lmCar a) 2).toNat = r2 ∧ (nth (lmCar a) 3).toNat = r3 ∧ (nth (lmCar a) 4).toNat = r4 ∧
    r0 < 2251799813685248 ∧ r1 < 2251799813685248 ∧ r2 < 2251799813685248 ∧ r3 < 2251799813685248 ∧ r4 < 2251799813685248 ∧
    lV a = r0 + r1 * 2251799813685248 + r2 * 5070602400912917605986812821504 + r3 * 11417981541647679048466287755595961091061972992 + r4 * 25711008708143844408671393477458601640355247900524685364822016 + c * 57896044618658097711785492504343953926634992332820282019728792003956564819968 := by
  obtain ⟨hl, h0, h1, h2, h3, h4⟩ := h
  obtain ⟨a0, a1, a2, a3, a4, rfl⟩ := five hl
  obtain ⟨r0, r1, r2, r3, r4, c, he, g0, g1, g2, g3, g4, g5⟩ := car5_spec a0 a1 a2 a3 a4 h0 h1 h2 h3 h4
  have hc : c.toNat ≤ 8192 := by
    change a0.toNat < _ at h0
    change a1.toNat < _ at h1
    change a2.toNat < _ at h2
    change a3.toNat < _ at h3
    change a4.toNat < _ at h4
    omega
  have hm : (19#64 * c).toNat = 19 * c.toNat := by rw [BitVec.toNat_mul]; show 19 * c.toNat % _ = _; rw [Nat.mod_eq_of_lt (by omega)]
  have hs : lmCar [a0, a1, a2, a3, a4] = [r0 + 19#64 * c, r1, r2, r3, r4] := by
    unfold lmCar
    rw [car5_eq, he]
    rfl
  rw [hs]
  refine ⟨r0.toNat, r1.toNat, r2.toNat, r3.toNat, r4.toNat, c.toNat, rfl, ?_, rfl, rfl, rfl, rfl, g0, g1, g2, g3, g4, g5⟩
  show (r0 + 19#64 * c).toNat = _
  rw [add_nat (by rw [hm]; omega), hm]
theorem lV_lt {a : List (BitVec 64)} {n : Nat} (h : Low n a) : lV a < n * 25711008708143855827028953938453824840009041150452446465556481 + 1 := by
  obtain ⟨hl, h0, h1, h2, h3, h4⟩ := h
  unfold lV
  omega
theorem zf_cut {x y c : Nat} (h : x = y + c * 57896044618658097711785492504343953926634992332820282019728792003956564819968) : zf x = zf (y + 19 * c) := by
  rw [zf_eq, h]
  show _ % 57896044618658097711785492504343953926634992332820282019728792003956564819949 = _ % 57896044618658097711785492504343953926634992332820282019728792003956564819949
  omega
theorem car_fine {a : List (BitVec 64)} (h : Low 72057594037927936 a) : Fine (lmCar a) ∧ LF (lmCar a) = LF a := by
  have hlt := lV_lt h
  obtain ⟨hl, h0, h1, h2, h3, h4⟩ := h
  obtain ⟨r0, r1, r2, r3, r4, c, gl, e0, e1, e2, e3, e4, g0, g1, g2, g3, g4, g5⟩ := car_exact (a := a) ⟨hl, by omega, by omega, by omega, by omega, by omega⟩
  have hc : c ≤ 32 := by omega
  refine ⟨⟨gl, by omega, by omega, by omega, by omega, by omega⟩, ?_⟩
  unfold LF
  rw [zf_cut g5]
  congr 1
  unfold lV
  rw [e0, e1, e2, e3, e4]
  omega
theorem add_eq (a0 a1 a2 a3 a4 b0 b1 b2 b3 b4 : BitVec 64) : lmAdd_L2 [a0, a1, a2, a3, a4] [b0, b1, b2, b3, b4] 5 = [a0 + b0, a1 + b1, a2 + b2, a3 + b3, a4 + b4] := by kernel_rfl
theorem add_fine {a b : List (BitVec 64)} (ha : Fine a) (hb : Fine b) : Fine (lmAdd a b) ∧ LF (lmAdd a b) = LF a + LF b := by
  obtain ⟨hl, h0, h1, h2, h3, h4⟩ := ha
  obtain ⟨gl, g0, g1, g2, g3, g4⟩ := hb
  obtain ⟨a0, a1, a2, a3, a4, rfl⟩ := five hl
  obtain ⟨b0, b1, b2, b3, b4, rfl⟩ := five gl
  unfold lmAdd
  rw [add_eq]
  change a0.toNat < _ at h0; change a1.toNat < _ at h1; change a2.toNat < _ at h2; change a3.toNat < _ at h3; change a4.toNat < _ at h4
  change b0.toNat < _ at g0; change b1.toNat < _ at g1; change b2.toNat < _ at g2; change b3.toNat < _ at g3; change b4.toNat < _ at g4
  have e0 := add_nat (x := a0) (y := b0) (by omega)
  have e1 := add_nat (x := a1) (y := b1) (by omega)
  have e2 := add_nat (x := a2) (y := b2) (by omega)
  have e3 := add_nat (x := a3) (y := b3) (by omega)
  have e4 := add_nat (x := a4) (y := b4) (by omega)
  have hlow : Low 72057594037927936 [a0 + b0, a1 + b1, a2 + b2, a3 + b3, a4 + b4] := ⟨rfl, by show (a0 + b0).toNat < _; omega, by show (a1 + b1).toNat < _; omega, by show (a2 + b2).toNat < _; omega, by show (a3 + b3).toNat < _; omega, by show (a4 + b4).toNat < _; omega⟩
  obtain ⟨f1, f2⟩ := car_fine hlow
  refine ⟨f1, f2.trans ?_⟩
  unfold LF
  rw [← zf_add]
  congr 1
  show (a0 + b0).toNat + (a1 + b1).toNat * _ + (a2 + b2).toNat * _ + (a3 + b3).toNat * _ + (a4 + b4).toNat * _ = a0.toNat + a1.toNat * _ + a2.toNat * _ + a3.toNat * _ + a4.toNat * _ + (b0.toNat + b1.toNat * _ + b2.toNat * _ + b3.toNat * _ + b4.toNat * _)
  rw [e0, e1, e2, e3, e4]
  omega
theorem sub_eq (a0 a1 a2 a3 a4 b0 b1 b2 b3 b4 : BitVec 64) : lmSub_L3 [a0, a1, a2, a3, a4] [b0, b1, b2, b3, b4] 5 = [a0 + (9007199254740916#64 - b0), a1 + (9007199254740988#64 - b1), a2 + (9007199254740988#64 - b2), a3 + (9007199254740988#64 - b3), a4 + (9007199254740988#64 - b4)] := by kernel_rfl
theorem sub_nat {x y : BitVec 64} (h : y.toNat ≤ x.toNat) : (x - y).toNat = x.toNat - y.toNat := BitVec.toNat_sub_of_le (by rw [BitVec.le_def]; exact h)
theorem sub_fine {a b : List (BitVec 64)} (ha : Fine a) (hb : Fine b) : Fine (lmSub a b) ∧ LF (lmSub a b) = LF a - LF b := by
  obtain ⟨hl, h0, h1, h2, h3, h4⟩ := ha
  obtain ⟨gl, g0, g1, g2, g3, g4⟩ := hb
  obtain ⟨a0, a1, a2, a3, a4, rfl⟩ := five hl
  obtain ⟨b0, b1, b2, b3, b4, rfl⟩ := five gl
  unfold lmSub
  rw [sub_eq]
  change a0.toNat < _ at h0; change a1.toNat < _ at h1; change a2.toNat < _ at h2; change a3.toNat < _ at h3; change a4.toNat < _ at h4
  change b0.toNat < _ at g0; change b1.toNat < _ at g1; change b2.toNat < _ at g2; change b3.toNat < _ at g3; change b4.toNat < _ at g4
  have p0 : (9007199254740916#64 : BitVec 64).toNat = 9007199254740916 := rfl
  have p1 : (9007199254740988#64 : BitVec 64).toNat = 9007199254740988 := rfl
  have d0 := sub_nat (x := 9007199254740916#64) (y := b0) (by omega)
  have d1 := sub_nat (x := 9007199254740988#64) (y := b1) (by omega)
  have d2 := sub_nat (x := 9007199254740988#64) (y := b2) (by omega)
  have d3 := sub_nat (x := 9007199254740988#64) (y := b3) (by omega)
  have d4 := sub_nat (x := 9007199254740988#64) (y := b4) (by omega)
  have e0 := add_nat (x := a0) (y := 9007199254740916#64 - b0) (by omega)
  have e1 := add_nat (x := a1) (y := 9007199254740988#64 - b1) (by omega)
  have e2 := add_nat (x := a2) (y := 9007199254740988#64 - b2) (by omega)
  have e3 := add_nat (x := a3) (y := 9007199254740988#64 - b3) (by omega)
  have e4 := add_nat (x := a4) (y := 9007199254740988#64 - b4) (by omega)
  generalize a0 + (9007199254740916#64 - b0) = s0 at *
  generalize a1 + (9007199254740988#64 - b1) = s1 at *
  generalize a2 + (9007199254740988#64 - b2) = s2 at *
  generalize a3 + (9007199254740988#64 - b3) = s3 at *
  generalize a4 + (9007199254740988#64 - b4) = s4 at *
  have hlow : Low 72057594037927936 [s0, s1, s2, s3, s4] := ⟨rfl, by show s0.toNat < _; omega, by show s1.toNat < _; omega, by show s2.toNat < _; omega, by show s3.toNat < _; omega, by show s4.toNat < _; omega⟩
  obtain ⟨f1, f2⟩ := car_fine hlow
  refine ⟨f1, f2.trans ?_⟩
  have key : LF [s0, s1, s2, s3, s4] + LF [b0, b1, b2, b3, b4] = LF [a0, a1, a2, a3, a4] := by
    unfold LF
    rw [← zf_add, zf_eq]
    have : lV [s0, s1, s2, s3, s4] + lV [b0, b1, b2, b3, b4] = lV [a0, a1, a2, a3, a4] + 57896044618658097711785492504343953926634992332820282019728792003956564819949 * 4 := by
      show s0.toNat + s1.toNat * _ + s2.toNat * _ + s3.toNat * _ + s4.toNat * _ + (b0.toNat + b1.toNat * _ + b2.toNat * _ + b3.toNat * _ + b4.toNat * _) = a0.toNat + a1.toNat * _ + a2.toNat * _ + a3.toNat * _ + a4.toNat * _ + _
      omega
    rw [this, Nat.add_mul_mod_self_left]
  rw [← key]
  grobner
theorem small_fine {x : BitVec 64} (h : x.toNat < 4503599627370496) : Fine (lmSmall x) ∧ LF (lmSmall x) = zf x.toNat := by
  have e : lmSmall x = [x, 0#64, 0#64, 0#64, 0#64] := by unfold lmSmall; rfl
  rw [e]
  have z : (0#64 : BitVec 64).toNat < 4503599627370496 := by decide
  refine ⟨⟨rfl, h, z, z, z, z⟩, ?_⟩
  have : lV [x, 0#64, 0#64, 0#64, 0#64] = x.toNat := by
    show x.toNat + (0#64).toNat * _ + (0#64).toNat * _ + (0#64).toNat * _ + (0#64).toNat * _ = _
    rw [show (0#64 : BitVec 64).toNat = 0 from rfl]
    omega
  unfold LF
  rw [this]
/-- A list laid place by place. -/
theorem put_run {n m : Nat} (f : Nat → List (BitVec n)) (g : Nat → BitVec n) (h0 : (f 0).length = m) (hs : ∀ j, f (j + 1) = put (f j) j (g j)) : ∀ j, (f j).length = m ∧ ∀ i, i < j → i < m → nth (f j) i = g i := by
  intro j
  induction j with
  | zero => exact ⟨h0, fun i hi => by omega⟩
  | succ j ih =>
    refine ⟨by rw [hs, put_length, ih.1], fun i hi hm => ?_⟩
    rw [hs]
    by_cases e : j = i
    · subst e; rw [nth_put _ _ _ _ (by rw [ih.1]; exact hm), if_pos rfl]
    · by_cases hj : j < m
      · rw [nth_put _ _ _ _ (by rw [ih.1]; exact hj), if_neg e]; exact ih.2 i (by omega) hm
      · rw [show put (f j) j (g j) = f j from List.set_eq_of_length_le (by rw [ih.1]; omega)]; exact ih.2 i (by omega) hm
theorem byte_at (w : List (BitVec 64)) (i : Nat) (hi : i < 32) : (nth w (i / 8) >>> (8 * (i % 8))).setWidth 8 = BitVec.ofNat 8 (wV w / 256 ^ i) := by
  apply BitVec.eq_of_toNat_eq
  rw [BitVec.toNat_setWidth, BitVec.toNat_ofNat, shr_nat]
  have h0 := (nth w 0).isLt
  have h1 := (nth w 1).isLt
  have h2 := (nth w 2).isLt
  have h3 := (nth w 3).isLt
  unfold wV
  rcases (by omega : i = 0 ∨ i = 1 ∨ i = 2 ∨ i = 3 ∨ i = 4 ∨ i = 5 ∨ i = 6 ∨ i = 7 ∨ i = 8 ∨ i = 9 ∨ i = 10 ∨ i = 11 ∨ i = 12 ∨ i = 13 ∨ i = 14 ∨ i = 15 ∨ i = 16 ∨ i = 17 ∨ i = 18 ∨ i = 19 ∨ i = 20 ∨ i = 21 ∨ i = 22 ∨ i = 23 ∨ i = 24 ∨ i = 25 ∨ i = 26 ∨ i = 27 ∨ i = 28 ∨ i = 29 ∨ i = 30 ∨ i = 31) with h | h | h | h | h | h | h | h | h | h | h | h | h | h | h | h | h | h | h | h | h | h | h | h | h | h | h | h | h | h | h | h <;> subst h <;> simp only [Nat.reduceDiv, Nat.reduceMod, Nat.reduceMul, Nat.reducePow] <;> omega
theorem bytes_run (w : List (BitVec 64)) (f : Nat → List (BitVec 8)) (h0 : (f 0).length = 32) (hs : ∀ j, f (j + 1) = put (f j) j ((nth w (j / 8) >>> (8 * (j % 8))).setWidth 8)) : f 32 = toB (wV w) := by
  obtain ⟨hl, hn⟩ := put_run f (fun j => (nth w (j / 8) >>> (8 * (j % 8))).setWidth 8) h0 hs 32
  refine extNth (by rw [hl, toB_len]) fun i hi => ?_
  rw [hl] at hi
  rw [hn i hi hi, toB_nth _ _ hi, byte_at w i hi]
/-- All words below 2^51. -/
abbrev Tight (a : List (BitVec 64)) : Prop := Low 2251799813685248 a
theorem car_tight {a : List (BitVec 64)} (h : Fine a) : Tight (lmCar (lmCar a)) ∧ LF (lmCar (lmCar a)) = LF a := by
  have hf := car_fine (a := a) ⟨h.1, by have := h.2.1; omega, by have := h.2.2.1; omega, by have := h.2.2.2.1; omega, by have := h.2.2.2.2.1; omega, by have := h.2.2.2.2.2; omega⟩
  have hf2 := car_fine (a := lmCar a) ⟨hf.1.1, by have := hf.1.2.1; omega, by have := hf.1.2.2.1; omega, by have := hf.1.2.2.2.1; omega, by have := hf.1.2.2.2.2.1; omega, by have := hf.1.2.2.2.2.2; omega⟩
  refine ⟨?_, hf2.2.trans hf.2⟩
  obtain ⟨hl, h0, h1, h2, h3, h4⟩ := h
  obtain ⟨r0, r1, r2, r3, r4, c, gl, e0, e1, e2, e3, e4, g0, g1, g2, g3, g4, g5⟩ := car_exact (a := a) ⟨hl, by omega, by omega, by omega, by omega, by omega⟩
  have hc : c ≤ 2 := by unfold lV at g5; omega
  obtain ⟨q0, q1, q2, q3, q4, d, kl, f0, f1, f2, f3, f4, k0, k1, k2, k3, k4, k5⟩ := car_exact (a := lmCar a) ⟨gl, by omega, by omega, by omega, by omega, by omega⟩
  unfold lV at k5
  rw [e0, e1, e2, e3, e4] at k5
  refine ⟨kl, ?_, ?_, ?_, ?_, ?_⟩ <;> omega
theorem car_same {a : List (BitVec 64)} (h : Tight a) : lmCar a = a := by
  have hl := h.1
  have h0 := h.2.1
  have h1 := h.2.2.1
  have h2 := h.2.2.2.1
  have h3 := h.2.2.2.2.1
  have h4 := h.2.2.2.2.2
  obtain ⟨r0, r1, r2, r3, r4, c, gl, e0, e1, e2, e3, e4, g0, g1, g2, g3, g4, g5⟩ := car_exact (a := a) ⟨hl, by omega, by omega, by omega, by omega, by omega⟩
  unfold lV at g5
  refine extNth (by rw [gl, hl]) fun i hi => ?_
  rw [gl] at hi
  apply BitVec.eq_of_toNat_eq
  rcases (by omega : i = 0 ∨ i = 1 ∨ i = 2 ∨ i = 3 ∨ i = 4) with h | h | h | h | h <;> subst h <;> omega
theorem bytes_L6 (a : List (BitVec 64)) (j : Nat) : lmBytes_L6 a j = lmCar_L3 (put (lmCar (lmCar (lmCar a))) 0 ((nth (lmCar (lmCar (lmCar a))) 0) + 19#64)) j := by
  induction j with
  | zero => rfl
  | succ j ih => rw [lmBytes_L6, lmCar_L3, ih]; rfl
/-- Five words of 51 bits as four of 64. -/
def w4 (a : List (BitVec 64)) : List (BitVec 64) := [(nth a 0) ||| ((nth a 1) <<< 51), ((nth a 1) >>> 13) ||| ((nth a 2) <<< 38), ((nth a 2) >>> 26) ||| ((nth a 3) <<< 25), ((nth a 3) >>> 39) ||| ((nth a 4) <<< 12)]
theorem w4_val {a : List (BitVec 64)} (h : Tight a) : wV (w4 a) = lV a := by
  obtain ⟨hl, h0, h1, h2, h3, h4⟩ := h
  have e1 := shr_nat (nth a 1) 13
  have e2 := shr_nat (nth a 2) 26
  have e3 := shr_nat (nth a 3) 39
  simp only [Nat.reducePow] at e1 e2 e3
  have k0 := or_low (x := nth a 0) (y := nth a 1) 51 h0
  have k1 := or_low (x := nth a 1 >>> 13) (y := nth a 2) 38 (by rw [e1]; show _ < 274877906944; omega)
  have k2 := or_low (x := nth a 2 >>> 26) (y := nth a 3) 25 (by rw [e2]; show _ < 33554432; omega)
  have k3 := or_low (x := nth a 3 >>> 39) (y := nth a 4) 12 (by rw [e3]; show _ < 4096; omega)
  simp only [Nat.reducePow] at k0 k1 k2 k3
  show ((nth a 0) ||| ((nth a 1) <<< 51)).toNat + (((nth a 1) >>> 13) ||| ((nth a 2) <<< 38)).toNat * _ + (((nth a 2) >>> 26) ||| ((nth a 3) <<< 25)).toNat * _ + (((nth a 3) >>> 39) ||| ((nth a 4) <<< 12)).toNat * _ = _
  rw [k0, k1, k2, k3, e1, e2, e3]
  unfold lV
  omega
theorem bytes_spec {a : List (BitVec 64)} (h : Fine a) : lmBytes a = toB (LF a).val := by
  obtain ⟨h1, h2⟩ := car_tight h
  have hs := car_same h1
  unfold lmBytes
  rw [hs]
  rw [bytes_L6, hs]
  generalize lmCar (lmCar a) = t at *
  have run : ∀ J, lmBytes_L17 J 32 = toB (wV (w4 J)) := fun J => bytes_run (w4 J) (lmBytes_L17 J) rfl fun j => rfl
  rw [run]
  congr 1
  rw [← h2]
  unfold LF
  rw [zf_val]
  have ht := h1
  obtain ⟨hl, g0, g1, g2, g3, g4⟩ := h1
  obtain ⟨t0, t1, t2, t3, t4, rfl⟩ := five hl
  change t0.toNat < _ at g0; change t1.toNat < _ at g1; change t2.toNat < _ at g2; change t3.toNat < _ at g3; change t4.toNat < _ at g4
  rw [show put [t0, t1, t2, t3, t4] 0 (nth [t0, t1, t2, t3, t4] 0 + 19#64) = [t0 + 19#64, t1, t2, t3, t4] from rfl, car5_eq]
  have e19 : (19#64 : BitVec 64).toNat = 19 := rfl
  have ea := add_nat (x := t0) (y := 19#64) (by omega)
  obtain ⟨r0, r1, r2, r3, r4, c, he, k0, k1, k2, k3, k4, k5⟩ := car5_spec (t0 + 19#64) t1 t2 t3 t4 (by omega) (by omega) (by omega) (by omega) (by omega)
  rw [he]
  show wV (w4 (if (0#64).toNat < c.toNat then [r0, r1, r2, r3, r4] else [t0, t1, t2, t3, t4])) = _
  have hv : lV [t0, t1, t2, t3, t4] = t0.toNat + t1.toNat * 2251799813685248 + t2.toNat * 5070602400912917605986812821504 + t3.toNat * 11417981541647679048466287755595961091061972992 + t4.toNat * 25711008708143844408671393477458601640355247900524685364822016 := rfl
  have hr : lV [r0, r1, r2, r3, r4] = r0.toNat + r1.toNat * 2251799813685248 + r2.toNat * 5070602400912917605986812821504 + r3.toNat * 11417981541647679048466287755595961091061972992 + r4.toNat * 25711008708143844408671393477458601640355247900524685364822016 := rfl
  have z : (0#64 : BitVec 64).toNat = 0 := rfl
  show _ = _ % 57896044618658097711785492504343953926634992332820282019728792003956564819949
  split
  · rename_i hc
    have hc1 : c.toNat = 1 := by omega
    rw [hc1] at k5
    rw [w4_val (a := [r0, r1, r2, r3, r4]) ⟨rfl, k0, k1, k2, k3, k4⟩, hr, hv]
    rw [Nat.mod_eq_sub_mod (by omega), Nat.mod_eq_of_lt (by omega)]
    omega
  · rename_i hc
    have hc1 : c.toNat = 0 := by omega
    rw [hc1] at k5
    rw [w4_val ht, hv]
    rw [Nat.mod_eq_of_lt (by omega)]
theorem words_run (b : List (BitVec 8)) (f : Nat → List (BitVec 64)) (h0 : f 0 = zer64 4) (hs : ∀ j, f (j + 1) = put (f j) (j / 8) ((nth (f j) (j / 8)) ||| (((nth b j).setWidth 64) <<< (8 * (j % 8))))) :
    ∀ j, j ≤ 32 → (f j).length = 4 ∧ ∀ t, t < 4 → (nth (f j) t).toNat = wvb b t (min 8 (j - 8 * t)) := by
  intro j
  induction j with
  | zero =>
    intro _
    rw [h0]
    refine ⟨rfl, fun t ht => ?_⟩
    rw [show min 8 (0 - 8 * t) = 0 by omega, wvb]
    rcases (by omega : t = 0 ∨ t = 1 ∨ t = 2 ∨ t = 3) with h | h | h | h <;> subst h <;> rfl
  | succ j ih =>
    intro hj
    obtain ⟨hl, hn⟩ := ih (by omega)
    refine ⟨by rw [hs, put_length, hl], fun t ht => ?_⟩
    rw [hs, nth_put _ _ _ _ (by rw [hl]; omega)]
    by_cases e : j / 8 = t
    · rw [if_pos e, e]
      have h1 := hn t ht
      have e1 : min 8 (j - 8 * t) = j % 8 := by omega
      have e2 : min 8 (j + 1 - 8 * t) = j % 8 + 1 := by omega
      rw [e1] at h1
      rw [or_byte _ _ _ (by omega) (by rw [h1]; exact wvb_lt b t _), h1, e2, wvb, show 8 * t + j % 8 = j by omega]
    · rw [if_neg e, hn t ht]
      congr 1
      omega
theorem of_words (b : List (BitVec 8)) (t : Nat) (ht : t < 4) : (nth (lmOf_L3 b 32) t).toNat = wvb b t 8 := by
  have := (words_run b (lmOf_L3 b) rfl (fun j => rfl) 32 (Nat.le_refl _)).2 t ht
  rwa [show min 8 (32 - 8 * t) = 8 by omega] at this
theorem of_fine (b : List (BitVec 8)) : Fine (lmOf b) ∧ LF (lmOf b) = zf (leS b 32) := by
  have v := leS_wvb b
  have v0 := of_words b 0 (by decide)
  have v1 := of_words b 1 (by decide)
  have v2 := of_words b 2 (by decide)
  have v3 := of_words b 3 (by decide)
  unfold lmOf
  generalize lmOf_L3 b 32 = W at *
  generalize hw0 : nth W 0 = w0 at *
  generalize hw1 : nth W 1 = w1 at *
  generalize hw2 : nth W 2 = w2 at *
  generalize hw3 : nth W 3 = w3 at *
  have b0 := w0.isLt
  have b1 := w1.isLt
  have b2 := w2.isLt
  have b3 := w3.isLt
  have s0 := shr_nat w0 51
  have s1 := shr_nat w1 38
  have s2 := shr_nat w2 25
  have s3 := shr_nat w3 12
  have s4 := shr_nat w3 63
  simp only [Nat.reducePow] at s0 s1 s2 s3 s4
  have o1 := or_low (x := w0 >>> 51) (y := w1) 13 (by rw [s0]; show _ < 8192; omega)
  have o2 := or_low (x := w1 >>> 38) (y := w2) 26 (by rw [s1]; show _ < 67108864; omega)
  have o3 := or_low (x := w2 >>> 25) (y := w3) 39 (by rw [s2]; show _ < 549755813888; omega)
  simp only [Nat.reducePow] at o1 o2 o3
  have m0 := mask_toNat w0
  have m1 := mask_toNat (w0 >>> 51 ||| w1 <<< 13)
  have m2 := mask_toNat (w1 >>> 38 ||| w2 <<< 26)
  have m3 := mask_toNat (w2 >>> 25 ||| w3 <<< 39)
  have m4 := mask_toNat (w3 >>> 12)
  rw [o1, s0] at m1
  rw [o2, s1] at m2
  rw [o3, s2] at m3
  rw [s3] at m4
  have t4 : (19#64 * w3 >>> 63).toNat = 19 * (w3.toNat / 9223372036854775808) := by
    rw [BitVec.toNat_mul, s4]
    show 19 * _ % _ = _
    rw [Nat.mod_eq_of_lt (by omega)]
  have a0 := add_nat (x := w0 &&& 2251799813685247#64) (y := 19#64 * w3 >>> 63) (by omega)
  show Fine [(w0 &&& 2251799813685247#64) + 19#64 * w3 >>> 63, (w0 >>> 51 ||| w1 <<< 13) &&& 2251799813685247#64, (w1 >>> 38 ||| w2 <<< 26) &&& 2251799813685247#64, (w2 >>> 25 ||| w3 <<< 39) &&& 2251799813685247#64, w3 >>> 12 &&& 2251799813685247#64] ∧ LF [(w0 &&& 2251799813685247#64) + 19#64 * w3 >>> 63, (w0 >>> 51 ||| w1 <<< 13) &&& 2251799813685247#64, (w1 >>> 38 ||| w2 <<< 26) &&& 2251799813685247#64, (w2 >>> 25 ||| w3 <<< 39) &&& 2251799813685247#64, w3 >>> 12 &&& 2251799813685247#64] = _
  generalize (w0 &&& 2251799813685247#64) + 19#64 * w3 >>> 63 = x0 at *
  generalize (w0 >>> 51 ||| w1 <<< 13) &&& 2251799813685247#64 = x1 at *
  generalize (w1 >>> 38 ||| w2 <<< 26) &&& 2251799813685247#64 = x2 at *
  generalize (w2 >>> 25 ||| w3 <<< 39) &&& 2251799813685247#64 = x3 at *
  generalize w3 >>> 12 &&& 2251799813685247#64 = x4 at *
  refine ⟨⟨rfl, ?_, ?_, ?_, ?_, ?_⟩, ?_⟩
  · show x0.toNat < _; omega
  · show x1.toNat < _; omega
  · show x2.toNat < _; omega
  · show x3.toNat < _; omega
  · show x4.toNat < _; omega
  have y1 : x1.toNat = w0.toNat / 2251799813685248 + 8192 * (w1.toNat % 274877906944) := by omega
  have y2 : x2.toNat = w1.toNat / 274877906944 + 67108864 * (w2.toNat % 33554432) := by omega
  have y3 : x3.toNat = w2.toNat / 33554432 + 549755813888 * (w3.toNat % 4096) := by omega
  have y4 : x4.toNat = w3.toNat / 4096 % 2251799813685248 := by omega
  clear m1 m2 m3 m4 o1 o2 o3 s0 s1 s2 s3 s4
  unfold LF
  have e : leS b 32 = (w0.toNat % 2251799813685248 + x1.toNat * 2251799813685248 + x2.toNat * 5070602400912917605986812821504 + x3.toNat * 11417981541647679048466287755595961091061972992 + x4.toNat * 25711008708143844408671393477458601640355247900524685364822016) + (w3.toNat / 9223372036854775808) * 57896044618658097711785492504343953926634992332820282019728792003956564819968 := by omega
  rw [zf_cut e]
  congr 1
  show x0.toNat + x1.toNat * _ + x2.toNat * _ + x3.toNat * _ + x4.toNat * _ = _
  omega
end Go.Proofs.Ytcekjmejppemeaa
/- math/bits.Mul64 (Drawn up by a program.) -/
namespace Go.Proofs.Ytcekjmejppemeaa
open Go.RowKit
def mul640 (x : BitVec 64) (y : BitVec 64) : BitVec 64 := (((x >>> 32) * (y >>> 32)) + ((((x >>> 32) * (y &&& 4294967295#64)) + (((x &&& 4294967295#64) * (y &&& 4294967295#64)) >>> 32)) >>> 32)) + ((((((x >>> 32) * (y &&& 4294967295#64)) + (((x &&& 4294967295#64) * (y &&& 4294967295#64)) >>> 32)) &&& 4294967295#64) + ((x &&& 4294967295#64) * (y >>> 32))) >>> 32)
def mul641 (x : BitVec 64) (y : BitVec 64) : BitVec 64 := x * y
set_option maxRecDepth 100000 in
set_option maxHeartbeats 2000000 in
theorem mul64_ev (x : BitVec 64) (y : BitVec 64)  : Ev Try.prog (.call 77 [.c (.val (U64 x)), .c (.val (U64 y))] []) (.val (.tup [.c (.val (U64 (mul640 x y))), .c (.val (U64 (mul641 x y)))]) []) := by
  have hP_mul640 : Hid (mul640 x y = (((x >>> 32) * (y >>> 32)) + ((((x >>> 32) * (y &&& 4294967295#64)) + (((x &&& 4294967295#64) * (y &&& 4294967295#64)) >>> 32)) >>> 32)) + ((((((x >>> 32) * (y &&& 4294967295#64)) + (((x &&& 4294967295#64) * (y &&& 4294967295#64)) >>> 32)) &&& 4294967295#64) + ((x &&& 4294967295#64) * (y >>> 32))) >>> 32)) := ⟨rfl⟩
  have hP_mul641 : Hid (mul641 x y = x * y) := ⟨rfl⟩
  refine c_call Try.func77 rfl Try.ntmps77 rfl LEN_ ?_
  refine S_ ?_
  refine c_region ?_
  refine s_val (v_assignC rfl) rfl ?_
  refine s_val (v_assignC rfl) rfl ?_
  refine s_nil ?_
  refine S_ ?_
  refine c_region ?_
  refine s_val (v_moveC rfl) rfl ?_
  refine s_val (v_and64 (b := 4294967295#64) rfl rfl) rfl ?_
  refine s_val (v_assignC rfl) rfl ?_
  refine s_nil ?_
  refine S_ ?_
  refine c_region ?_
  refine s_val (v_moveC rfl) rfl ?_
  refine s_val (v_shr64n (j := 32) rfl rfl) rfl ?_
  refine s_val (v_assignC rfl) rfl ?_
  refine s_nil ?_
  refine S_ ?_
  refine c_region ?_
  refine s_val (v_moveC rfl) rfl ?_
  refine s_val (v_and64 (b := 4294967295#64) rfl rfl) rfl ?_
  refine s_val (v_assignC rfl) rfl ?_
  refine s_nil ?_
  refine S_ ?_
  refine c_region ?_
  refine s_val (v_moveC rfl) rfl ?_
  refine s_val (v_shr64n (j := 32) rfl rfl) rfl ?_
  refine s_val (v_assignC rfl) rfl ?_
  refine s_nil ?_
  refine S_ ?_
  refine c_region ?_
  refine s_val (v_moveC rfl) rfl ?_
  refine s_val (v_moveC rfl) rfl ?_
  refine s_val (v_mul64 rfl rfl) rfl ?_
  refine s_val (v_assignC rfl) rfl ?_
  refine s_nil ?_
  refine S_ ?_
  refine c_region ?_
  refine s_val (v_moveC rfl) rfl ?_
  refine s_val (v_moveC rfl) rfl ?_
  refine s_val (v_mul64 rfl rfl) rfl ?_
  refine s_val (v_moveC rfl) rfl ?_
  refine s_val (v_shr64n (j := 32) rfl rfl) rfl ?_
  refine s_val (v_add64 rfl rfl) rfl ?_
  refine s_val (v_assignC rfl) rfl ?_
  refine s_nil ?_
  refine S_ ?_
  refine c_region ?_
  refine s_val (v_moveC rfl) rfl ?_
  refine s_val (v_and64 (b := 4294967295#64) rfl rfl) rfl ?_
  refine s_val (v_assignC rfl) rfl ?_
  refine s_nil ?_
  refine S_ ?_
  refine c_region ?_
  refine s_val (v_moveC rfl) rfl ?_
  refine s_val (v_shr64n (j := 32) rfl rfl) rfl ?_
  refine s_val (v_assignC rfl) rfl ?_
  refine s_nil ?_
  refine S_ ?_
  refine c_region ?_
  refine s_val (v_moveC rfl) rfl ?_
  refine s_val (v_moveC rfl) rfl ?_
  refine s_val (v_moveC rfl) rfl ?_
  refine s_val (v_mul64 rfl rfl) rfl ?_
  refine s_val (v_add64 rfl rfl) rfl ?_
  refine s_val (v_assignC rfl) rfl ?_
  refine s_nil ?_
  refine S_ ?_
  refine c_region ?_
  refine s_val (v_moveC rfl) rfl ?_
  refine s_val (v_moveC rfl) rfl ?_
  refine s_val (v_mul64 rfl rfl) rfl ?_
  refine s_val (v_moveC rfl) rfl ?_
  refine s_val (v_add64 rfl rfl) rfl ?_
  refine s_val (v_moveC rfl) rfl ?_
  refine s_val (v_shr64n (j := 32) rfl rfl) rfl ?_
  refine s_val (v_add64 rfl rfl) rfl ?_
  refine s_val (v_assignC rfl) rfl ?_
  refine s_nil ?_
  refine S_ ?_
  refine c_region ?_
  refine s_val (v_moveC rfl) rfl ?_
  refine s_val (v_moveC rfl) rfl ?_
  refine s_val (v_mul64 rfl rfl) rfl ?_
  refine s_val (v_assignC rfl) rfl ?_
  refine s_nil ?_
  refine S_ ?_
  rw [hP_mul640.out, hP_mul641.out]
  exact k_2 (by first | exact r_tmpC rfl | exact r_tmpA rfl) (by first | exact r_tmpC rfl | exact r_tmpA rfl) (by first | kernel_rfl | rfl)

attribute [irreducible] mul640

attribute [irreducible] mul641
end Go.Proofs.Ytcekjmejppemeaa
/- limb.Mul (Drawn up by a program.) -/
namespace Go.Proofs.Ytcekjmejppemeaa
open Go.RowKit
def lmMul_L6_S (a : List (BitVec 64)) (b : List (BitVec 64)) (j3 : Nat) (X3 : List (BitVec 64)) (X4 : List (BitVec 64)) (j6 : Nat) : List (BitVec 64) × List (BitVec 64) := (put X3 ((j3 + j6) % 5) ((nth X3 ((j3 + j6) % 5)) + ((mul640 (nth a j3) (if 5 ≤ j3 + j6 then (nth b j6) * 19#64 else nth b j6)) + (addC (nth X4 ((j3 + j6) % 5)) (mul641 (nth a j3) (if 5 ≤ j3 + j6 then (nth b j6) * 19#64 else nth b j6)) 0#64))), put X4 ((j3 + j6) % 5) ((nth X4 ((j3 + j6) % 5)) + (mul641 (nth a j3) (if 5 ≤ j3 + j6 then (nth b j6) * 19#64 else nth b j6)) + 0#64))
def lmMul_L6 (a : List (BitVec 64)) (b : List (BitVec 64)) (X1 : List (BitVec 64)) (X2 : List (BitVec 64)) (j3 : Nat) : Nat → List (BitVec 64) × List (BitVec 64)
  | 0 => (X1, X2)
  | j6 + 1 => lmMul_L6_S a b j3 (lmMul_L6 a b X1 X2 j3 j6).1 (lmMul_L6 a b X1 X2 j3 j6).2 j6
theorem lmMul_L6_lens (a : List (BitVec 64)) (b : List (BitVec 64)) (X1 : List (BitVec 64)) (X2 : List (BitVec 64)) (j3 : Nat) (ha : a.length = 5) (hb : b.length = 5) (hX1 : X1.length = 5) (hX2 : X2.length = 5) (j6 : Nat) : (lmMul_L6 a b X1 X2 j3 j6).1.length = 5 ∧ (lmMul_L6 a b X1 X2 j3 j6).2.length = 5 := by
  induction j6 with
  | zero => refine ⟨?_, ?_⟩ <;> first | (simp (maxDischargeDepth := 9) [lmMul_L6, *]; done) | (simp (maxDischargeDepth := 9) [lmMul_L6, *]; omega)
  | succ j6 ih =>
    obtain ⟨ih0, ih1⟩ := ih
    rw [lmMul_L6.eq_2, lmMul_L6_S]
    refine ⟨?_, ?_⟩ <;> first | (simp (maxDischargeDepth := 9) [*]; done) | (simp (maxDischargeDepth := 9) [*]; omega) | (split <;> first | (simp (maxDischargeDepth := 9) [*]; done) | (simp (maxDischargeDepth := 9) [*]; omega))
theorem lmMul_L6_len0 (a : List (BitVec 64)) (b : List (BitVec 64)) (X1 : List (BitVec 64)) (X2 : List (BitVec 64)) (j3 : Nat) (ha : a.length = 5) (hb : b.length = 5) (hX1 : X1.length = 5) (hX2 : X2.length = 5) (j6 : Nat) : (lmMul_L6 a b X1 X2 j3 j6).1.length = 5 := (lmMul_L6_lens a b X1 X2 j3 ha hb hX1 hX2 j6).1
theorem lmMul_L6_len1 (a : List (BitVec 64)) (b : List (BitVec 64)) (X1 : List (BitVec 64)) (X2 : List (BitVec 64)) (j3 : Nat) (ha : a.length = 5) (hb : b.length = 5) (hX1 : X1.length = 5) (hX2 : X2.length = 5) (j6 : Nat) : (lmMul_L6 a b X1 X2 j3 j6).2.length = 5 := (lmMul_L6_lens a b X1 X2 j3 ha hb hX1 hX2 j6).2
def lmMul_L3_S (a : List (BitVec 64)) (b : List (BitVec 64)) (X1 : List (BitVec 64)) (X2 : List (BitVec 64)) (j3 : Nat) : List (BitVec 64) × List (BitVec 64) := (((lmMul_L6 a b X1 X2 j3 5).1), ((lmMul_L6 a b X1 X2 j3 5).2))
def lmMul_L3 (a : List (BitVec 64)) (b : List (BitVec 64)) : Nat → List (BitVec 64) × List (BitVec 64)
  | 0 => (zer64 5, zer64 5)
  | j3 + 1 => lmMul_L3_S a b (lmMul_L3 a b j3).1 (lmMul_L3 a b j3).2 j3
theorem lmMul_L3_lens (a : List (BitVec 64)) (b : List (BitVec 64)) (ha : a.length = 5) (hb : b.length = 5) (j3 : Nat) : (lmMul_L3 a b j3).1.length = 5 ∧ (lmMul_L3 a b j3).2.length = 5 := by
  induction j3 with
  | zero => refine ⟨?_, ?_⟩ <;> first | (simp (maxDischargeDepth := 9) [lmMul_L3, *]; done) | (simp (maxDischargeDepth := 9) [lmMul_L3, *]; omega)
  | succ j3 ih =>
    obtain ⟨ih0, ih1⟩ := ih
    rw [lmMul_L3.eq_2, lmMul_L3_S]
    refine ⟨?_, ?_⟩ <;> first | (simp (maxDischargeDepth := 9) [lmMul_L6_len0, lmMul_L6_len1, *]; done) | (simp (maxDischargeDepth := 9) [lmMul_L6_len0, lmMul_L6_len1, *]; omega) | (split <;> first | (simp (maxDischargeDepth := 9) [lmMul_L6_len0, lmMul_L6_len1, *]; done) | (simp (maxDischargeDepth := 9) [lmMul_L6_len0, lmMul_L6_len1, *]; omega))
theorem lmMul_L3_len0 (a : List (BitVec 64)) (b : List (BitVec 64)) (ha : a.length = 5) (hb : b.length = 5) (j3 : Nat) : (lmMul_L3 a b j3).1.length = 5 := (lmMul_L3_lens a b ha hb j3).1
theorem lmMul_L3_len1 (a : List (BitVec 64)) (b : List (BitVec 64)) (ha : a.length = 5) (hb : b.length = 5) (j3 : Nat) : (lmMul_L3 a b j3).2.length = 5 := (lmMul_L3_lens a b ha hb j3).2
def lmMul_L21_S (Y11 : List (BitVec 64)) (Y12 : List (BitVec 64)) (X14 : BitVec 64) (X15 : List (BitVec 64)) (j21 : Nat) : BitVec 64 × List (BitVec 64) := ((((nth Y11 j21) + (addC (nth Y12 j21) X14 0#64)) <<< 13) ||| (((nth Y12 j21) + X14 + 0#64) >>> 51), put X15 j21 (((nth Y12 j21) + X14 + 0#64) &&& 2251799813685247#64))
def lmMul_L21 (Y11 : List (BitVec 64)) (Y12 : List (BitVec 64)) : Nat → BitVec 64 × List (BitVec 64)
  | 0 => (0#64, zer64 5)
  | j21 + 1 => lmMul_L21_S Y11 Y12 (lmMul_L21 Y11 Y12 j21).1 (lmMul_L21 Y11 Y12 j21).2 j21
theorem lmMul_L21_len1 (Y11 : List (BitVec 64)) (Y12 : List (BitVec 64)) (hY11 : Y11.length = 5) (hY12 : Y12.length = 5) (j21 : Nat) : (lmMul_L21 Y11 Y12 j21).2.length = 5 := by
  induction j21 with
  | zero => first | (simp (maxDischargeDepth := 9) [lmMul_L21, *]; done) | (simp (maxDischargeDepth := 9) [lmMul_L21, *]; omega)
  | succ j21 ih => rw [lmMul_L21.eq_2, lmMul_L21_S]; first | (simp (maxDischargeDepth := 9) [ih]; done) | (simp (maxDischargeDepth := 9) [ih]; omega) | (simp (maxDischargeDepth := 9) [lmMul_L6_len0, lmMul_L6_len1, lmMul_L3_len0, lmMul_L3_len1, *]; done) | (simp (maxDischargeDepth := 9) [lmMul_L6_len0, lmMul_L6_len1, lmMul_L3_len0, lmMul_L3_len1, *]; omega) | (split <;> first | (simp (maxDischargeDepth := 9) [ih]; done) | (simp (maxDischargeDepth := 9) [ih]; omega) | (simp (maxDischargeDepth := 9) [lmMul_L6_len0, lmMul_L6_len1, lmMul_L3_len0, lmMul_L3_len1, *]; done))
def lmMul (a : List (BitVec 64)) (b : List (BitVec 64)) : List (BitVec 64) := lmCar (put (put ((lmMul_L21 ((lmMul_L3 a b 5).1) ((lmMul_L3 a b 5).2) 5).2) 0 (((mul641 ((lmMul_L21 ((lmMul_L3 a b 5).1) ((lmMul_L3 a b 5).2) 5).1) 19#64) + (nth ((lmMul_L21 ((lmMul_L3 a b 5).1) ((lmMul_L3 a b 5).2) 5).2) 0) + 0#64) &&& 2251799813685247#64)) 1 ((nth (put ((lmMul_L21 ((lmMul_L3 a b 5).1) ((lmMul_L3 a b 5).2) 5).2) 0 (((mul641 ((lmMul_L21 ((lmMul_L3 a b 5).1) ((lmMul_L3 a b 5).2) 5).1) 19#64) + (nth ((lmMul_L21 ((lmMul_L3 a b 5).1) ((lmMul_L3 a b 5).2) 5).2) 0) + 0#64) &&& 2251799813685247#64)) 1) + ((((mul640 ((lmMul_L21 ((lmMul_L3 a b 5).1) ((lmMul_L3 a b 5).2) 5).1) 19#64) + (addC (mul641 ((lmMul_L21 ((lmMul_L3 a b 5).1) ((lmMul_L3 a b 5).2) 5).1) 19#64) (nth ((lmMul_L21 ((lmMul_L3 a b 5).1) ((lmMul_L3 a b 5).2) 5).2) 0) 0#64)) <<< 13) ||| (((mul641 ((lmMul_L21 ((lmMul_L3 a b 5).1) ((lmMul_L3 a b 5).2) 5).1) 19#64) + (nth ((lmMul_L21 ((lmMul_L3 a b 5).1) ((lmMul_L3 a b 5).2) 5).2) 0) + 0#64) >>> 51))))
set_option maxRecDepth 100000 in
set_option maxHeartbeats 2000000 in
theorem lmMul_ev (a : List (BitVec 64)) (b : List (BitVec 64)) (ha : a.length = 5) (hb : b.length = 5) : Ev Try.prog (.call 43 [.agg (.a64 (a)), .agg (.a64 (b))] []) (.val (.agg (.a64 (lmMul a b))) []) := by
  have hP : Hid (lmMul a b = lmCar (put (put ((lmMul_L21 ((lmMul_L3 a b 5).1) ((lmMul_L3 a b 5).2) 5).2) 0 (((mul641 ((lmMul_L21 ((lmMul_L3 a b 5).1) ((lmMul_L3 a b 5).2) 5).1) 19#64) + (nth ((lmMul_L21 ((lmMul_L3 a b 5).1) ((lmMul_L3 a b 5).2) 5).2) 0) + 0#64) &&& 2251799813685247#64)) 1 ((nth (put ((lmMul_L21 ((lmMul_L3 a b 5).1) ((lmMul_L3 a b 5).2) 5).2) 0 (((mul641 ((lmMul_L21 ((lmMul_L3 a b 5).1) ((lmMul_L3 a b 5).2) 5).1) 19#64) + (nth ((lmMul_L21 ((lmMul_L3 a b 5).1) ((lmMul_L3 a b 5).2) 5).2) 0) + 0#64) &&& 2251799813685247#64)) 1) + ((((mul640 ((lmMul_L21 ((lmMul_L3 a b 5).1) ((lmMul_L3 a b 5).2) 5).1) 19#64) + (addC (mul641 ((lmMul_L21 ((lmMul_L3 a b 5).1) ((lmMul_L3 a b 5).2) 5).1) 19#64) (nth ((lmMul_L21 ((lmMul_L3 a b 5).1) ((lmMul_L3 a b 5).2) 5).2) 0) 0#64)) <<< 13) ||| (((mul641 ((lmMul_L21 ((lmMul_L3 a b 5).1) ((lmMul_L3 a b 5).2) 5).1) 19#64) + (nth ((lmMul_L21 ((lmMul_L3 a b 5).1) ((lmMul_L3 a b 5).2) 5).2) 0) + 0#64) >>> 51))))) := ⟨rfl⟩
  refine c_call Try.func43 rfl Try.ntmps43 rfl LEN_ ?_
  refine S_ ?_
  refine c_region ?_
  refine s_memN (m_box BX_ LEN_) APP_ rfl ?_
  refine s_memN (m_box BX_ LEN_) APP_ rfl ?_
  refine s_memN (m_alloc al_54 LEN_) APP_ rfl ?_
  refine s_nil ?_
  refine S_ ?_
  refine c_region ?_
  refine s_memN (m_alloc al_53 LEN_) APP_ rfl ?_
  refine s_memN (m_alloc al_53 LEN_) APP_ rfl ?_
  refine s_nil ?_
  refine S_ ?_
  refine c_region ?_
  refine s_val (v_moveC rfl) rfl ?_
  refine s_nil ?_
  refine S_ ?_
  refine c_loopC [2, 3, 4, 5, 6, 22] (fun (zz : Nat × List (BitVec 64) × List (BitVec 64)) => ⟨122, keepT [2, 3, 4, 5, 6, 22] [.c (.ptr 0 0), .c (.ptr 1 0), .c (.ptr 2 0), .c (.ptr 3 0), .c (.ptr 4 0), .c (.val (.int .i64 (((zz.1 : Nat) : Int))))], [.row true (.a64 (a)), .row true (.a64 (b)), .row true (.a64 (zer64 5)), .row true (.a64 (zz.2.1)), .row true (.a64 (zz.2.2))]⟩) (fun j3 => (j3, lmMul_L3 a b j3)) (5) (by kernel_rfl) ?_ ?_
  · intro j3 hj3
    try dsimp only
    have hX1 : (lmMul_L3 a b j3).1.length = 5 := by rw [lmMul_L3_len0 a b ha hb _]; try omega
    have hX2 : (lmMul_L3 a b j3).2.length = 5 := by rw [lmMul_L3_len1 a b ha hb _]; try omega
    rw [lmMul_L3.eq_2, lmMul_L3_S]
    generalize lmMul_L3 a b j3 = Z3 at *
    obtain ⟨X1, X2⟩ := Z3
    try dsimp only at *
    refine S_ ?_
    refine c_region ?_
    refine s_val (v_lssN (b := 5) rfl rfl) rfl ?_
    refine s_nil ?_
    refine S_ ?_
    refine c_region ?_
    refine s_val (v_moveC rfl) rfl ?_
    refine s_val (v_assignC rfl) rfl ?_
    refine s_nil ?_
    refine S_ ?_
    refine c_region ?_
    refine s_val (v_moveC rfl) rfl ?_
    refine s_nil ?_
    refine S_ ?_
    refine c_loopC [2, 3, 4, 5, 6, 7, 22, 25] (fun (zz : Nat × List (BitVec 64) × List (BitVec 64)) => ⟨122, keepT [2, 3, 4, 5, 6, 7, 22, 25] [.c (.ptr 0 0), .c (.ptr 1 0), .c (.ptr 2 0), .c (.ptr 3 0), .c (.ptr 4 0), .c (.val (.int .i64 (((j3 : Nat) : Int)))), .c (.val (.int .i64 (((j3 : Nat) : Int)))), .c (.val (.int .i64 (((zz.1 : Nat) : Int))))], [.row true (.a64 (a)), .row true (.a64 (b)), .row true (.a64 (zer64 5)), .row true (.a64 (zz.2.1)), .row true (.a64 (zz.2.2))]⟩) (fun j6 => (j6, lmMul_L6 a b X1 X2 j3 j6)) (5) (by kernel_rfl) ?_ ?_
    · intro j6 hj6
      try dsimp only
      have hX4 : (lmMul_L6 a b X1 X2 j3 j6).1.length = 5 := by rw [lmMul_L6_len0 a b X1 X2 j3 ha hb hX1 hX2 _]; try omega
      have hX5 : (lmMul_L6 a b X1 X2 j3 j6).2.length = 5 := by rw [lmMul_L6_len1 a b X1 X2 j3 ha hb hX1 hX2 _]; try omega
      rw [lmMul_L6.eq_2, lmMul_L6_S]
      generalize lmMul_L6 a b X1 X2 j3 j6 = Z6 at *
      obtain ⟨X4, X5⟩ := Z6
      try dsimp only at *
      refine S_ ?_
      refine c_region ?_
      refine s_val (v_lssN (b := 5) rfl rfl) rfl ?_
      refine s_nil ?_
      refine S_ ?_
      refine c_region ?_
      refine s_val (v_moveC rfl) rfl ?_
      refine s_val (v_assignC rfl) rfl ?_
      refine s_nil ?_
      refine S_ ?_
      refine c_region ?_
      refine s_val (v_moveC rfl) rfl ?_
      refine s_val (v_idxA1 rfl rfl Try.underlying54 sz_29 (by omega)) rfl ?_
      refine s_val (v_load64 rfl rfl row_29 LT_) rfl ?_
      refine s_val (v_assignC rfl) rfl ?_
      refine s_nil ?_
      refine S_ ?_
      refine c_region ?_
      refine s_val (v_moveC rfl) rfl ?_
      refine s_val (v_moveC rfl) rfl ?_
      refine s_val (v_addN rfl rfl (by omega)) rfl ?_
      refine s_val (v_geqN (b := 5) rfl rfl) rfl ?_
      refine s_nil ?_
      refine Q_ ?_
      refine c_join [2, 3, 4, 5, 6, 7, 8, 9, 22, 25] (fun (zz : BitVec 64) => ⟨122, keepT [2, 3, 4, 5, 6, 7, 8, 9, 22, 25] [.c (.ptr 0 0), .c (.ptr 1 0), .c (.ptr 2 0), .c (.ptr 3 0), .c (.ptr 4 0), .c (.val (.int .i64 (((j3 : Nat) : Int)))), .c (.val (.int .i64 (((j6 : Nat) : Int)))), .c (.val (U64 (zz))), .c (.val (.int .i64 (((j3 : Nat) : Int)))), .c (.val (.int .i64 (((j6 : Nat) : Int))))], [.row true (.a64 (a)), .row true (.a64 (b)), .row true (.a64 (zer64 5)), .row true (.a64 (X4)), .row true (.a64 (X5))]⟩) (if 5 ≤ j3 + j6 then (nth b j6) * 19#64 else nth b j6) rfl (fun hb => ?_) (fun hb => ?_) ?_
      · -- the test is True
        have hb_ := of_decide_eq_true hb
        refine S_ ?_
        refine c_region ?_
        refine s_val (v_moveC rfl) rfl ?_
        refine s_val (v_mul64 (b := 19#64) rfl rfl) rfl ?_
        refine s_val (v_assignC rfl) rfl ?_
        refine s_nil ?_
        refine S_ ?_
        refine ⟨((nth b j6) * 19#64), by kernel_rfl, ?_⟩
        rw [if_pos (of_decide_eq_true hb)]
      · -- the test is False
        have hb_ := of_decide_eq_false hb
        refine S_ ?_
        refine ⟨(nth b j6), by kernel_rfl, ?_⟩
        rw [if_neg (of_decide_eq_false hb)]
      generalize (if 5 ≤ j3 + j6 then (nth b j6) * 19#64 else nth b j6) = J7 at *
      refine S_ ?_
      refine c_region ?_
      refine s_val (v_moveC rfl) rfl ?_
      refine s_val (v_idxA1 rfl rfl Try.underlying54 sz_29 (by omega)) rfl ?_
      refine s_val (v_load64 rfl rfl row_29 LT_) rfl ?_
      refine s_val (v_moveC rfl) rfl ?_
      refine s_evN (e_callR (bs := []) (mul64_ev (nth a j3) J7) ok_77 (by kernel_rfl) (by kernel_rfl) rfl VAL_) APP_ rfl ?_
      refine s_val (v_moveT rfl) rfl ?_
      refine s_val (v_extract rfl rfl) rfl ?_
      refine s_val (v_extract rfl rfl) rfl ?_
      refine s_val (v_assignC rfl) rfl ?_
      refine s_val (v_assignC rfl) rfl ?_
      refine s_nil ?_
      refine S_ ?_
      refine c_region ?_
      refine s_val (v_moveC rfl) rfl ?_
      refine s_val (v_moveC rfl) rfl ?_
      refine s_val (v_addN rfl rfl (by omega)) rfl ?_
      refine s_val (v_remN (b := 5) rfl rfl (by omega) (by omega)) rfl ?_
      refine s_val (v_assignC rfl) rfl ?_
      refine s_nil ?_
      refine S_ ?_
      refine c_region ?_
      refine s_val (v_assignC rfl) rfl ?_
      refine s_nil ?_
      refine S_ ?_
      refine c_region ?_
      refine s_val (v_moveC rfl) rfl ?_
      refine s_val (v_moveC rfl) rfl ?_
      refine s_val (v_idxA1 rfl rfl Try.underlying53 sz_29 (by omega)) rfl ?_
      refine s_val (v_load64 rfl rfl row_29 LT_) rfl ?_
      refine s_val (v_moveC rfl) rfl ?_
      refine s_evN (e_add ext_71 rfl rfl rfl (rfl : _ = U64 (0#64)) (by decide)) APP_ rfl ?_
      refine s_val (v_moveT rfl) rfl ?_
      refine s_val (v_extract rfl rfl) rfl ?_
      refine s_val (v_extract rfl rfl) rfl ?_
      refine s_val (v_idxA1 rfl rfl Try.underlying53 sz_29 (by omega)) rfl ?_
      refine s_store64 rfl rfl rfl sz_29 LT_ SET_ ?_
      refine s_val (v_assignC rfl) rfl ?_
      refine s_nil ?_
      refine S_ ?_
      refine c_region ?_
      refine s_val (v_moveC rfl) rfl ?_
      refine s_val (v_idxA1 rfl rfl Try.underlying53 sz_29 (by omega)) rfl ?_
      refine s_val (v_load64 rfl rfl row_29 LT_) rfl ?_
      refine s_val (v_moveC rfl) rfl ?_
      refine s_val (v_moveC rfl) rfl ?_
      refine s_val (v_add64 rfl rfl) rfl ?_
      refine s_val (v_add64 rfl rfl) rfl ?_
      refine s_val (v_idxA1 rfl rfl Try.underlying53 sz_29 (by omega)) rfl ?_
      refine s_store64 rfl rfl rfl sz_29 LT_ SET_ ?_
      refine s_nil ?_
      refine S_ ?_
      refine c_region ?_
      refine s_val (v_addN (b := 1) rfl rfl (by omega)) rfl ?_
      refine s_val (v_moveC rfl) rfl ?_
      refine s_nil ?_
      exact ⟨(j6 + 1, _), by kernel_rfl, rfl⟩
    · try dsimp only
      have hY8 : (lmMul_L6 a b X1 X2 j3 5).1.length = 5 := by rw [lmMul_L6_len0 a b X1 X2 j3 ha hb hX1 hX2 _]; try omega
      have hY9 : (lmMul_L6 a b X1 X2 j3 5).2.length = 5 := by rw [lmMul_L6_len1 a b X1 X2 j3 ha hb hX1 hX2 _]; try omega
      generalize lmMul_L6 a b X1 X2 j3 5 = Z10 at *
      obtain ⟨Y8, Y9⟩ := Z10
      try dsimp only at *
      refine S_ ?_
      refine c_region ?_
      refine s_val (v_lssN (a := 5) (b := 5) rfl rfl) rfl ?_
      refine s_nil ?_
      refine S_ ?_
      refine c_region ?_
      refine s_val (v_addN (b := 1) rfl rfl (by omega)) rfl ?_
      refine s_val (v_moveC rfl) rfl ?_
      refine s_nil ?_
      exact ⟨(j3 + 1, _), by kernel_rfl, rfl⟩
  · try dsimp only
    have hY11 : (lmMul_L3 a b 5).1.length = 5 := by rw [lmMul_L3_len0 a b ha hb _]; try omega
    have hY12 : (lmMul_L3 a b 5).2.length = 5 := by rw [lmMul_L3_len1 a b ha hb _]; try omega
    generalize lmMul_L3 a b 5 = Z13 at *
    obtain ⟨Y11, Y12⟩ := Z13
    try dsimp only at *
    refine S_ ?_
    refine c_region ?_
    refine s_val (v_lssN (a := 5) (b := 5) rfl rfl) rfl ?_
    refine s_nil ?_
    refine S_ ?_
    refine c_region ?_
    refine s_memN (m_alloc al_54 LEN_) APP_ rfl ?_
    refine s_nil ?_
    refine S_ ?_
    refine c_region ?_
    refine s_val (v_assignC rfl) rfl ?_
    refine s_nil ?_
    refine S_ ?_
    refine c_region ?_
    refine s_val (v_moveC rfl) rfl ?_
    refine s_nil ?_
    refine S_ ?_
    refine c_loopC [4, 5, 6, 14, 15, 69] (fun (zz : Nat × BitVec 64 × List (BitVec 64)) => ⟨122, keepT [4, 5, 6, 14, 15, 69] [.c (.ptr 0 0), .c (.ptr 1 0), .c (.ptr 2 0), .c (.ptr 3 0), .c (.val (U64 (zz.2.1))), .c (.val (.int .i64 (((zz.1 : Nat) : Int))))], [.row true (.a64 (zer64 5)), .row true (.a64 (Y11)), .row true (.a64 (Y12)), .row true (.a64 (zz.2.2))]⟩) (fun j21 => (j21, lmMul_L21 Y11 Y12 j21)) (5) (by kernel_rfl) ?_ ?_
    · intro j21 hj21
      try dsimp only
      have hX15 : (lmMul_L21 Y11 Y12 j21).2.length = 5 := by rw [lmMul_L21_len1 Y11 Y12 hY11 hY12 _]; try omega
      rw [lmMul_L21.eq_2, lmMul_L21_S]
      generalize lmMul_L21 Y11 Y12 j21 = Z16 at *
      obtain ⟨X14, X15⟩ := Z16
      try dsimp only at *
      refine S_ ?_
      refine c_region ?_
      refine s_val (v_lssN (b := 5) rfl rfl) rfl ?_
      refine s_nil ?_
      refine S_ ?_
      refine c_region ?_
      refine s_val (v_moveC rfl) rfl ?_
      refine s_val (v_assignC rfl) rfl ?_
      refine s_nil ?_
      refine S_ ?_
      refine c_region ?_
      refine s_val (v_moveC rfl) rfl ?_
      refine s_val (v_idxA1 rfl rfl Try.underlying53 sz_29 (by omega)) rfl ?_
      refine s_val (v_load64 rfl rfl row_29 LT_) rfl ?_
      refine s_val (v_moveC rfl) rfl ?_
      refine s_evN (e_add ext_71 rfl rfl rfl (rfl : _ = U64 (0#64)) (by decide)) APP_ rfl ?_
      refine s_val (v_moveT rfl) rfl ?_
      refine s_val (v_extract rfl rfl) rfl ?_
      refine s_val (v_extract rfl rfl) rfl ?_
      refine s_val (v_assignC rfl) rfl ?_
      refine s_val (v_assignC rfl) rfl ?_
      refine s_nil ?_
      refine S_ ?_
      refine c_region ?_
      refine s_val (v_moveC rfl) rfl ?_
      refine s_val (v_moveC rfl) rfl ?_
      refine s_val (v_and64 (b := 2251799813685247#64) rfl rfl) rfl ?_
      refine s_val (v_idxA1 rfl rfl Try.underlying54 sz_29 (by omega)) rfl ?_
      refine s_store64 rfl rfl rfl sz_29 LT_ SET_ ?_
      refine s_nil ?_
      refine S_ ?_
      refine c_region ?_
      refine s_val (v_moveC rfl) rfl ?_
      refine s_val (v_idxA1 rfl rfl Try.underlying53 sz_29 (by omega)) rfl ?_
      refine s_val (v_load64 rfl rfl row_29 LT_) rfl ?_
      refine s_val (v_moveC rfl) rfl ?_
      refine s_val (v_add64 rfl rfl) rfl ?_
      refine s_val (v_shl64n (j := 13) rfl rfl) rfl ?_
      refine s_val (v_moveC rfl) rfl ?_
      refine s_val (v_shr64n (j := 51) rfl rfl) rfl ?_
      refine s_val (v_or64 rfl rfl) rfl ?_
      refine s_val (v_assignC rfl) rfl ?_
      refine s_nil ?_
      refine S_ ?_
      refine c_region ?_
      refine s_val (v_addN (b := 1) rfl rfl (by omega)) rfl ?_
      refine s_val (v_moveC rfl) rfl ?_
      refine s_nil ?_
      exact ⟨(j21 + 1, _), by kernel_rfl, rfl⟩
    · try dsimp only
      have hY18 : (lmMul_L21 Y11 Y12 5).2.length = 5 := by rw [lmMul_L21_len1 Y11 Y12 hY11 hY12 _]; try omega
      generalize lmMul_L21 Y11 Y12 5 = Z19 at *
      obtain ⟨Y17, Y18⟩ := Z19
      try dsimp only at *
      refine S_ ?_
      refine c_region ?_
      refine s_val (v_lssN (a := 5) (b := 5) rfl rfl) rfl ?_
      refine s_nil ?_
      refine S_ ?_
      refine c_region ?_
      refine s_val (v_moveC rfl) rfl ?_
      refine s_evN (e_callR (bs := []) (mul64_ev Y17 19#64) ok_77 (by kernel_rfl) (by kernel_rfl) rfl VAL_) APP_ rfl ?_
      refine s_val (v_moveT rfl) rfl ?_
      refine s_val (v_extract rfl rfl) rfl ?_
      refine s_val (v_extract rfl rfl) rfl ?_
      refine s_val (v_assignC rfl) rfl ?_
      refine s_val (v_assignC rfl) rfl ?_
      refine s_nil ?_
      refine S_ ?_
      refine c_region ?_
      refine s_val (v_moveC rfl) rfl ?_
      refine s_val (v_idxA1 (j := 0) rfl rfl Try.underlying54 sz_29 (by omega)) rfl ?_
      refine s_val (v_load64 rfl rfl row_29 LT_) rfl ?_
      refine s_evN (e_add ext_71 rfl rfl rfl (rfl : _ = U64 (0#64)) (by decide)) APP_ rfl ?_
      refine s_val (v_moveT rfl) rfl ?_
      refine s_val (v_extract rfl rfl) rfl ?_
      refine s_val (v_extract rfl rfl) rfl ?_
      refine s_val (v_assignC rfl) rfl ?_
      refine s_val (v_assignC rfl) rfl ?_
      refine s_nil ?_
      refine S_ ?_
      refine c_region ?_
      refine s_val (v_moveC rfl) rfl ?_
      refine s_val (v_and64 (b := 2251799813685247#64) rfl rfl) rfl ?_
      refine s_val (v_idxA1 (j := 0) rfl rfl Try.underlying54 sz_29 (by omega)) rfl ?_
      refine s_store64 rfl rfl rfl sz_29 LT_ SET_ ?_
      refine s_nil ?_
      refine S_ ?_
      refine c_region ?_
      refine s_val (v_idxA1 (j := 1) rfl rfl Try.underlying54 sz_29 (by omega)) rfl ?_
      refine s_val (v_load64 rfl rfl row_29 LT_) rfl ?_
      refine s_val (v_moveC rfl) rfl ?_
      refine s_val (v_moveC rfl) rfl ?_
      refine s_val (v_add64 rfl rfl) rfl ?_
      refine s_val (v_shl64n (j := 13) rfl rfl) rfl ?_
      refine s_val (v_moveC rfl) rfl ?_
      refine s_val (v_shr64n (j := 51) rfl rfl) rfl ?_
      refine s_val (v_or64 rfl rfl) rfl ?_
      refine s_val (v_add64 rfl rfl) rfl ?_
      refine s_val (v_idxA1 (j := 1) rfl rfl Try.underlying54 sz_29 (by omega)) rfl ?_
      refine s_store64 rfl rfl rfl sz_29 LT_ SET_ ?_
      refine s_nil ?_
      have hQ20 : (lmCar (put (put Y18 0 (((mul641 Y17 19#64) + (nth Y18 0) + 0#64) &&& 2251799813685247#64)) 1 ((nth (put Y18 0 (((mul641 Y17 19#64) + (nth Y18 0) + 0#64) &&& 2251799813685247#64)) 1) + ((((mul640 Y17 19#64) + (addC (mul641 Y17 19#64) (nth Y18 0) 0#64)) <<< 13) ||| (((mul641 Y17 19#64) + (nth Y18 0) + 0#64) >>> 51))))).length = 5 := LQ_
      refine S_ ?_
      refine c_region ?_
      refine s_val (v_loadR rfl rfl row_54 sz_54 EQ_ (by decide)) rfl ?_
      refine s_evN (e_callR (bs := []) (lmCar_ev (put (put Y18 0 (((mul641 Y17 19#64) + (nth Y18 0) + 0#64) &&& 2251799813685247#64)) 1 ((nth (put Y18 0 (((mul641 Y17 19#64) + (nth Y18 0) + 0#64) &&& 2251799813685247#64)) 1) + ((((mul640 Y17 19#64) + (addC (mul641 Y17 19#64) (nth Y18 0) 0#64)) <<< 13) ||| (((mul641 Y17 19#64) + (nth Y18 0) + 0#64) >>> 51)))) HYP_) ok_76 (by kernel_rfl) (by kernel_rfl) rfl VAL_) APP_ rfl ?_
      refine s_storeR rfl rfl rfl rfl sz_54 EQ_ EQ_ SET_ ?_
      refine s_nil ?_
      refine S_ ?_
      rw [hP.out]
      exact k_1 (r_row rfl rfl row_54 sz_54 EQ_ (by decide)) (by first | kernel_rfl | rfl)

@[simp] theorem lmMul_len (a : List (BitVec 64)) (b : List (BitVec 64)) (ha : a.length = 5) (hb : b.length = 5) : (lmMul a b).length = 5 := by
  unfold lmMul
  first | (simp (maxDischargeDepth := 9) [lmMul_L6_len0, lmMul_L6_len1, lmMul_L3_len0, lmMul_L3_len1, lmMul_L21_len1, *]; done) | (simp (maxDischargeDepth := 9) [lmMul_L6_len0, lmMul_L6_len1, lmMul_L3_len0, lmMul_L3_len1, lmMul_L21_len1, *]; omega) | (split <;> (simp (maxDischargeDepth := 9) [lmMul_L6_len0, lmMul_L6_len1, lmMul_L3_len0, lmMul_L3_len1, lmMul_L21_len1, *]; done))

attribute [irreducible] lmMul
end Go.Proofs.Ytcekjmejppemeaa
/- limb's product. No program in sight. -/
namespace Go.Proofs.Ytcekjmejppemeaa
open Go.RowKit
theorem prod5 (a0 a1 a2 a3 a4 b0 b1 b2 b3 b4 : Nat) : (a0 + a1 * 2251799813685248 + a2 * 5070602400912917605986812821504 + a3 * 11417981541647679048466287755595961091061972992 + a4 * 25711008708143844408671393477458601640355247900524685364822016) * (b0 + b1 * 2251799813685248 + b2 * 5070602400912917605986812821504 + b3 * 11417981541647679048466287755595961091061972992 + b4 * 25711008708143844408671393477458601640355247900524685364822016) = (a0 * b0 + a1 * (19 * b4) + a2 * (19 * b3) + a3 * (19 * b2) + a4 * (19 * b1)) + (a0 * b1 + a1 * b0 + a2 * (19 * b4) + a3 * (19 * b3) + a4 * (19 * b2)) * 2251799813685248 + (a0 * b2 + a1 * b1 + a2 * b0 + a3 * (19 * b4) + a4 * (19 * b3)) * 5070602400912917605986812821504 + (a0 * b3 + a1 * b2 + a2 * b1 + a3 * b0 + a4 * (19 * b4)) * 11417981541647679048466287755595961091061972992 + (a0 * b4 + a1 * b3 + a2 * b2 + a3 * b1 + a4 * b0) * 25711008708143844408671393477458601640355247900524685364822016 + 57896044618658097711785492504343953926634992332820282019728792003956564819949 * (a1 * b4 * 1 + a2 * b3 * 1 + a2 * b4 * 2251799813685248 + a3 * b2 * 1 + a3 * b3 * 2251799813685248 + a3 * b4 * 5070602400912917605986812821504 + a4 * b1 * 1 + a4 * b2 * 2251799813685248 + a4 * b3 * 5070602400912917605986812821504 + a4 * b4 * 11417981541647679048466287755595961091061972992) := by grind
theorem low32 (x : BitVec 64) : (x &&& 4294967295#64).toNat = x.toNat % 4294967296 := by
  rw [BitVec.toNat_and]
  exact Nat.and_two_pow_sub_one_eq_mod x.toNat 32
theorem mul_nat {x y : BitVec 64} (h : x.toNat * y.toNat < 18446744073709551616) : (x * y).toNat = x.toNat * y.toNat := by
  rw [BitVec.toNat_mul, Nat.mod_eq_of_lt h]
theorem mul641_nat (x y : BitVec 64) : (mul641 x y).toNat = x.toNat * y.toNat % 18446744073709551616 := by
  unfold mul641; rw [BitVec.toNat_mul]
theorem mul640_nat (x y : BitVec 64) : (mul640 x y).toNat = x.toNat * y.toNat / 18446744073709551616 := by
  obtain ⟨g1, g2, g3, g4⟩ := Go.Lib.mul64_hi x.toNat y.toNat x.isLt y.isLt
  have hx := x.isLt
  have hy := y.isLt
  have hxy : x.toNat * y.toNat / 18446744073709551616 < 18446744073709551616 := by
    rw [Nat.div_lt_iff_lt_mul (by decide)]
    exact Nat.mul_lt_mul'' hx hy
  have x1 := shr_nat x 32
  have y1 := shr_nat y 32
  simp only [Nat.reducePow] at x1 y1
  have x0 := low32 x
  have y0 := low32 y
  have a1 := Go.Lib.half_mul_le (a := x.toNat / 4294967296) (b := y.toNat / 4294967296) (by omega) (by omega)
  have a2 := Go.Lib.half_mul_le (a := x.toNat / 4294967296) (b := y.toNat % 4294967296) (by omega) (by omega)
  have a3 := Go.Lib.half_mul_le (a := x.toNat % 4294967296) (b := y.toNat / 4294967296) (by omega) (by omega)
  have p00 := mul_nat (x := x &&& 4294967295#64) (y := y &&& 4294967295#64) (by rw [x0, y0]; exact g1)
  have p10 := mul_nat (x := x >>> 32) (y := y &&& 4294967295#64) (by rw [x1, y0]; omega)
  have p01 := mul_nat (x := x &&& 4294967295#64) (y := y >>> 32) (by rw [x0, y1]; omega)
  have p11 := mul_nat (x := x >>> 32) (y := y >>> 32) (by rw [x1, y1]; omega)
  rw [x0, y0] at p00
  rw [x1, y0] at p10
  rw [x0, y1] at p01
  rw [x1, y1] at p11
  have s00 := shr_nat ((x &&& 4294967295#64) * (y &&& 4294967295#64)) 32
  simp only [Nat.reducePow] at s00
  rw [p00] at s00
  have t := add_nat (x := (x >>> 32) * (y &&& 4294967295#64)) (y := ((x &&& 4294967295#64) * (y &&& 4294967295#64)) >>> 32) (by rw [p10, s00]; exact g2)
  rw [p10, s00] at t
  unfold mul640
  generalize (x >>> 32) * (y &&& 4294967295#64) + ((x &&& 4294967295#64) * (y &&& 4294967295#64)) >>> 32 = T at *
  have tl := low32 T
  have ts := shr_nat T 32
  simp only [Nat.reducePow] at ts
  rw [t] at tl ts
  have u := add_nat (x := T &&& 4294967295#64) (y := (x &&& 4294967295#64) * (y >>> 32)) (by rw [tl, p01]; exact g3)
  rw [tl, p01] at u
  generalize (T &&& 4294967295#64) + (x &&& 4294967295#64) * (y >>> 32) = U at *
  have us := shr_nat U 32
  simp only [Nat.reducePow] at us
  rw [u] at us
  have v := add_nat (x := (x >>> 32) * (y >>> 32)) (y := T >>> 32) (by rw [p11, ts]; omega)
  rw [p11, ts] at v
  have w := add_nat (x := (x >>> 32) * (y >>> 32) + T >>> 32) (y := U >>> 32) (by rw [v, us]; omega)
  rw [w, v, us]
  exact g4
theorem addC_nat {x y : BitVec 64} : (addC x y 0#64).toNat = (x.toNat + y.toNat) / 18446744073709551616 := by
  have := x.isLt
  have := y.isLt
  unfold addC
  rw [BitVec.toNat_ofNat, show (0#64 : BitVec 64).toNat = 0 from rfl, Nat.add_zero]
  omega
def acc (hi lo : List (BitVec 64)) (t : Nat) : Nat := (nth hi t).toNat * 18446744073709551616 + (nth lo t).toNat
theorem mul_step {hi lo : List (BitVec 64)} (hh : hi.length = 5) (hl : lo.length = 5) (x y : BitVec 64) {t : Nat} (ht : t < 5) (hb : acc hi lo t + x.toNat * y.toNat < 340282366920938463463374607431768211456) (s : Nat) :
    acc (put hi t (nth hi t + (mul640 x y + addC (nth lo t) (mul641 x y) 0#64))) (put lo t (nth lo t + mul641 x y + 0#64)) s = acc hi lo s + (if t = s then x.toNat * y.toNat else 0) := by
  unfold acc at *
  rw [nth_put _ _ _ _ (by omega), nth_put _ _ _ _ (by omega)]
  by_cases e : t = s
  · subst e
    rw [if_pos rfl, if_pos rfl, if_pos rfl, BitVec.add_zero]
    have e0 := mul640_nat x y
    have e1 := mul641_nat x y
    have e2 := addC_nat (x := nth lo t) (y := mul641 x y)
    generalize x.toNat * y.toNat = q at *
    have b0 := (nth lo t).isLt
    have b1 := (mul641 x y).isLt
    have f1 := add_nat (x := mul640 x y) (y := addC (nth lo t) (mul641 x y) 0#64) (by rw [e0, e2]; omega)
    have f2 := add_nat (x := nth hi t) (y := mul640 x y + addC (nth lo t) (mul641 x y) 0#64) (by rw [f1, e0, e2]; omega)
    rw [f2, f1, e0, e2, BitVec.toNat_add]
    omega
  · rw [if_neg e, if_neg e, if_neg e, Nat.add_zero]
/-- The products that come to a place. -/
def mulP (a b : List (BitVec 64)) (i k : Nat) : Nat := (nth a i).toNat * (if 5 ≤ i + k then 19 * (nth b k).toNat else (nth b k).toNat)
def sI (a b : List (BitVec 64)) (i t : Nat) : Nat → Nat
  | 0 => 0
  | k + 1 => sI a b i t k + (if (i + k) % 5 = t then mulP a b i k else 0)
def sO (a b : List (BitVec 64)) (t : Nat) : Nat → Nat
  | 0 => 0
  | i + 1 => sO a b t i + sI a b i t 5
theorem fine_lt {n : Nat} {a : List (BitVec 64)} (h : Low n a) (i : Nat) (hi : i < 5) : (nth a i).toNat < n := by
  obtain ⟨_, h0, h1, h2, h3, h4⟩ := h
  rcases (by omega : i = 0 ∨ i = 1 ∨ i = 2 ∨ i = 3 ∨ i = 4) with e | e | e | e | e <;> subst e <;> assumption
theorem mulP_lt {a b : List (BitVec 64)} (ha : Fine a) (hb : Fine b) (i k : Nat) (hi : i < 5) (hk : k < 5) : mulP a b i k ≤ 649037107316853453566312041152512 := by
  have h1 := fine_lt ha i hi
  have h2 := fine_lt hb k hk
  unfold mulP
  refine Nat.le_trans (Nat.mul_le_mul (Nat.le_of_lt h1) (show _ ≤ 144115188075855872 from ?_)) (by decide)
  split <;> omega
theorem mulx {b : List (BitVec 64)} (hb : Fine b) (i k : Nat) (hk : k < 5) : (if 5 ≤ i + k then (nth b k) * 19#64 else nth b k).toNat = (if 5 ≤ i + k then 19 * (nth b k).toNat else (nth b k).toNat) := by
  have h2 := fine_lt hb k hk
  split
  · rw [mul_nat (by show (nth b k).toNat * 19 < _; omega)]
    show (nth b k).toNat * 19 = _
    omega
  · rfl
theorem sI_le {a b : List (BitVec 64)} (ha : Fine a) (hb : Fine b) (i t : Nat) (hi : i < 5) : ∀ k, k ≤ 5 → sI a b i t k ≤ k * 649037107316853453566312041152512 := by
  intro k
  induction k with
  | zero => intro _; exact Nat.zero_le _
  | succ k ih =>
    intro hk
    have h1 := ih (by omega)
    have h2 := mulP_lt ha hb i k hi (by omega)
    rw [sI, Nat.succ_mul]
    refine Nat.add_le_add h1 ?_
    by_cases e : (i + k) % 5 = t
    · rw [if_pos e]; exact h2
    · rw [if_neg e]; exact Nat.zero_le _
theorem inner_acc {a b X1 X2 : List (BitVec 64)} (ha : Fine a) (hb : Fine b) (h1 : X1.length = 5) (h2 : X2.length = 5) (i : Nat) (hi : i < 5) (hX : ∀ t, acc X1 X2 t ≤ i * 3245185536584267267831560205762560) : ∀ k, k ≤ 5 →
    ∀ t, acc (lmMul_L6 a b X1 X2 i k).1 (lmMul_L6 a b X1 X2 i k).2 t = acc X1 X2 t + sI a b i t k := by
  intro k
  induction k with
  | zero => intro _ t; show acc X1 X2 t = acc X1 X2 t + 0; rw [Nat.add_zero]
  | succ k ih =>
    intro hk t
    have hl := lmMul_L6_lens a b X1 X2 i ha.1 hb.1 h1 h2 k
    have hx := mulx hb i k (by omega)
    have hP := mulP_lt ha hb i k hi (by omega)
    have hS := sI_le ha hb i ((i + k) % 5) hi k (by omega)
    have hA := hX ((i + k) % 5)
    have he := ih (by omega) ((i + k) % 5)
    rw [lmMul_L6, lmMul_L6_S, sI, ← Nat.add_assoc, ← ih (by omega) t]
    unfold mulP at hP
    rw [← hx] at hP
    have := mul_step hl.1 hl.2 (nth a i) (if 5 ≤ i + k then (nth b k) * 19#64 else nth b k) (t := (i + k) % 5) (by omega) (by rw [he]; omega) t
    rw [this]
    unfold mulP
    rw [hx]
theorem outer_acc {a b : List (BitVec 64)} (ha : Fine a) (hb : Fine b) : ∀ i, i ≤ 5 → (∀ t, acc (lmMul_L3 a b i).1 (lmMul_L3 a b i).2 t = sO a b t i) ∧ ∀ t, sO a b t i ≤ i * 3245185536584267267831560205762560 := by
  intro i
  induction i with
  | zero =>
    intro _
    refine ⟨fun t => ?_, fun t => Nat.zero_le _⟩
    show (nth (zer64 5) t).toNat * 18446744073709551616 + (nth (zer64 5) t).toNat = 0
    have : nth (zer64 5) t = 0#64 := by
      unfold nth zer64
      rw [List.getD_eq_getElem?_getD, List.getElem?_replicate]
      split <;> rfl
    rw [this]; rfl
  | succ i ih =>
    intro hi
    obtain ⟨h1, h2⟩ := ih (by omega)
    have hl := lmMul_L3_lens a b ha.1 hb.1 i
    have hin := inner_acc ha hb hl.1 hl.2 i (by omega) (fun t => by rw [h1]; exact h2 t) 5 (Nat.le_refl _)
    refine ⟨fun t => ?_, fun t => ?_⟩
    · rw [lmMul_L3, lmMul_L3_S, sO, ← h1 t]; exact hin t
    · rw [sO]
      have := sI_le ha hb i t (by omega) 5 (Nat.le_refl _)
      have := h2 t
      omega
/-- One word of the carrying on. -/
theorem carry_step {hi lo c : BitVec 64} (h : hi.toNat * 18446744073709551616 + lo.toNat + c.toNat < 41538374868278621028243970633760768) :
    ((lo + c + 0#64) &&& 2251799813685247#64).toNat = (hi.toNat * 18446744073709551616 + lo.toNat + c.toNat) % 2251799813685248 ∧
    (((hi + addC lo c 0#64) <<< 13) ||| ((lo + c + 0#64) >>> 51)).toNat = (hi.toNat * 18446744073709551616 + lo.toNat + c.toNat) / 2251799813685248 := by
  have b0 := lo.isLt
  have b1 := c.isLt
  have e := addC_nat (x := lo) (y := c)
  have f := add_nat (x := hi) (y := addC lo c 0#64) (by rw [e]; omega)
  rw [e] at f
  have g : (lo + c + 0#64).toNat = (lo.toNat + c.toNat) % 18446744073709551616 := by rw [BitVec.add_zero, BitVec.toNat_add]
  generalize lo + c + 0#64 = l at *
  generalize hi + addC lo c 0#64 = q at *
  have s := shr51 l
  refine ⟨by rw [mask_toNat, g]; omega, ?_⟩
  have o := or_low (x := l >>> 51) (y := q) 13 (by rw [s]; show _ < 8192; omega)
  simp only [Nat.reducePow] at o
  rw [BitVec.or_comm, o, s, f, g]
  omega
def chain5 (h0 h1 h2 h3 h4 l0 l1 l2 l3 l4 : BitVec 64) : BitVec 64 × List (BitVec 64) :=
  let c0 := 0#64
  let c1 := ((h0 + addC l0 c0 0#64) <<< 13) ||| ((l0 + c0 + 0#64) >>> 51)
  let c2 := ((h1 + addC l1 c1 0#64) <<< 13) ||| ((l1 + c1 + 0#64) >>> 51)
  let c3 := ((h2 + addC l2 c2 0#64) <<< 13) ||| ((l2 + c2 + 0#64) >>> 51)
  let c4 := ((h3 + addC l3 c3 0#64) <<< 13) ||| ((l3 + c3 + 0#64) >>> 51)
  let c5 := ((h4 + addC l4 c4 0#64) <<< 13) ||| ((l4 + c4 + 0#64) >>> 51)
  (c5, [(l0 + c0 + 0#64) &&& 2251799813685247#64, (l1 + c1 + 0#64) &&& 2251799813685247#64, (l2 + c2 + 0#64) &&& 2251799813685247#64, (l3 + c3 + 0#64) &&& 2251799813685247#64, (l4 + c4 + 0#64) &&& 2251799813685247#64])
theorem chain_eq (h0 h1 h2 h3 h4 l0 l1 l2 l3 l4 : BitVec 64) : lmMul_L21 [h0, h1, h2, h3, h4] [l0, l1, l2, l3, l4] 5 = chain5 h0 h1 h2 h3 h4 l0 l1 l2 l3 l4 := by kernel_rfl
theorem chain_spec (h0 h1 h2 h3 h4 l0 l1 l2 l3 l4 : BitVec 64) (b0 : h0.toNat * 18446744073709551616 + l0.toNat ≤ 16225927682921336339157801028812800) (b1 : h1.toNat * 18446744073709551616 + l1.toNat ≤ 16225927682921336339157801028812800) (b2 : h2.toNat * 18446744073709551616 + l2.toNat ≤ 16225927682921336339157801028812800) (b3 : h3.toNat * 18446744073709551616 + l3.toNat ≤ 16225927682921336339157801028812800) (b4 : h4.toNat * 18446744073709551616 + l4.toNat ≤ 16225927682921336339157801028812800) :
    ∃ c r0 r1 r2 r3 r4 : BitVec 64, chain5 h0 h1 h2 h3 h4 l0 l1 l2 l3 l4 = (c, [r0, r1, r2, r3, r4]) ∧ r0.toNat < 2251799813685248 ∧ r1.toNat < 2251799813685248 ∧ r2.toNat < 2251799813685248 ∧ r3.toNat < 2251799813685248 ∧ r4.toNat < 2251799813685248 ∧
      (h0.toNat * 18446744073709551616 + l0.toNat) + (h1.toNat * 18446744073709551616 + l1.toNat) * 2251799813685248 + (h2.toNat * 18446744073709551616 + l2.toNat) * 5070602400912917605986812821504 + (h3.toNat * 18446744073709551616 + l3.toNat) * 11417981541647679048466287755595961091061972992 + (h4.toNat * 18446744073709551616 + l4.toNat) * 25711008708143844408671393477458601640355247900524685364822016 =
      r0.toNat + r1.toNat * 2251799813685248 + r2.toNat * 5070602400912917605986812821504 + r3.toNat * 11417981541647679048466287755595961091061972992 + r4.toNat * 25711008708143844408671393477458601640355247900524685364822016 + c.toNat * 57896044618658097711785492504343953926634992332820282019728792003956564819968 := by
  refine ⟨_, _, _, _, _, _, rfl, ?_⟩
  have z : (0#64 : BitVec 64).toNat = 0 := rfl
  obtain ⟨m0, k0⟩ := carry_step (hi := h0) (lo := l0) (c := 0#64) (by rw [z]; omega)
  generalize ((h0 + addC l0 0#64 0#64) <<< 13) ||| ((l0 + 0#64 + 0#64) >>> 51) = c1 at *
  have := c1.isLt
  obtain ⟨m1, k1⟩ := carry_step (hi := h1) (lo := l1) (c := c1) (by omega)
  generalize ((h1 + addC l1 c1 0#64) <<< 13) ||| ((l1 + c1 + 0#64) >>> 51) = c2 at *
  have := c2.isLt
  obtain ⟨m2, k2⟩ := carry_step (hi := h2) (lo := l2) (c := c2) (by omega)
  generalize ((h2 + addC l2 c2 0#64) <<< 13) ||| ((l2 + c2 + 0#64) >>> 51) = c3 at *
  have := c3.isLt
  obtain ⟨m3, k3⟩ := carry_step (hi := h3) (lo := l3) (c := c3) (by omega)
  generalize ((h3 + addC l3 c3 0#64) <<< 13) ||| ((l3 + c3 + 0#64) >>> 51) = c4 at *
  have := c4.isLt
  obtain ⟨m4, k4⟩ := carry_step (hi := h4) (lo := l4) (c := c4) (by omega)
  rw [m0, m1, m2, m3, m4, k4, z]
  omega
theorem mul_fine {a b : List (BitVec 64)} (ha : Fine a) (hb : Fine b) : Fine (lmMul a b) ∧ LF (lmMul a b) = LF a * LF b := by
  obtain ⟨hac, hle⟩ := outer_acc ha hb 5 (Nat.le_refl _)
  have hl := lmMul_L3_lens a b ha.1 hb.1 5
  unfold lmMul
  generalize lmMul_L3 a b 5 = Y at *
  obtain ⟨hi, lo⟩ := Y
  dsimp only at hac hl ⊢
  obtain ⟨h0, h1, h2, h3, h4, rfl⟩ := five hl.1
  obtain ⟨l0, l1, l2, l3, l4, rfl⟩ := five hl.2
  have a0 := hac 0
  have a1 := hac 1
  have a2 := hac 2
  have a3 := hac 3
  have a4 := hac 4
  change h0.toNat * 18446744073709551616 + l0.toNat = _ at a0
  change h1.toNat * 18446744073709551616 + l1.toNat = _ at a1
  change h2.toNat * 18446744073709551616 + l2.toNat = _ at a2
  change h3.toNat * 18446744073709551616 + l3.toNat = _ at a3
  change h4.toNat * 18446744073709551616 + l4.toNat = _ at a4
  have d0 := hle 0
  have d1 := hle 1
  have d2 := hle 2
  have d3 := hle 3
  have d4 := hle 4
  rw [chain_eq]
  obtain ⟨c, r0, r1, r2, r3, r4, he, g0, g1, g2, g3, g4, g5⟩ := chain_spec h0 h1 h2 h3 h4 l0 l1 l2 l3 l4 (by omega) (by omega) (by omega) (by omega) (by omega)
  rw [he]
  dsimp only
  have p0 := mul640_nat c 19#64
  have p1 := mul641_nat c 19#64
  rw [show (19#64 : BitVec 64).toNat = 19 from rfl] at p0 p1
  have hc := c.isLt
  obtain ⟨q0, q1⟩ := carry_step (hi := mul640 c 19#64) (lo := mul641 c 19#64) (c := r0) (by omega)
  show Fine (lmCar [(mul641 c 19#64 + r0 + 0#64) &&& 2251799813685247#64, r1 + (((mul640 c 19#64 + addC (mul641 c 19#64) r0 0#64) <<< 13) ||| ((mul641 c 19#64 + r0 + 0#64) >>> 51)), r2, r3, r4]) ∧ LF (lmCar [(mul641 c 19#64 + r0 + 0#64) &&& 2251799813685247#64, r1 + (((mul640 c 19#64 + addC (mul641 c 19#64) r0 0#64) <<< 13) ||| ((mul641 c 19#64 + r0 + 0#64) >>> 51)), r2, r3, r4]) = _
  generalize ((mul640 c 19#64 + addC (mul641 c 19#64) r0 0#64) <<< 13) ||| ((mul641 c 19#64 + r0 + 0#64) >>> 51) = u at *
  generalize (mul641 c 19#64 + r0 + 0#64) &&& 2251799813685247#64 = v at *
  have hu := add_nat (x := r1) (y := u) (by omega)
  generalize r1 + u = w at *
  obtain ⟨f1, f2⟩ := car_fine (a := [v, w, r2, r3, r4]) ⟨rfl, by show v.toNat < _; omega, by show w.toNat < _; omega, by show r2.toNat < _; omega, by show r3.toNat < _; omega, by show r4.toNat < _; omega⟩
  refine ⟨f1, f2.trans ?_⟩
  unfold LF
  rw [← zf_mul]
  have e1 : lV a * lV b = (h0.toNat * 18446744073709551616 + l0.toNat) + (h1.toNat * 18446744073709551616 + l1.toNat) * 2251799813685248 + (h2.toNat * 18446744073709551616 + l2.toNat) * 5070602400912917605986812821504 + (h3.toNat * 18446744073709551616 + l3.toNat) * 11417981541647679048466287755595961091061972992 + (h4.toNat * 18446744073709551616 + l4.toNat) * 25711008708143844408671393477458601640355247900524685364822016 + 57896044618658097711785492504343953926634992332820282019728792003956564819949 * ((nth a 1).toNat * (nth b 4).toNat * 1 + (nth a 2).toNat * (nth b 3).toNat * 1 + (nth a 2).toNat * (nth b 4).toNat * 2251799813685248 + (nth a 3).toNat * (nth b 2).toNat * 1 + (nth a 3).toNat * (nth b 3).toNat * 2251799813685248 + (nth a 3).toNat * (nth b 4).toNat * 5070602400912917605986812821504 + (nth a 4).toNat * (nth b 1).toNat * 1 + (nth a 4).toNat * (nth b 2).toNat * 2251799813685248 + (nth a 4).toNat * (nth b 3).toNat * 5070602400912917605986812821504 + (nth a 4).toNat * (nth b 4).toNat * 11417981541647679048466287755595961091061972992) := by
    rw [a0, a1, a2, a3, a4]
    unfold lV
    rw [prod5]
    simp only [sO, sI, mulP, Nat.reduceAdd, Nat.reduceMod, Nat.reduceLeDiff, Nat.zero_add, Nat.add_zero, if_true, if_false, Nat.reduceEqDiff, reduceIte]
  have e2 : zf (lV a * lV b) = zf (r0.toNat + r1.toNat * 2251799813685248 + r2.toNat * 5070602400912917605986812821504 + r3.toNat * 11417981541647679048466287755595961091061972992 + r4.toNat * 25711008708143844408671393477458601640355247900524685364822016 + c.toNat * 57896044618658097711785492504343953926634992332820282019728792003956564819968) := by
    rw [zf_eq, e1, Nat.add_mul_mod_self_left, g5]
  rw [e2, zf_cut rfl]
  congr 1
  show v.toNat + w.toNat * _ + r2.toNat * _ + r3.toNat * _ + r4.toNat * _ = _
  omega
end Go.Proofs.Ytcekjmejppemeaa
/- limb.Pow (Drawn up by a program.) -/
namespace Go.Proofs.Ytcekjmejppemeaa
open Go.RowKit
def lmPow_L3_S (a : List (BitVec 64)) (e : List (BitVec 8)) (X2 : List (BitVec 64)) (j3 : Nat) : List (BitVec 64) := (if ((((nth e ((255 - j3) / 8)) >>> ((255 - j3) % 8)) &&& 1#8) == 1#8) = true then lmMul (lmMul X2 X2) a else lmMul X2 X2)
def lmPow_L3 (a : List (BitVec 64)) (e : List (BitVec 8)) : Nat → List (BitVec 64)
  | 0 => lmSmall 1#64
  | j3 + 1 => lmPow_L3_S a e (lmPow_L3 a e j3) j3
theorem lmPow_L3_len (a : List (BitVec 64)) (e : List (BitVec 8)) (ha : a.length = 5) (he : e.length = 32) (j3 : Nat) : (lmPow_L3 a e j3).length = 5 := by
  induction j3 with
  | zero => first | (simp [lmPow_L3, *]; done) | (simp [lmPow_L3, *]; omega)
  | succ j3 ih => rw [lmPow_L3.eq_2, lmPow_L3_S]; first | (simp [ih]; done) | (simp [ih]; omega) | (simp [*]; done) | (simp [*]; omega) | (split <;> first | (simp [ih]; done) | (simp [ih]; omega) | (simp [*]; done))
def lmPow (a : List (BitVec 64)) (e : List (BitVec 8)) : List (BitVec 64) := (lmPow_L3 a e 256)
set_option maxRecDepth 100000 in
set_option maxHeartbeats 2000000 in
theorem lmPow_ev (a : List (BitVec 64)) (e : List (BitVec 8)) (ha : a.length = 5) (he : e.length = 32) : Ev Try.prog (.call 78 [.agg (.a64 (a)), .agg (.a8 (e))] []) (.val (.agg (.a64 (lmPow a e))) []) := by
  have hP : Hid (lmPow a e = (lmPow_L3 a e 256)) := ⟨rfl⟩
  refine c_call Try.func78 rfl Try.ntmps78 rfl LEN_ ?_
  refine S_ ?_
  refine c_region ?_
  refine s_memN (m_box BX_ LEN_) APP_ rfl ?_
  refine s_memN (m_box BX_ LEN_) APP_ rfl ?_
  refine s_memN (m_alloc al_54 LEN_) APP_ rfl ?_
  refine s_nil ?_
  have hQ1 : (lmSmall 1#64).length = 5 := LQ_
  refine S_ ?_
  refine c_region ?_
  refine s_evN (e_callR (bs := []) (lmSmall_ev 1#64) ok_49 (by kernel_rfl) (by kernel_rfl) rfl VAL_) APP_ rfl ?_
  refine s_memN (m_alloc al_54 LEN_) APP_ rfl ?_
  refine s_storeR rfl rfl rfl rfl sz_54 EQ_ EQ_ SET_ ?_
  refine s_nil ?_
  refine S_ ?_
  refine c_region ?_
  refine s_val (v_assignC rfl) rfl ?_
  refine s_nil ?_
  refine S_ ?_
  refine c_loopC [2, 3, 4, 5, 6] (fun (zz : Nat × List (BitVec 64)) => ⟨28, keepT [2, 3, 4, 5, 6] [.c (.ptr 0 0), .c (.ptr 1 0), .c (.ptr 2 0), .c (.ptr 3 0), .c (.val (.int .i64 (((255 : Nat) : Int) - ((zz.1 : Nat) : Int))))], [.row true (.a64 (a)), .row true (.a8 (e)), .row true (.a64 (zer64 5)), .row true (.a64 (zz.2))]⟩) (fun j3 => (j3, lmPow_L3 a e j3)) (256) (by kernel_rfl) ?_ ?_
  · intro j3 hj3
    try dsimp only
    have hX2 : (lmPow_L3 a e j3).length = 5 := by rw [lmPow_L3_len a e ha he _]; try omega
    rw [lmPow_L3.eq_2, lmPow_L3_S]
    generalize lmPow_L3 a e j3 = X2 at *
    rw [show ((255 : Nat) : Int) - ((j3 : Nat) : Int) = ((255 - j3 : Nat) : Int) from by omega]
    refine S_ ?_
    refine c_region ?_
    refine s_val (v_moveC rfl) rfl ?_
    refine s_val (v_geqN (b := 0) rfl rfl) rfl ?_
    refine s_nil ?_
    have hQ3 : (lmMul X2 X2).length = 5 := LQ_
    refine S_ ?_
    refine c_region ?_
    refine s_val (v_loadR rfl rfl row_54 sz_54 EQ_ (by decide)) rfl ?_
    refine s_val (v_loadR rfl rfl row_54 sz_54 EQ_ (by decide)) rfl ?_
    refine s_evN (e_callR (bs := []) (lmMul_ev X2 X2 HYP_ HYP_) ok_43 (by kernel_rfl) (by kernel_rfl) rfl VAL_) APP_ rfl ?_
    refine s_storeR rfl rfl rfl rfl sz_54 EQ_ EQ_ SET_ ?_
    refine s_nil ?_
    refine S_ ?_
    refine c_region ?_
    refine s_val (v_moveC rfl) rfl ?_
    refine s_val (v_quoN (b := 8) rfl rfl (by omega) (by omega)) rfl ?_
    refine s_val (v_idxA1 rfl rfl Try.underlying22 sz_5 (by omega)) rfl ?_
    refine s_val (v_load8 rfl rfl row_5 LT_) rfl ?_
    refine s_val (v_moveC rfl) rfl ?_
    refine s_val (v_remN (b := 8) rfl rfl (by omega) (by omega)) rfl ?_
    refine s_val (v_shr8n rfl rfl) rfl ?_
    refine s_val (v_and8 (b := 1#8) rfl rfl) rfl ?_
    refine s_val (v_eql8 (b := 1#8) rfl rfl) rfl ?_
    refine s_nil ?_
    refine Q_ ?_
    refine c_join [2, 3, 4, 5, 6] (fun (zz : List (BitVec 64)) => ⟨28, keepT [2, 3, 4, 5, 6] [.c (.ptr 0 0), .c (.ptr 1 0), .c (.ptr 2 0), .c (.ptr 3 0), .c (.val (.int .i64 (((255 - j3 : Nat) : Int))))], [.row true (.a64 (a)), .row true (.a8 (e)), .row true (.a64 (zer64 5)), .row true (.a64 (zz))]⟩) (if ((((nth e ((255 - j3) / 8)) >>> ((255 - j3) % 8)) &&& 1#8) == 1#8) = true then lmMul (lmMul X2 X2) a else lmMul X2 X2) rfl (fun hb => ?_) (fun hb => ?_) ?_
    · -- the test is True
      have hQ5 : (lmMul (lmMul X2 X2) a).length = 5 := LQ_
      refine S_ ?_
      refine c_region ?_
      refine s_val (v_loadR rfl rfl row_54 sz_54 EQ_ (by decide)) rfl ?_
      refine s_val (v_loadR rfl rfl row_54 sz_54 EQ_ (by decide)) rfl ?_
      refine s_evN (e_callR (bs := []) (lmMul_ev (lmMul X2 X2) a HYP_ HYP_) ok_43 (by kernel_rfl) (by kernel_rfl) rfl VAL_) APP_ rfl ?_
      refine s_storeR rfl rfl rfl rfl sz_54 EQ_ EQ_ SET_ ?_
      refine s_nil ?_
      refine S_ ?_
      refine ⟨(lmMul (lmMul X2 X2) a), by kernel_rfl, ?_⟩
      rw [if_pos (hb)]
    · -- the test is False
      refine S_ ?_
      refine ⟨(lmMul X2 X2), by kernel_rfl, ?_⟩
      rw [if_neg (by first | (rw [hb]; decide) | simp [hb])]
    have hJ4 : (if ((((nth e ((255 - j3) / 8)) >>> ((255 - j3) % 8)) &&& 1#8) == 1#8) = true then lmMul (lmMul X2 X2) a else lmMul X2 X2).length = 5 := by split <;> simp [*]
    generalize (if ((((nth e ((255 - j3) / 8)) >>> ((255 - j3) % 8)) &&& 1#8) == 1#8) = true then lmMul (lmMul X2 X2) a else lmMul X2 X2) = J4 at *
    refine S_ ?_
    refine c_region ?_
    refine s_val (v_moveC rfl) rfl ?_
    first
      | refine s_val (v_subN (b := 1) rfl rfl (by omega) (by omega)) rfl ?_
      | refine s_val (v_subI rfl rfl (by omega)) rfl ?_
    refine s_val (v_assignC rfl) rfl ?_
    refine s_nil ?_
    refine ⟨(j3 + 1, _), (by
      dsimp only
      rw [show ((255 : Nat) : Int) - ((j3 + 1 : Nat) : Int) = ((255 - j3 : Nat) : Int) - 1 from by omega]
      kernel_rfl), rfl⟩
  · try dsimp only
    have hY6 : (lmPow_L3 a e 256).length = 5 := by rw [lmPow_L3_len a e ha he _]; try omega
    generalize lmPow_L3 a e 256 = Y6 at *
    refine S_ ?_
    refine c_region ?_
    refine s_val (v_moveC rfl) rfl ?_
    refine s_val (v_geqI rfl rfl) rfl ?_
    refine s_nil ?_
    refine S_ ?_
    refine c_region ?_
    refine s_val (v_loadR rfl rfl row_54 sz_54 EQ_ (by decide)) rfl ?_
    refine s_storeR rfl rfl rfl rfl sz_54 EQ_ EQ_ SET_ ?_
    refine s_nil ?_
    refine S_ ?_
    rw [hP.out]
    exact k_1 (r_row rfl rfl row_54 sz_54 EQ_ (by decide)) (by first | kernel_rfl | rfl)

@[simp] theorem lmPow_len (a : List (BitVec 64)) (e : List (BitVec 8)) (ha : a.length = 5) (he : e.length = 32) : (lmPow a e).length = 5 := by
  unfold lmPow
  first | (simp [lmPow_L3_len, *]; done) | (simp [lmPow_L3_len, *]; omega)

attribute [irreducible] lmPow
end Go.Proofs.Ytcekjmejppemeaa
/- limb.Below, limb.Below, limb.Below (Drawn up by a program.) -/
namespace Go.Proofs.Ytcekjmejppemeaa
open Go.RowKit
def lmBelA_L3_S (X1 : List (BitVec 8)) (j3 : Nat) : List (BitVec 8) := put X1 (j3 / 8) ((nth X1 (j3 / 8)) ||| (1#8 <<< (j3 % 8)))
def lmBelA_L3  : Nat → List (BitVec 8)
  | 0 => zer8 32
  | j3 + 1 => lmBelA_L3_S (lmBelA_L3 j3) j3
@[simp] theorem lmBelA_L3_len  (j3 : Nat) : (lmBelA_L3 j3).length = 32 := by
  induction j3 with
  | zero => first | (simp [lmBelA_L3, *]; done) | (simp [lmBelA_L3, *]; omega)
  | succ j3 ih => rw [lmBelA_L3.eq_2, lmBelA_L3_S]; first | (simp [ih]; done) | (simp [ih]; omega) | (simp [*]; done) | (simp [*]; omega) | (split <;> first | (simp [ih]; done) | (simp [ih]; omega) | (simp [*]; done))
def lmBelA (k : BitVec 8) : List (BitVec 8) := put (lmBelA_L3 255) 0 ((nth (lmBelA_L3 255) 0) - (k - 1#8))
set_option maxRecDepth 100000 in
set_option maxHeartbeats 2000000 in
theorem lmBelA_ev (k : BitVec 8)  : Ev Try.prog (.call 79 [.c (.val (.int .i64 ((255 : Nat) : Int))), .c (.val (U8 k))] []) (.val (.agg (.a8 (lmBelA k))) []) := by
  have hP : Hid (lmBelA k = put (lmBelA_L3 255) 0 ((nth (lmBelA_L3 255) 0) - (k - 1#8))) := ⟨rfl⟩
  refine c_call Try.func79 rfl Try.ntmps79 rfl LEN_ ?_
  refine S_ ?_
  refine c_region ?_
  refine s_memN (m_alloc al_22 LEN_) APP_ rfl ?_
  refine s_nil ?_
  refine S_ ?_
  refine c_region ?_
  refine s_memN (m_alloc al_22 LEN_) APP_ rfl ?_
  refine s_nil ?_
  refine S_ ?_
  refine c_region ?_
  refine s_val (v_moveC rfl) rfl ?_
  refine s_val (v_moveC rfl) rfl ?_
  refine s_nil ?_
  refine S_ ?_
  refine c_loopC [1, 4, 5, 7, 8] (fun (zz : Nat × List (BitVec 8)) => ⟨28, keepT [1, 4, 5, 7, 8] [.c (.val (U8 (k))), .c (.ptr 0 0), .c (.ptr 1 0), .c (.val (.int .i64 (((255 : Nat) : Int)))), .c (.val (.int .i64 (((zz.1 : Nat) : Int))))], [.row true (.a8 (zer8 32)), .row true (.a8 (zz.2))]⟩) (fun j3 => (j3, lmBelA_L3 j3)) (255) (by kernel_rfl) ?_ ?_
  · intro j3 hj3
    try dsimp only
    have hX1 : (lmBelA_L3 j3).length = 32 := by rw [lmBelA_L3_len _]; try omega
    rw [lmBelA_L3.eq_2, lmBelA_L3_S]
    generalize lmBelA_L3 j3 = X1 at *
    refine S_ ?_
    refine c_region ?_
    refine s_val (v_lssN (b := 255) rfl rfl) rfl ?_
    refine s_nil ?_
    refine S_ ?_
    refine c_region ?_
    refine s_val (v_moveC rfl) rfl ?_
    refine s_val (v_assignC rfl) rfl ?_
    refine s_nil ?_
    refine S_ ?_
    refine c_draw 9 mixed (by kernel_rfl) rfl rfl rfl ?_
    refine h_val (v_moveC rfl) rfl ?_
    refine h_val (v_quoN (b := 8) rfl rfl (by omega) (by omega)) rfl ?_
    refine h_val (v_idxA1 rfl rfl Try.underlying22 sz_5 (by omega)) rfl ?_
    refine h_val (v_load8 rfl rfl row_5 LT_) rfl ?_
    refine h_val (v_moveC rfl) rfl ?_
    refine h_val (v_remN (b := 8) rfl rfl (by omega) (by omega)) rfl ?_
    refine h_val (v_shl8n (a := 1#8) rfl rfl) rfl ?_
    refine h_val (v_or8 rfl rfl) rfl ?_
    refine h_val (v_idxA1 rfl rfl Try.underlying22 sz_5 (by omega)) rfl ?_
    refine h_nil ?_
    refine s_store8 rfl rfl rfl sz_5 LT_ SET_ ?_
    refine s_nil ?_
    refine S_ ?_
    refine c_region ?_
    refine s_val (v_addN (b := 1) rfl rfl (by omega)) rfl ?_
    refine s_val (v_moveC rfl) rfl ?_
    refine s_nil ?_
    exact ⟨(j3 + 1, _), by kernel_rfl, rfl⟩
  · try dsimp only
    have hY2 : (lmBelA_L3 255).length = 32 := by rw [lmBelA_L3_len _]; try omega
    generalize lmBelA_L3 255 = Y2 at *
    refine S_ ?_
    refine c_region ?_
    refine s_val (v_lssN (a := 255) (b := 255) rfl rfl) rfl ?_
    refine s_nil ?_
    refine S_ ?_
    refine c_region ?_
    refine s_val (v_idxA1 (j := 0) rfl rfl Try.underlying22 sz_5 (by omega)) rfl ?_
    refine s_val (v_load8 rfl rfl row_5 LT_) rfl ?_
    refine s_val (v_moveC rfl) rfl ?_
    refine s_val (v_sub8 (b := 1#8) rfl rfl) rfl ?_
    refine s_val (v_sub8 rfl rfl) rfl ?_
    refine s_val (v_idxA1 (j := 0) rfl rfl Try.underlying22 sz_5 (by omega)) rfl ?_
    refine s_store8 rfl rfl rfl sz_5 LT_ SET_ ?_
    refine s_nil ?_
    refine S_ ?_
    refine c_region ?_
    refine s_val (v_loadR rfl rfl row_22 sz_22 EQ_ (by decide)) rfl ?_
    refine s_storeR rfl rfl rfl rfl sz_22 EQ_ EQ_ SET_ ?_
    refine s_nil ?_
    refine S_ ?_
    rw [hP.out]
    exact k_1 (r_row rfl rfl row_22 sz_22 EQ_ (by decide)) (by first | kernel_rfl | rfl)

@[simp] theorem lmBelA_len (k : BitVec 8) : (lmBelA k).length = 32 := by
  unfold lmBelA
  first | (simp [lmBelA_L3_len, *]; done) | (simp [lmBelA_L3_len, *]; omega)

attribute [irreducible] lmBelA

def lmBelB_L3_S (X1 : List (BitVec 8)) (j3 : Nat) : List (BitVec 8) := put X1 (j3 / 8) ((nth X1 (j3 / 8)) ||| (1#8 <<< (j3 % 8)))
def lmBelB_L3  : Nat → List (BitVec 8)
  | 0 => zer8 32
  | j3 + 1 => lmBelB_L3_S (lmBelB_L3 j3) j3
@[simp] theorem lmBelB_L3_len  (j3 : Nat) : (lmBelB_L3 j3).length = 32 := by
  induction j3 with
  | zero => first | (simp [lmBelB_L3, *]; done) | (simp [lmBelB_L3, *]; omega)
  | succ j3 ih => rw [lmBelB_L3.eq_2, lmBelB_L3_S]; first | (simp [ih]; done) | (simp [ih]; omega) | (simp [*]; done) | (simp [*]; omega) | (split <;> first | (simp [ih]; done) | (simp [ih]; omega) | (simp [*]; done))
def lmBelB (k : BitVec 8) : List (BitVec 8) := put (lmBelB_L3 252) 0 ((nth (lmBelB_L3 252) 0) - (k - 1#8))
set_option maxRecDepth 100000 in
set_option maxHeartbeats 2000000 in
theorem lmBelB_ev (k : BitVec 8)  : Ev Try.prog (.call 79 [.c (.val (.int .i64 ((252 : Nat) : Int))), .c (.val (U8 k))] []) (.val (.agg (.a8 (lmBelB k))) []) := by
  have hP : Hid (lmBelB k = put (lmBelB_L3 252) 0 ((nth (lmBelB_L3 252) 0) - (k - 1#8))) := ⟨rfl⟩
  refine c_call Try.func79 rfl Try.ntmps79 rfl LEN_ ?_
  refine S_ ?_
  refine c_region ?_
  refine s_memN (m_alloc al_22 LEN_) APP_ rfl ?_
  refine s_nil ?_
  refine S_ ?_
  refine c_region ?_
  refine s_memN (m_alloc al_22 LEN_) APP_ rfl ?_
  refine s_nil ?_
  refine S_ ?_
  refine c_region ?_
  refine s_val (v_moveC rfl) rfl ?_
  refine s_val (v_moveC rfl) rfl ?_
  refine s_nil ?_
  refine S_ ?_
  refine c_loopC [1, 4, 5, 7, 8] (fun (zz : Nat × List (BitVec 8)) => ⟨28, keepT [1, 4, 5, 7, 8] [.c (.val (U8 (k))), .c (.ptr 0 0), .c (.ptr 1 0), .c (.val (.int .i64 (((252 : Nat) : Int)))), .c (.val (.int .i64 (((zz.1 : Nat) : Int))))], [.row true (.a8 (zer8 32)), .row true (.a8 (zz.2))]⟩) (fun j3 => (j3, lmBelB_L3 j3)) (252) (by kernel_rfl) ?_ ?_
  · intro j3 hj3
    try dsimp only
    have hX1 : (lmBelB_L3 j3).length = 32 := by rw [lmBelB_L3_len _]; try omega
    rw [lmBelB_L3.eq_2, lmBelB_L3_S]
    generalize lmBelB_L3 j3 = X1 at *
    refine S_ ?_
    refine c_region ?_
    refine s_val (v_lssN (b := 252) rfl rfl) rfl ?_
    refine s_nil ?_
    refine S_ ?_
    refine c_region ?_
    refine s_val (v_moveC rfl) rfl ?_
    refine s_val (v_assignC rfl) rfl ?_
    refine s_nil ?_
    refine S_ ?_
    refine c_draw 9 mixed (by kernel_rfl) rfl rfl rfl ?_
    refine h_val (v_moveC rfl) rfl ?_
    refine h_val (v_quoN (b := 8) rfl rfl (by omega) (by omega)) rfl ?_
    refine h_val (v_idxA1 rfl rfl Try.underlying22 sz_5 (by omega)) rfl ?_
    refine h_val (v_load8 rfl rfl row_5 LT_) rfl ?_
    refine h_val (v_moveC rfl) rfl ?_
    refine h_val (v_remN (b := 8) rfl rfl (by omega) (by omega)) rfl ?_
    refine h_val (v_shl8n (a := 1#8) rfl rfl) rfl ?_
    refine h_val (v_or8 rfl rfl) rfl ?_
    refine h_val (v_idxA1 rfl rfl Try.underlying22 sz_5 (by omega)) rfl ?_
    refine h_nil ?_
    refine s_store8 rfl rfl rfl sz_5 LT_ SET_ ?_
    refine s_nil ?_
    refine S_ ?_
    refine c_region ?_
    refine s_val (v_addN (b := 1) rfl rfl (by omega)) rfl ?_
    refine s_val (v_moveC rfl) rfl ?_
    refine s_nil ?_
    exact ⟨(j3 + 1, _), by kernel_rfl, rfl⟩
  · try dsimp only
    have hY2 : (lmBelB_L3 252).length = 32 := by rw [lmBelB_L3_len _]; try omega
    generalize lmBelB_L3 252 = Y2 at *
    refine S_ ?_
    refine c_region ?_
    refine s_val (v_lssN (a := 252) (b := 252) rfl rfl) rfl ?_
    refine s_nil ?_
    refine S_ ?_
    refine c_region ?_
    refine s_val (v_idxA1 (j := 0) rfl rfl Try.underlying22 sz_5 (by omega)) rfl ?_
    refine s_val (v_load8 rfl rfl row_5 LT_) rfl ?_
    refine s_val (v_moveC rfl) rfl ?_
    refine s_val (v_sub8 (b := 1#8) rfl rfl) rfl ?_
    refine s_val (v_sub8 rfl rfl) rfl ?_
    refine s_val (v_idxA1 (j := 0) rfl rfl Try.underlying22 sz_5 (by omega)) rfl ?_
    refine s_store8 rfl rfl rfl sz_5 LT_ SET_ ?_
    refine s_nil ?_
    refine S_ ?_
    refine c_region ?_
    refine s_val (v_loadR rfl rfl row_22 sz_22 EQ_ (by decide)) rfl ?_
    refine s_storeR rfl rfl rfl rfl sz_22 EQ_ EQ_ SET_ ?_
    refine s_nil ?_
    refine S_ ?_
    rw [hP.out]
    exact k_1 (r_row rfl rfl row_22 sz_22 EQ_ (by decide)) (by first | kernel_rfl | rfl)

@[simp] theorem lmBelB_len (k : BitVec 8) : (lmBelB k).length = 32 := by
  unfold lmBelB
  first | (simp [lmBelB_L3_len, *]; done) | (simp [lmBelB_L3_len, *]; omega)

attribute [irreducible] lmBelB

def lmBelC_L3_S (X1 : List (BitVec 8)) (j3 : Nat) : List (BitVec 8) := put X1 (j3 / 8) ((nth X1 (j3 / 8)) ||| (1#8 <<< (j3 % 8)))
def lmBelC_L3  : Nat → List (BitVec 8)
  | 0 => zer8 32
  | j3 + 1 => lmBelC_L3_S (lmBelC_L3 j3) j3
@[simp] theorem lmBelC_L3_len  (j3 : Nat) : (lmBelC_L3 j3).length = 32 := by
  induction j3 with
  | zero => first | (simp [lmBelC_L3, *]; done) | (simp [lmBelC_L3, *]; omega)
  | succ j3 ih => rw [lmBelC_L3.eq_2, lmBelC_L3_S]; first | (simp [ih]; done) | (simp [ih]; omega) | (simp [*]; done) | (simp [*]; omega) | (split <;> first | (simp [ih]; done) | (simp [ih]; omega) | (simp [*]; done))
def lmBelC (k : BitVec 8) : List (BitVec 8) := put (lmBelC_L3 253) 0 ((nth (lmBelC_L3 253) 0) - (k - 1#8))
set_option maxRecDepth 100000 in
set_option maxHeartbeats 2000000 in
theorem lmBelC_ev (k : BitVec 8)  : Ev Try.prog (.call 79 [.c (.val (.int .i64 ((253 : Nat) : Int))), .c (.val (U8 k))] []) (.val (.agg (.a8 (lmBelC k))) []) := by
  have hP : Hid (lmBelC k = put (lmBelC_L3 253) 0 ((nth (lmBelC_L3 253) 0) - (k - 1#8))) := ⟨rfl⟩
  refine c_call Try.func79 rfl Try.ntmps79 rfl LEN_ ?_
  refine S_ ?_
  refine c_region ?_
  refine s_memN (m_alloc al_22 LEN_) APP_ rfl ?_
  refine s_nil ?_
  refine S_ ?_
  refine c_region ?_
  refine s_memN (m_alloc al_22 LEN_) APP_ rfl ?_
  refine s_nil ?_
  refine S_ ?_
  refine c_region ?_
  refine s_val (v_moveC rfl) rfl ?_
  refine s_val (v_moveC rfl) rfl ?_
  refine s_nil ?_
  refine S_ ?_
  refine c_loopC [1, 4, 5, 7, 8] (fun (zz : Nat × List (BitVec 8)) => ⟨28, keepT [1, 4, 5, 7, 8] [.c (.val (U8 (k))), .c (.ptr 0 0), .c (.ptr 1 0), .c (.val (.int .i64 (((253 : Nat) : Int)))), .c (.val (.int .i64 (((zz.1 : Nat) : Int))))], [.row true (.a8 (zer8 32)), .row true (.a8 (zz.2))]⟩) (fun j3 => (j3, lmBelC_L3 j3)) (253) (by kernel_rfl) ?_ ?_
  · intro j3 hj3
    try dsimp only
    have hX1 : (lmBelC_L3 j3).length = 32 := by rw [lmBelC_L3_len _]; try omega
    rw [lmBelC_L3.eq_2, lmBelC_L3_S]
    generalize lmBelC_L3 j3 = X1 at *
    refine S_ ?_
    refine c_region ?_
    refine s_val (v_lssN (b := 253) rfl rfl) rfl ?_
    refine s_nil ?_
    refine S_ ?_
    refine c_region ?_
    refine s_val (v_moveC rfl) rfl ?_
    refine s_val (v_assignC rfl) rfl ?_
    refine s_nil ?_
    refine S_ ?_
    refine c_draw 9 mixed (by kernel_rfl) rfl rfl rfl ?_
    refine h_val (v_moveC rfl) rfl ?_
    refine h_val (v_quoN (b := 8) rfl rfl (by omega) (by omega)) rfl ?_
    refine h_val (v_idxA1 rfl rfl Try.underlying22 sz_5 (by omega)) rfl ?_
    refine h_val (v_load8 rfl rfl row_5 LT_) rfl ?_
    refine h_val (v_moveC rfl) rfl ?_
    refine h_val (v_remN (b := 8) rfl rfl (by omega) (by omega)) rfl ?_
    refine h_val (v_shl8n (a := 1#8) rfl rfl) rfl ?_
    refine h_val (v_or8 rfl rfl) rfl ?_
    refine h_val (v_idxA1 rfl rfl Try.underlying22 sz_5 (by omega)) rfl ?_
    refine h_nil ?_
    refine s_store8 rfl rfl rfl sz_5 LT_ SET_ ?_
    refine s_nil ?_
    refine S_ ?_
    refine c_region ?_
    refine s_val (v_addN (b := 1) rfl rfl (by omega)) rfl ?_
    refine s_val (v_moveC rfl) rfl ?_
    refine s_nil ?_
    exact ⟨(j3 + 1, _), by kernel_rfl, rfl⟩
  · try dsimp only
    have hY2 : (lmBelC_L3 253).length = 32 := by rw [lmBelC_L3_len _]; try omega
    generalize lmBelC_L3 253 = Y2 at *
    refine S_ ?_
    refine c_region ?_
    refine s_val (v_lssN (a := 253) (b := 253) rfl rfl) rfl ?_
    refine s_nil ?_
    refine S_ ?_
    refine c_region ?_
    refine s_val (v_idxA1 (j := 0) rfl rfl Try.underlying22 sz_5 (by omega)) rfl ?_
    refine s_val (v_load8 rfl rfl row_5 LT_) rfl ?_
    refine s_val (v_moveC rfl) rfl ?_
    refine s_val (v_sub8 (b := 1#8) rfl rfl) rfl ?_
    refine s_val (v_sub8 rfl rfl) rfl ?_
    refine s_val (v_idxA1 (j := 0) rfl rfl Try.underlying22 sz_5 (by omega)) rfl ?_
    refine s_store8 rfl rfl rfl sz_5 LT_ SET_ ?_
    refine s_nil ?_
    refine S_ ?_
    refine c_region ?_
    refine s_val (v_loadR rfl rfl row_22 sz_22 EQ_ (by decide)) rfl ?_
    refine s_storeR rfl rfl rfl rfl sz_22 EQ_ EQ_ SET_ ?_
    refine s_nil ?_
    refine S_ ?_
    rw [hP.out]
    exact k_1 (r_row rfl rfl row_22 sz_22 EQ_ (by decide)) (by first | kernel_rfl | rfl)

@[simp] theorem lmBelC_len (k : BitVec 8) : (lmBelC k).length = 32 := by
  unfold lmBelC
  first | (simp [lmBelC_L3_len, *]; done) | (simp [lmBelC_L3_len, *]; omega)

attribute [irreducible] lmBelC
end Go.Proofs.Ytcekjmejppemeaa
/- limb.Inv, limb.Same, (limb.N).Odd (Drawn up by a program.) -/
namespace Go.Proofs.Ytcekjmejppemeaa
open Go.RowKit
def lmInv (a : List (BitVec 64)) : List (BitVec 64) := lmPow a (lmBelA 21#8)
set_option maxRecDepth 100000 in
set_option maxHeartbeats 2000000 in
theorem lmInv_ev (a : List (BitVec 64)) (ha : a.length = 5) : Ev Try.prog (.call 45 [.agg (.a64 (a))] []) (.val (.agg (.a64 (lmInv a))) []) := by
  have hP : Hid (lmInv a = lmPow a (lmBelA 21#8)) := ⟨rfl⟩
  refine c_call Try.func45 rfl Try.ntmps45 rfl LEN_ ?_
  refine S_ ?_
  refine c_region ?_
  refine s_memN (m_box BX_ LEN_) APP_ rfl ?_
  refine s_memN (m_alloc al_54 LEN_) APP_ rfl ?_
  refine s_nil ?_
  have hQ1 : (lmBelA 21#8).length = 32 := LQ_
  have hQ2 : (lmPow a (lmBelA 21#8)).length = 5 := LQ_
  refine S_ ?_
  refine c_draw 3 mixed (by kernel_rfl) rfl rfl rfl ?_
  refine h_val (v_loadR rfl rfl row_54 sz_54 EQ_ (by decide)) rfl ?_
  refine h_evN (e_callR (bs := []) (lmBelA_ev 21#8) ok_79 (by kernel_rfl) (by kernel_rfl) rfl VAL_) APP_ rfl ?_
  refine h_evN (e_callR (bs := []) (lmPow_ev a (lmBelA 21#8) HYP_ HYP_) ok_78 (by kernel_rfl) (by kernel_rfl) rfl VAL_) APP_ rfl ?_
  refine h_nil ?_
  refine s_storeR rfl rfl rfl rfl sz_54 EQ_ EQ_ SET_ ?_
  refine s_nil ?_
  refine S_ ?_
  rw [hP.out]
  exact k_1 (r_row rfl rfl row_54 sz_54 EQ_ (by decide)) (by first | kernel_rfl | rfl)

@[simp] theorem lmInv_len (a : List (BitVec 64)) (ha : a.length = 5) : (lmInv a).length = 5 := by
  unfold lmInv
  first | (simp [*]; done) | (simp [*]; omega)

attribute [irreducible] lmInv


set_option maxRecDepth 100000 in
set_option maxHeartbeats 2000000 in
theorem lmSame_ev (a : List (BitVec 64)) (b : List (BitVec 64)) (ha : a.length = 5) (hb : b.length = 5) : Ev Try.prog (.call 75 [.agg (.a64 (a)), .agg (.a64 (b))] []) (.val (.c (.val (.bool (decide (lmBytes a = lmBytes b))))) []) := by
  refine c_call Try.func75 rfl Try.ntmps75 rfl LEN_ ?_
  refine S_ ?_
  refine c_region ?_
  refine s_memN (m_box BX_ LEN_) APP_ rfl ?_
  refine s_memN (m_box BX_ LEN_) APP_ rfl ?_
  refine s_val (v_assignC rfl) rfl ?_
  refine s_nil ?_
  have hQ1 : (lmBytes a).length = 32 := LQ_
  have hQ2 : (lmBytes b).length = 32 := LQ_
  refine S_ ?_
  refine c_draw 6 mixed (by kernel_rfl) rfl rfl rfl ?_
  refine h_val (v_loadR rfl rfl row_54 sz_54 EQ_ (by decide)) rfl ?_
  refine h_evN (e_callR (bs := []) (lmBytes_ev a HYP_) ok_42 (by kernel_rfl) (by kernel_rfl) rfl VAL_) APP_ rfl ?_
  refine h_val (v_loadR rfl rfl row_54 sz_54 EQ_ (by decide)) rfl ?_
  refine h_evN (e_callR (bs := []) (lmBytes_ev b HYP_) ok_42 (by kernel_rfl) (by kernel_rfl) rfl VAL_) APP_ rfl ?_
  refine h_val (v_eqlR8 rfl rfl Try.underlying22 Try.underlying5 sz_5 EQ_ EQ_) rfl ?_
  refine h_val (v_assignC rfl) rfl ?_
  refine h_nil ?_
  refine s_nil ?_
  refine S_ ?_
  exact k_1 (by first | exact r_tmpC rfl | exact r_tmpA rfl) (by first | kernel_rfl | rfl)


set_option maxRecDepth 100000 in
set_option maxHeartbeats 2000000 in
theorem lmOdd_ev (a : List (BitVec 64)) (ha : a.length = 5) : Ev Try.prog (.call 48 [.agg (.a64 (a))] []) (.val (.c (.val (.bool ((((nth (lmBytes a) 0) &&& 1#8) == 1#8))))) []) := by
  refine c_call Try.func48 rfl Try.ntmps48 rfl LEN_ ?_
  refine S_ ?_
  refine c_region ?_
  refine s_memN (m_box BX_ LEN_) APP_ rfl ?_
  refine s_val (v_assignC rfl) rfl ?_
  refine s_nil ?_
  have hQ1 : (lmBytes a).length = 32 := LQ_
  refine S_ ?_
  refine c_region ?_
  refine s_val (v_loadR rfl rfl row_54 sz_54 EQ_ (by decide)) rfl ?_
  refine s_evN (e_callR (bs := []) (lmBytes_ev a HYP_) ok_42 (by kernel_rfl) (by kernel_rfl) rfl VAL_) APP_ rfl ?_
  refine s_val (v_ix8 (j := 0) rfl rfl Try.underlying22 sz_5 row_5 (by omega) LT_) rfl ?_
  refine s_val (v_and8 (b := 1#8) rfl rfl) rfl ?_
  refine s_val (v_eql8 (b := 1#8) rfl rfl) rfl ?_
  refine s_val (v_assignC rfl) rfl ?_
  refine s_nil ?_
  refine S_ ?_
  exact k_1 (by first | exact r_tmpC rfl | exact r_tmpA rfl) (by first | kernel_rfl | rfl)
end Go.Proofs.Ytcekjmejppemeaa
/- limb.Root (Drawn up by a program.) -/
namespace Go.Proofs.Ytcekjmejppemeaa
open Go.RowKit
def lmRoot0 (a : List (BitVec 64)) : List (BitVec 64) := (if (!(decide (lmBytes (lmMul (lmPow a (lmBelB 2#8)) (lmPow a (lmBelB 2#8))) = lmBytes a))) = true then lmMul (lmPow a (lmBelB 2#8)) (lmPow (lmSmall 2#64) (lmBelC 5#8)) else lmPow a (lmBelB 2#8))
def lmRoot1 (a : List (BitVec 64)) : Bool := decide (lmBytes (lmMul (if (!(decide (lmBytes (lmMul (lmPow a (lmBelB 2#8)) (lmPow a (lmBelB 2#8))) = lmBytes a))) = true then lmMul (lmPow a (lmBelB 2#8)) (lmPow (lmSmall 2#64) (lmBelC 5#8)) else lmPow a (lmBelB 2#8)) (if (!(decide (lmBytes (lmMul (lmPow a (lmBelB 2#8)) (lmPow a (lmBelB 2#8))) = lmBytes a))) = true then lmMul (lmPow a (lmBelB 2#8)) (lmPow (lmSmall 2#64) (lmBelC 5#8)) else lmPow a (lmBelB 2#8))) = lmBytes a)
set_option maxRecDepth 100000 in
set_option maxHeartbeats 2000000 in
theorem lmRoot_ev (a : List (BitVec 64)) (ha : a.length = 5) : Ev Try.prog (.call 47 [.agg (.a64 (a))] []) (.val (.tup [.agg (.a64 (lmRoot0 a)), .c (.val (.bool (lmRoot1 a)))]) []) := by
  have hP_lmRoot0 : Hid (lmRoot0 a = (if (!(decide (lmBytes (lmMul (lmPow a (lmBelB 2#8)) (lmPow a (lmBelB 2#8))) = lmBytes a))) = true then lmMul (lmPow a (lmBelB 2#8)) (lmPow (lmSmall 2#64) (lmBelC 5#8)) else lmPow a (lmBelB 2#8))) := ⟨rfl⟩
  have hP_lmRoot1 : Hid (lmRoot1 a = decide (lmBytes (lmMul (if (!(decide (lmBytes (lmMul (lmPow a (lmBelB 2#8)) (lmPow a (lmBelB 2#8))) = lmBytes a))) = true then lmMul (lmPow a (lmBelB 2#8)) (lmPow (lmSmall 2#64) (lmBelC 5#8)) else lmPow a (lmBelB 2#8)) (if (!(decide (lmBytes (lmMul (lmPow a (lmBelB 2#8)) (lmPow a (lmBelB 2#8))) = lmBytes a))) = true then lmMul (lmPow a (lmBelB 2#8)) (lmPow (lmSmall 2#64) (lmBelC 5#8)) else lmPow a (lmBelB 2#8))) = lmBytes a)) := ⟨rfl⟩
  refine c_call Try.func47 rfl Try.ntmps47 rfl LEN_ ?_
  refine S_ ?_
  refine c_region ?_
  refine s_memN (m_box BX_ LEN_) APP_ rfl ?_
  refine s_memN (m_alloc al_54 LEN_) APP_ rfl ?_
  refine s_val (v_assignC rfl) rfl ?_
  refine s_nil ?_
  have hQ1 : (lmBelB 2#8).length = 32 := LQ_
  have hQ2 : (lmPow a (lmBelB 2#8)).length = 5 := LQ_
  refine S_ ?_
  refine c_draw 4 mixed (by kernel_rfl) rfl rfl rfl ?_
  refine h_val (v_loadR rfl rfl row_54 sz_54 EQ_ (by decide)) rfl ?_
  refine h_evN (e_callR (bs := []) (lmBelB_ev 2#8) ok_79 (by kernel_rfl) (by kernel_rfl) rfl VAL_) APP_ rfl ?_
  refine h_evN (e_callR (bs := []) (lmPow_ev a (lmBelB 2#8) HYP_ HYP_) ok_78 (by kernel_rfl) (by kernel_rfl) rfl VAL_) APP_ rfl ?_
  refine h_memN (m_alloc al_54 LEN_) APP_ rfl ?_
  refine h_nil ?_
  refine s_storeR rfl rfl rfl rfl sz_54 EQ_ EQ_ SET_ ?_
  refine s_nil ?_
  have hQ3 : (lmMul (lmPow a (lmBelB 2#8)) (lmPow a (lmBelB 2#8))).length = 5 := LQ_
  refine S_ ?_
  refine c_draw 6 mixed (by kernel_rfl) rfl rfl rfl ?_
  refine h_val (v_loadR rfl rfl row_54 sz_54 EQ_ (by decide)) rfl ?_
  refine h_val (v_loadR rfl rfl row_54 sz_54 EQ_ (by decide)) rfl ?_
  refine h_evN (e_callR (bs := []) (lmMul_ev (lmPow a (lmBelB 2#8)) (lmPow a (lmBelB 2#8)) HYP_ HYP_) ok_43 (by kernel_rfl) (by kernel_rfl) rfl VAL_) APP_ rfl ?_
  refine h_val (v_loadR rfl rfl row_54 sz_54 EQ_ (by decide)) rfl ?_
  refine h_evN (e_callR (bs := []) (lmSame_ev (lmMul (lmPow a (lmBelB 2#8)) (lmPow a (lmBelB 2#8))) a HYP_ HYP_) ok_75 (by kernel_rfl) (by kernel_rfl) rfl VAL_) APP_ rfl ?_
  refine h_val (v_unnotB rfl) rfl ?_
  refine h_nil ?_
  refine s_nil ?_
  refine Q_ ?_
  refine c_join [1, 2, 4] (fun (zz : List (BitVec 64)) => ⟨25, keepT [1, 2, 4] [.c (.ptr 0 0), .c (.ptr 1 0), .c (.ptr 2 0)], [.row true (.a64 (a)), .row true (.a64 (zer64 5)), .row true (.a64 (zz))]⟩) (if (!(decide (lmBytes (lmMul (lmPow a (lmBelB 2#8)) (lmPow a (lmBelB 2#8))) = lmBytes a))) = true then lmMul (lmPow a (lmBelB 2#8)) (lmPow (lmSmall 2#64) (lmBelC 5#8)) else lmPow a (lmBelB 2#8)) rfl (fun hb => ?_) (fun hb => ?_) ?_
  · -- the test is True
    have hQ5 : (lmSmall 2#64).length = 5 := LQ_
    have hQ6 : (lmBelC 5#8).length = 32 := LQ_
    have hQ7 : (lmPow (lmSmall 2#64) (lmBelC 5#8)).length = 5 := LQ_
    have hQ8 : (lmMul (lmPow a (lmBelB 2#8)) (lmPow (lmSmall 2#64) (lmBelC 5#8))).length = 5 := LQ_
    refine S_ ?_
    refine c_draw 5 mixed (by kernel_rfl) rfl rfl rfl ?_
    refine h_val (v_loadR rfl rfl row_54 sz_54 EQ_ (by decide)) rfl ?_
    refine h_evN (e_callR (bs := []) (lmSmall_ev 2#64) ok_49 (by kernel_rfl) (by kernel_rfl) rfl VAL_) APP_ rfl ?_
    refine h_evN (e_callR (bs := []) (lmBelC_ev 5#8) ok_79 (by kernel_rfl) (by kernel_rfl) rfl VAL_) APP_ rfl ?_
    refine h_evN (e_callR (bs := []) (lmPow_ev (lmSmall 2#64) (lmBelC 5#8) HYP_ HYP_) ok_78 (by kernel_rfl) (by kernel_rfl) rfl VAL_) APP_ rfl ?_
    refine h_evN (e_callR (bs := []) (lmMul_ev (lmPow a (lmBelB 2#8)) (lmPow (lmSmall 2#64) (lmBelC 5#8)) HYP_ HYP_) ok_43 (by kernel_rfl) (by kernel_rfl) rfl VAL_) APP_ rfl ?_
    refine h_nil ?_
    refine s_storeR rfl rfl rfl rfl sz_54 EQ_ EQ_ SET_ ?_
    refine s_nil ?_
    refine S_ ?_
    refine ⟨(lmMul (lmPow a (lmBelB 2#8)) (lmPow (lmSmall 2#64) (lmBelC 5#8))), by kernel_rfl, ?_⟩
    rw [if_pos (hb)]
  · -- the test is False
    refine S_ ?_
    refine ⟨(lmPow a (lmBelB 2#8)), by kernel_rfl, ?_⟩
    rw [if_neg (by first | (rw [hb]; decide) | simp [hb])]
  have hJ4 : (if (!(decide (lmBytes (lmMul (lmPow a (lmBelB 2#8)) (lmPow a (lmBelB 2#8))) = lmBytes a))) = true then lmMul (lmPow a (lmBelB 2#8)) (lmPow (lmSmall 2#64) (lmBelC 5#8)) else lmPow a (lmBelB 2#8)).length = 5 := by split <;> simp [*]
  generalize (if (!(decide (lmBytes (lmMul (lmPow a (lmBelB 2#8)) (lmPow a (lmBelB 2#8))) = lmBytes a))) = true then lmMul (lmPow a (lmBelB 2#8)) (lmPow (lmSmall 2#64) (lmBelC 5#8)) else lmPow a (lmBelB 2#8)) = J4 at *
  have hQ9 : (lmMul J4 J4).length = 5 := LQ_
  refine S_ ?_
  refine c_draw 6 mixed (by kernel_rfl) rfl rfl rfl ?_
  refine h_val (v_loadR rfl rfl row_54 sz_54 EQ_ (by decide)) rfl ?_
  refine h_val (v_loadR rfl rfl row_54 sz_54 EQ_ (by decide)) rfl ?_
  refine h_val (v_loadR rfl rfl row_54 sz_54 EQ_ (by decide)) rfl ?_
  refine h_evN (e_callR (bs := []) (lmMul_ev J4 J4 HYP_ HYP_) ok_43 (by kernel_rfl) (by kernel_rfl) rfl VAL_) APP_ rfl ?_
  refine h_val (v_loadR rfl rfl row_54 sz_54 EQ_ (by decide)) rfl ?_
  refine h_evN (e_callR (bs := []) (lmSame_ev (lmMul J4 J4) a HYP_ HYP_) ok_75 (by kernel_rfl) (by kernel_rfl) rfl VAL_) APP_ rfl ?_
  refine h_nil ?_
  refine s_storeR rfl rfl rfl rfl sz_54 EQ_ EQ_ SET_ ?_
  refine s_val (v_assignC rfl) rfl ?_
  refine s_nil ?_
  refine S_ ?_
  rw [hP_lmRoot0.out, hP_lmRoot1.out]
  exact k_2 (r_row rfl rfl row_54 sz_54 EQ_ (by decide)) (by first | exact r_tmpC rfl | exact r_tmpA rfl) (by first | kernel_rfl | rfl)

@[simp] theorem lmRoot0_len (a : List (BitVec 64)) (ha : a.length = 5) : (lmRoot0 a).length = 5 := by
  unfold lmRoot0
  first | (simp (maxDischargeDepth := 9) [*]; done) | (simp (maxDischargeDepth := 9) [*]; omega) | (split <;> (simp (maxDischargeDepth := 9) [*]; done))

attribute [irreducible] lmRoot0

attribute [irreducible] lmRoot1
end Go.Proofs.Ytcekjmejppemeaa
/- field's functions, told by the field of 2^255 - 19. No program in sight. -/
namespace Go.Proofs.Ytcekjmejppemeaa
open Go.RowKit
/-- A number's bytes; the number of bytes. -/
def F (u : Fp) : List (BitVec 8) := toB u.val
def Z (b : List (BitVec 8)) : Fp := zf (leS b 32)
@[simp] theorem F_len (u : Fp) : (F u).length = 32 := toB_len _
theorem Z_F (u : Fp) : Z (F u) = u := by
  unfold Z F
  rw [leS_toB _ _ (Nat.le_refl _), Nat.mod_eq_of_lt (Nat.lt_trans u.isLt (by decide)), zf_self]
theorem F_inj {u v : Fp} : F u = F v ↔ u = v := ⟨fun h => by rw [← Z_F u, h, Z_F], fun h => by rw [h]⟩
theorem F_ne {u v : Fp} (h : u ≠ v) : F u ≠ F v := fun e => h (F_inj.1 e)
theorem F_nth0 (u : Fp) : nth (F u) 0 = BitVec.ofNat 8 u.val := by
  unfold F
  rw [toB_nth _ _ (by decide), Nat.pow_zero, Nat.div_one]
theorem F_zero : F 0 = zer8 32 := by decide +kernel
theorem bytesF {a : List (BitVec 64)} (h : Fine a) : lmBytes a = F (LF a) := bytes_spec h
theorem odd_bit (x : BitVec 8) : ((x &&& 1#8) == 1#8) = decide (x.toNat % 2 = 1) := by
  have e : (x &&& 1#8).toNat = x.toNat % 2 := by
    rw [BitVec.toNat_and]
    exact Nat.and_two_pow_sub_one_eq_mod x.toNat 1
  by_cases h : x.toNat % 2 = 1
  · rw [decide_eq_true h, beq_iff_eq]
    apply BitVec.eq_of_toNat_eq
    rw [e, h]; rfl
  · rw [decide_eq_false h, beq_eq_false_iff_ne]
    intro hx
    apply h
    rw [← e, hx]; rfl
theorem exp_bit (e : List (BitVec 8)) (i : Nat) (hi : i < 256) : ((((nth e (i / 8)) >>> (i % 8)) &&& 1#8) == 1#8) = decide (leS e 32 / 2 ^ i % 2 = 1) := by
  rw [odd_bit]
  have h1 := leS_digit e 32 (i / 8) (by omega)
  rw [BitVec.toNat_ushiftRight, Nat.shiftRight_eq_div_pow, ← h1]
  have h2 : (2 : Nat) ^ i = 256 ^ (i / 8) * 2 ^ (i % 8) := by
    rw [show (256 : Nat) = 2 ^ 8 from rfl, ← Nat.pow_mul, ← Nat.pow_add, Nat.div_add_mod]
  rw [h2, ← Nat.div_div_eq_div_mul]
  generalize leS e 32 / 256 ^ (i / 8) = x
  congr 1
  rcases (by omega : i % 8 = 0 ∨ i % 8 = 1 ∨ i % 8 = 2 ∨ i % 8 = 3 ∨ i % 8 = 4 ∨ i % 8 = 5 ∨ i % 8 = 6 ∨ i % 8 = 7) with h | h | h | h | h | h | h | h <;> rw [h] <;> simp only [Nat.reducePow] <;> apply propext <;> omega
theorem sq_powF (x : Fp) : x ^ 2 = x * x := by grobner
theorem pow_oneF (x : Fp) : x ^ 1 = x := by grobner
theorem mul_oneF (x : Fp) : x * 1 = x := by grobner
theorem pow_fine {a : List (BitVec 64)} (ha : Fine a) (e : List (BitVec 8)) : Fine (lmPow a e) ∧ LF (lmPow a e) = LF a ^ leS e 32 := by
  have run : ∀ j, j ≤ 256 → Fine (lmPow_L3 a e j) ∧ LF (lmPow_L3 a e j) = LF a ^ (leS e 32 / 2 ^ (256 - j)) := by
    intro j
    induction j with
    | zero =>
      intro _
      have hz : leS e 32 / 2 ^ (256 - 0) = 0 := Nat.div_eq_of_lt (leS_lt e 32)
      rw [hz, pow_zeroF]
      exact small_fine (x := 1#64) (by decide)
    | succ j ih =>
      intro hj
      obtain ⟨h1, h2⟩ := ih (by omega)
      obtain ⟨s1, s2⟩ := mul_fine h1 h1
      have hb := exp_bit e (255 - j) (by omega)
      have hq : leS e 32 / 2 ^ (256 - (j + 1)) = 2 * (leS e 32 / 2 ^ (256 - j)) + leS e 32 / 2 ^ (255 - j) % 2 := by
        rw [show 256 - (j + 1) = 255 - j by omega, show 256 - j = (255 - j) + 1 by omega, Nat.pow_succ, ← Nat.div_div_eq_div_mul]
        omega
      rw [lmPow_L3, lmPow_L3_S, hb, hq, pow_addF, Nat.mul_comm 2, pow_mulF, ← h2]
      have hsq : LF (lmPow_L3 a e j) ^ 2 = LF (lmMul (lmPow_L3 a e j) (lmPow_L3 a e j)) := by
        rw [s2, sq_powF]
      rw [hsq]
      by_cases hc : leS e 32 / 2 ^ (255 - j) % 2 = 1
      · rw [decide_eq_true hc, if_pos rfl, hc]
        obtain ⟨t1, t2⟩ := mul_fine s1 ha
        exact ⟨t1, by rw [t2, pow_oneF]⟩
      · rw [decide_eq_false hc, if_neg (by decide), show leS e 32 / 2 ^ (255 - j) % 2 = 0 by omega, pow_zeroF]
        exact ⟨s1, by rw [mul_oneF]⟩
  have := run 256 (Nat.le_refl _)
  rw [Nat.sub_self, Nat.pow_zero, Nat.div_one] at this
  unfold lmPow
  exact this
theorem belA : leS (lmBelA 21#8) 32 = eInv := by decide +kernel
theorem belB : leS (lmBelB 2#8) 32 = eRoot := by decide +kernel
theorem belC : leS (lmBelC 5#8) 32 = eI := by decide +kernel
theorem inv_fine {a : List (BitVec 64)} (ha : Fine a) : Fine (lmInv a) ∧ LF (lmInv a) = invF (LF a) := by
  unfold lmInv invF
  have := pow_fine ha (lmBelA 21#8)
  rwa [belA] at this
theorem root_fine {a : List (BitVec 64)} (ha : Fine a) : (Fine (lmRoot0 a) ∧ LF (lmRoot0 a) = rootF (LF a)) ∧ lmRoot1 a = decide (rootF (LF a) * rootF (LF a) = LF a) := by
  obtain ⟨p1, p2⟩ := pow_fine ha (lmBelB 2#8)
  rw [belB] at p2
  obtain ⟨q1, q2⟩ := mul_fine p1 p1
  obtain ⟨t1, t2⟩ := small_fine (x := 2#64) (by decide)
  obtain ⟨i1, i2⟩ := pow_fine t1 (lmBelC 5#8)
  rw [belC, t2, show (2#64 : BitVec 64).toNat = 2 from rfl, iF_pow] at i2
  obtain ⟨r1, r2⟩ := mul_fine p1 i1
  have hc : (!(decide (lmBytes (lmMul (lmPow a (lmBelB 2#8)) (lmPow a (lmBelB 2#8))) = lmBytes a))) = !(decide (LF a ^ eRoot * LF a ^ eRoot = LF a)) := by
    rw [bytesF q1, bytesF ha, q2, p2]
    congr 1
    exact decide_eq_decide.2 F_inj
  have h0 : Fine (lmRoot0 a) ∧ LF (lmRoot0 a) = rootF (LF a) := by
    unfold lmRoot0 rootF
    rw [hc]
    by_cases h : LF a ^ eRoot * LF a ^ eRoot = LF a
    · rw [decide_eq_true h, if_neg (by decide), if_pos h]
      exact ⟨p1, p2⟩
    · rw [decide_eq_false h, if_pos (by decide), if_neg h]
      exact ⟨r1, by rw [r2, p2, i2]⟩
  refine ⟨h0, ?_⟩
  obtain ⟨u1, u2⟩ := mul_fine h0.1 h0.1
  have e1 : lmRoot1 a = decide (lmBytes (lmMul (lmRoot0 a) (lmRoot0 a)) = lmBytes a) := by unfold lmRoot1 lmRoot0; rfl
  rw [e1, bytesF u1, bytesF ha, u2, h0.2]
  exact decide_eq_decide.2 F_inj
/-- The even one of a number and its counterpart. -/
def evenF (u : Fp) : Fp := if u.val % 2 = 1 then 0 - u else u
theorem fine_of (b : List (BitVec 8)) : Fine (lmOf b) ∧ LF (lmOf b) = Z b := of_fine b
def fMod (a : List (BitVec 8)) : List (BitVec 8) := F (Z a)
def fAdd (a b : List (BitVec 8)) : List (BitVec 8) := F (Z a + Z b)
def fSub (a b : List (BitVec 8)) : List (BitVec 8) := F (Z a - Z b)
def fMul (a b : List (BitVec 8)) : List (BitVec 8) := F (Z a * Z b)
def fPow (a e : List (BitVec 8)) : List (BitVec 8) := F (Z a ^ leS e 32)
def fInv (a : List (BitVec 8)) : List (BitVec 8) := F (invF (Z a))
def fRootIs (a : List (BitVec 8)) : Bool := decide (rootF (Z a) * rootF (Z a) = Z a)
def fRoot (a : List (BitVec 8)) : List (BitVec 8) := F (if rootF (Z a) * rootF (Z a) = Z a then evenF (rootF (Z a)) else 0)
@[simp] theorem fMod_len (a : List (BitVec 8)) : (fMod a).length = 32 := F_len _
@[simp] theorem fAdd_len (a b : List (BitVec 8)) : (fAdd a b).length = 32 := F_len _
@[simp] theorem fSub_len (a b : List (BitVec 8)) : (fSub a b).length = 32 := F_len _
@[simp] theorem fMul_len (a b : List (BitVec 8)) : (fMul a b).length = 32 := F_len _
@[simp] theorem fPow_len (a b : List (BitVec 8)) : (fPow a b).length = 32 := F_len _
@[simp] theorem fInv_len (a : List (BitVec 8)) : (fInv a).length = 32 := F_len _
@[simp] theorem fRoot_len (a : List (BitVec 8)) : (fRoot a).length = 32 := F_len _
attribute [irreducible] F Z fMod fAdd fSub fMul fPow fInv fRoot fRootIs
end Go.Proofs.Ytcekjmejppemeaa
/- trystref06.Of, trystref06.Bytes, trystref06.P, trystref06.add, trystref06.sub, trystref06.less, trystref06.Mod (Drawn up by a program.) -/
namespace Go.Proofs.Ytcekjmejppemeaa
open Go.RowKit
def rfOf_L3_S (b : List (BitVec 8)) (X1 : List (BitVec 64)) (j3 : Nat) : List (BitVec 64) := put X1 (j3 / 8) ((nth X1 (j3 / 8)) ||| (((nth b j3).setWidth 64) <<< (BitVec.ofNat 64 (8 * (j3 % 8))).toNat))
def rfOf_L3 (b : List (BitVec 8)) : Nat → List (BitVec 64)
  | 0 => zer64 4
  | j3 + 1 => rfOf_L3_S b (rfOf_L3 b j3) j3
@[simp] theorem rfOf_L3_len (b : List (BitVec 8)) (j3 : Nat) : (rfOf_L3 b j3).length = 4 := by
  induction j3 with
  | zero => first | (simp [rfOf_L3, *]; done) | (simp [rfOf_L3, *]; omega)
  | succ j3 ih => rw [rfOf_L3.eq_2, rfOf_L3_S]; first | (simp [ih]; done) | (simp [ih]; omega) | (simp [*]; done) | (simp [*]; omega) | (split <;> first | (simp [ih]; done) | (simp [ih]; omega) | (simp [*]; done))
def rfOf (b : List (BitVec 8)) : List (BitVec 64) := (rfOf_L3 b 32)
set_option maxRecDepth 100000 in
set_option maxHeartbeats 2000000 in
theorem rfOf_ev (b : List (BitVec 8)) (hb : b.length = 32) : Ev Try.prog (.call 50 [.agg (.a8 (b))] []) (.val (.agg (.a64 (rfOf b))) []) := by
  have hP : Hid (rfOf b = (rfOf_L3 b 32)) := ⟨rfl⟩
  refine c_call Try.func50 rfl Try.ntmps50 rfl LEN_ ?_
  refine S_ ?_
  refine c_region ?_
  refine s_memN (m_box BX_ LEN_) APP_ rfl ?_
  refine s_memN (m_alloc al_38 LEN_) APP_ rfl ?_
  refine s_nil ?_
  refine S_ ?_
  refine c_region ?_
  refine s_memN (m_alloc al_38 LEN_) APP_ rfl ?_
  refine s_nil ?_
  refine S_ ?_
  refine c_region ?_
  refine s_val (v_assignC rfl) rfl ?_
  refine s_nil ?_
  refine S_ ?_
  refine c_loopC [1, 2, 3, 4] (fun (zz : Nat × List (BitVec 64)) => ⟨25, keepT [1, 2, 3, 4] [.c (.ptr 0 0), .c (.ptr 1 0), .c (.ptr 2 0), .c (.val (.int .i64 (((zz.1 : Nat) : Int))))], [.row true (.a8 (b)), .row true (.a64 (zer64 4)), .row true (.a64 (zz.2))]⟩) (fun j3 => (j3, rfOf_L3 b j3)) (32) (by kernel_rfl) ?_ ?_
  · intro j3 hj3
    try dsimp only
    have hX1 : (rfOf_L3 b j3).length = 4 := by rw [rfOf_L3_len b _]; try omega
    rw [rfOf_L3.eq_2, rfOf_L3_S]
    generalize rfOf_L3 b j3 = X1 at *
    refine S_ ?_
    refine c_region ?_
    refine s_val (v_moveC rfl) rfl ?_
    refine s_val (v_lssN (b := 32) rfl rfl) rfl ?_
    refine s_nil ?_
    refine S_ ?_
    refine c_draw 15 mixed (by kernel_rfl) rfl rfl rfl ?_
    refine h_val (v_moveC rfl) rfl ?_
    refine h_val (v_quoN (b := 8) rfl rfl (by omega) (by omega)) rfl ?_
    refine h_val (v_idxA1 rfl rfl Try.underlying38 sz_29 (by omega)) rfl ?_
    refine h_val (v_load64 rfl rfl row_29 LT_) rfl ?_
    refine h_val (v_moveC rfl) rfl ?_
    refine h_val (v_idxA1 rfl rfl Try.underlying22 sz_5 (by omega)) rfl ?_
    refine h_val (v_load8 rfl rfl row_5 LT_) rfl ?_
    refine h_val (v_conv rfl Try.underlying5 Try.underlying29 (w8_64 _)) rfl ?_
    refine h_val (v_moveC rfl) rfl ?_
    refine h_val (v_remN (b := 8) rfl rfl (by omega) (by omega)) rfl ?_
    refine h_val (v_mulN (a := 8) rfl rfl (by omega)) rfl ?_
    refine h_val (v_conv rfl Try.underlying3 Try.underlying51 (wi_64 _)) rfl ?_
    refine h_val (v_shl64w rfl rfl) rfl ?_
    refine h_val (v_or64 rfl rfl) rfl ?_
    refine h_val (v_idxA1 rfl rfl Try.underlying38 sz_29 (by omega)) rfl ?_
    refine h_nil ?_
    refine s_store64 rfl rfl rfl sz_29 LT_ SET_ ?_
    refine s_nil ?_
    refine S_ ?_
    refine c_region ?_
    refine s_val (v_moveC rfl) rfl ?_
    refine s_val (v_addN (b := 1) rfl rfl (by omega)) rfl ?_
    refine s_val (v_assignC rfl) rfl ?_
    refine s_nil ?_
    exact ⟨(j3 + 1, _), by kernel_rfl, rfl⟩
  · try dsimp only
    have hY2 : (rfOf_L3 b 32).length = 4 := by rw [rfOf_L3_len b _]; try omega
    generalize rfOf_L3 b 32 = Y2 at *
    refine S_ ?_
    refine c_region ?_
    refine s_val (v_moveC rfl) rfl ?_
    refine s_val (v_lssN (a := 32) (b := 32) rfl rfl) rfl ?_
    refine s_nil ?_
    refine S_ ?_
    refine c_region ?_
    refine s_val (v_loadR rfl rfl row_38 sz_38 EQ_ (by decide)) rfl ?_
    refine s_storeR rfl rfl rfl rfl sz_38 EQ_ EQ_ SET_ ?_
    refine s_nil ?_
    refine S_ ?_
    rw [hP.out]
    exact k_1 (r_row rfl rfl row_38 sz_38 EQ_ (by decide)) (by first | kernel_rfl | rfl)

@[simp] theorem rfOf_len (b : List (BitVec 8)) (hb : b.length = 32) : (rfOf b).length = 4 := by
  unfold rfOf
  first | (simp [rfOf_L3_len, *]; done) | (simp [rfOf_L3_len, *]; omega)

attribute [irreducible] rfOf

def rfBytes_L3_S (n : List (BitVec 64)) (X1 : List (BitVec 8)) (j3 : Nat) : List (BitVec 8) := put X1 j3 (((nth n (j3 / 8)) >>> (BitVec.ofNat 64 (8 * (j3 % 8))).toNat).setWidth 8)
def rfBytes_L3 (n : List (BitVec 64)) : Nat → List (BitVec 8)
  | 0 => zer8 32
  | j3 + 1 => rfBytes_L3_S n (rfBytes_L3 n j3) j3
@[simp] theorem rfBytes_L3_len (n : List (BitVec 64)) (j3 : Nat) : (rfBytes_L3 n j3).length = 32 := by
  induction j3 with
  | zero => first | (simp [rfBytes_L3, *]; done) | (simp [rfBytes_L3, *]; omega)
  | succ j3 ih => rw [rfBytes_L3.eq_2, rfBytes_L3_S]; first | (simp [ih]; done) | (simp [ih]; omega) | (simp [*]; done) | (simp [*]; omega) | (split <;> first | (simp [ih]; done) | (simp [ih]; omega) | (simp [*]; done))
def rfBytes (n : List (BitVec 64)) : List (BitVec 8) := (rfBytes_L3 n 32)
set_option maxRecDepth 100000 in
set_option maxHeartbeats 2000000 in
theorem rfBytes_ev (n : List (BitVec 64)) (hn : n.length = 4) : Ev Try.prog (.call 25 [.agg (.a64 (n))] []) (.val (.agg (.a8 (rfBytes n))) []) := by
  have hP : Hid (rfBytes n = (rfBytes_L3 n 32)) := ⟨rfl⟩
  refine c_call Try.func25 rfl Try.ntmps25 rfl LEN_ ?_
  refine S_ ?_
  refine c_region ?_
  refine s_memN (m_box BX_ LEN_) APP_ rfl ?_
  refine s_memN (m_alloc al_22 LEN_) APP_ rfl ?_
  refine s_nil ?_
  refine S_ ?_
  refine c_region ?_
  refine s_memN (m_alloc al_22 LEN_) APP_ rfl ?_
  refine s_nil ?_
  refine S_ ?_
  refine c_region ?_
  refine s_val (v_assignC rfl) rfl ?_
  refine s_nil ?_
  refine S_ ?_
  refine c_loopC [1, 2, 3, 4] (fun (zz : Nat × List (BitVec 8)) => ⟨22, keepT [1, 2, 3, 4] [.c (.ptr 0 0), .c (.ptr 1 0), .c (.ptr 2 0), .c (.val (.int .i64 (((zz.1 : Nat) : Int))))], [.row true (.a64 (n)), .row true (.a8 (zer8 32)), .row true (.a8 (zz.2))]⟩) (fun j3 => (j3, rfBytes_L3 n j3)) (32) (by kernel_rfl) ?_ ?_
  · intro j3 hj3
    try dsimp only
    have hX1 : (rfBytes_L3 n j3).length = 32 := by rw [rfBytes_L3_len n _]; try omega
    rw [rfBytes_L3.eq_2, rfBytes_L3_S]
    generalize rfBytes_L3 n j3 = X1 at *
    refine S_ ?_
    refine c_region ?_
    refine s_val (v_moveC rfl) rfl ?_
    refine s_val (v_lssN (b := 32) rfl rfl) rfl ?_
    refine s_nil ?_
    refine S_ ?_
    refine c_region ?_
    refine s_val (v_moveC rfl) rfl ?_
    refine s_val (v_moveC rfl) rfl ?_
    refine s_val (v_quoN (b := 8) rfl rfl (by omega) (by omega)) rfl ?_
    refine s_val (v_idxA1 rfl rfl Try.underlying38 sz_29 (by omega)) rfl ?_
    refine s_val (v_load64 rfl rfl row_29 LT_) rfl ?_
    refine s_val (v_moveC rfl) rfl ?_
    refine s_val (v_remN (b := 8) rfl rfl (by omega) (by omega)) rfl ?_
    refine s_val (v_mulN (a := 8) rfl rfl (by omega)) rfl ?_
    refine s_val (v_conv rfl Try.underlying3 Try.underlying51 (wi_64 _)) rfl ?_
    refine s_val (v_shr64w rfl rfl) rfl ?_
    refine s_val (v_conv rfl Try.underlying29 Try.underlying5 (w64_8 _)) rfl ?_
    refine s_val (v_idxA1 rfl rfl Try.underlying22 sz_5 (by omega)) rfl ?_
    refine s_store8 rfl rfl rfl sz_5 LT_ SET_ ?_
    refine s_nil ?_
    refine S_ ?_
    refine c_region ?_
    refine s_val (v_moveC rfl) rfl ?_
    refine s_val (v_addN (b := 1) rfl rfl (by omega)) rfl ?_
    refine s_val (v_assignC rfl) rfl ?_
    refine s_nil ?_
    exact ⟨(j3 + 1, _), by kernel_rfl, rfl⟩
  · try dsimp only
    have hY2 : (rfBytes_L3 n 32).length = 32 := by rw [rfBytes_L3_len n _]; try omega
    generalize rfBytes_L3 n 32 = Y2 at *
    refine S_ ?_
    refine c_region ?_
    refine s_val (v_moveC rfl) rfl ?_
    refine s_val (v_lssN (a := 32) (b := 32) rfl rfl) rfl ?_
    refine s_nil ?_
    refine S_ ?_
    refine c_region ?_
    refine s_val (v_loadR rfl rfl row_22 sz_22 EQ_ (by decide)) rfl ?_
    refine s_storeR rfl rfl rfl rfl sz_22 EQ_ EQ_ SET_ ?_
    refine s_nil ?_
    refine S_ ?_
    rw [hP.out]
    exact k_1 (r_row rfl rfl row_22 sz_22 EQ_ (by decide)) (by first | kernel_rfl | rfl)

@[simp] theorem rfBytes_len (n : List (BitVec 64)) (hn : n.length = 4) : (rfBytes n).length = 32 := by
  unfold rfBytes
  first | (simp [rfBytes_L3_len, *]; done) | (simp [rfBytes_L3_len, *]; omega)

attribute [irreducible] rfBytes

def rfP  : List (BitVec 64) := [18446744073709551597#64, 18446744073709551615#64, 18446744073709551615#64, 9223372036854775807#64]
set_option maxRecDepth 100000 in
set_option maxHeartbeats 2000000 in
theorem rfP_ev   : Ev Try.prog (.call 52 [] []) (.val (.agg (.a64 (rfP))) []) := by
  have hP : Hid (rfP = [18446744073709551597#64, 18446744073709551615#64, 18446744073709551615#64, 9223372036854775807#64]) := ⟨rfl⟩
  refine c_call Try.func52 rfl Try.ntmps52 rfl LEN_ ?_
  refine S_ ?_
  refine c_region ?_
  refine s_memN (m_alloc al_38 LEN_) APP_ rfl ?_
  refine s_nil ?_
  refine S_ ?_
  refine c_region ?_
  refine s_val (v_bld64 (l := [18446744073709551597#64, 18446744073709551615#64, 18446744073709551615#64, 9223372036854775807#64]) zc_38 Try.underlying38 sz_29 rfl rfl (by decide)) rfl ?_
  refine s_storeR rfl rfl rfl rfl sz_38 EQ_ EQ_ SET_ ?_
  refine s_nil ?_
  refine S_ ?_
  rw [hP.out]
  exact k_1 (r_row rfl rfl row_38 sz_38 EQ_ (by decide)) (by first | kernel_rfl | rfl)

@[simp] theorem rfP_len  : (rfP).length = 4 := by
  unfold rfP
  first | (simp [*]; done) | (simp [*]; omega)

attribute [irreducible] rfP

def rfadd_L4_S (a : List (BitVec 64)) (b : List (BitVec 64)) (X1 : BitVec 64) (X2 : List (BitVec 64)) (j4 : Nat) : BitVec 64 × List (BitVec 64) := (addC (nth a j4) (nth b j4) X1, put X2 j4 ((nth a j4) + (nth b j4) + X1))
def rfadd_L4 (a : List (BitVec 64)) (b : List (BitVec 64)) : Nat → BitVec 64 × List (BitVec 64)
  | 0 => (0#64, zer64 4)
  | j4 + 1 => rfadd_L4_S a b (rfadd_L4 a b j4).1 (rfadd_L4 a b j4).2 j4
theorem rfadd_L4_len1 (a : List (BitVec 64)) (b : List (BitVec 64)) (ha : a.length = 4) (hb : b.length = 4) (j4 : Nat) : (rfadd_L4 a b j4).2.length = 4 := by
  induction j4 with
  | zero => first | (simp [rfadd_L4, *]; done) | (simp [rfadd_L4, *]; omega)
  | succ j4 ih => rw [rfadd_L4.eq_2, rfadd_L4_S]; first | (simp [ih]; done) | (simp [ih]; omega) | (simp [*]; done) | (simp [*]; omega) | (split <;> first | (simp [ih]; done) | (simp [ih]; omega) | (simp [*]; done))
def rfadd0 (a : List (BitVec 64)) (b : List (BitVec 64)) : List (BitVec 64) := ((rfadd_L4 a b 4).2)
def rfadd1 (a : List (BitVec 64)) (b : List (BitVec 64)) : BitVec 64 := ((rfadd_L4 a b 4).1)
theorem rfadd_c (a b : List (BitVec 64)) (j : Nat) : (rfadd_L4 a b j).1.toNat ≤ 1 := by
  induction j with
  | zero => show (0#64).toNat ≤ 1; decide
  | succ j ih => rw [rfadd_L4.eq_2, rfadd_L4_S]; exact addC_le _ _ _ ih
set_option maxRecDepth 100000 in
set_option maxHeartbeats 2000000 in
theorem rfadd_ev (a : List (BitVec 64)) (b : List (BitVec 64)) (ha : a.length = 4) (hb : b.length = 4) : Ev Try.prog (.call 81 [.agg (.a64 (a)), .agg (.a64 (b))] []) (.val (.tup [.agg (.a64 (rfadd0 a b)), .c (.val (U64 (rfadd1 a b)))]) []) := by
  have hP_rfadd0 : Hid (rfadd0 a b = ((rfadd_L4 a b 4).2)) := ⟨rfl⟩
  have hP_rfadd1 : Hid (rfadd1 a b = ((rfadd_L4 a b 4).1)) := ⟨rfl⟩
  refine c_call Try.func81 rfl Try.ntmps81 rfl LEN_ ?_
  refine S_ ?_
  refine c_region ?_
  refine s_memN (m_box BX_ LEN_) APP_ rfl ?_
  refine s_memN (m_box BX_ LEN_) APP_ rfl ?_
  refine s_memN (m_alloc al_38 LEN_) APP_ rfl ?_
  refine s_val (v_assignC rfl) rfl ?_
  refine s_nil ?_
  refine S_ ?_
  refine c_region ?_
  refine s_val (v_assignC rfl) rfl ?_
  refine s_nil ?_
  refine S_ ?_
  refine c_region ?_
  refine s_memN (m_alloc al_38 LEN_) APP_ rfl ?_
  refine s_nil ?_
  refine S_ ?_
  refine c_region ?_
  refine s_val (v_assignC rfl) rfl ?_
  refine s_nil ?_
  refine S_ ?_
  refine c_loopC [2, 3, 4, 6, 7, 8] (fun (zz : Nat × BitVec 64 × List (BitVec 64)) => ⟨28, keepT [2, 3, 4, 6, 7, 8] [.c (.ptr 0 0), .c (.ptr 1 0), .c (.ptr 2 0), .c (.val (U64 (zz.2.1))), .c (.ptr 3 0), .c (.val (.int .i64 (((zz.1 : Nat) : Int))))], [.row true (.a64 (a)), .row true (.a64 (b)), .row true (.a64 (zer64 4)), .row true (.a64 (zz.2.2))]⟩) (fun j4 => (j4, rfadd_L4 a b j4)) (4) (by kernel_rfl) ?_ ?_
  · intro j4 hj4
    try dsimp only
    have hX2 : (rfadd_L4 a b j4).2.length = 4 := by rw [rfadd_L4_len1 a b ha hb _]; try omega
    have hc := rfadd_c a b j4
    rw [rfadd_L4.eq_2, rfadd_L4_S]
    generalize rfadd_L4 a b j4 = Z3 at *
    obtain ⟨X1, X2⟩ := Z3
    try dsimp only at *
    refine S_ ?_
    refine c_region ?_
    refine s_val (v_moveC rfl) rfl ?_
    refine s_val (v_lssN (b := 4) rfl rfl) rfl ?_
    refine s_nil ?_
    refine S_ ?_
    refine c_stores2 [3] mixed (by kernel_rfl) ?_
    refine x_val (v_moveC rfl) rfl ?_
    refine x_val (v_moveC rfl) rfl ?_
    refine x_val (v_idxA1 rfl rfl Try.underlying38 sz_29 (by omega)) rfl ?_
    first | refine x_val (v_load64 rfl rfl row_29 LT_) rfl ?_ | refine x_early (by kernel_rfl) (v_load64 rfl rfl row_29 LT_) rfl ?_
    refine x_val (v_moveC rfl) rfl ?_
    refine x_val (v_idxA1 rfl rfl Try.underlying38 sz_29 (by omega)) rfl ?_
    first | refine x_val (v_load64 rfl rfl row_29 LT_) rfl ?_ | refine x_early (by kernel_rfl) (v_load64 rfl rfl row_29 LT_) rfl ?_
    refine x_val (v_moveC rfl) rfl ?_
    refine x_call (by kernel_rfl) (e_add ext_71 rfl rfl rfl (rfl : _ = U64 (X1)) (by repeat (first | decide | assumption | apply addC_le | apply subC_le))) rfl ?_
    refine x_val (v_moveT rfl) rfl ?_
    refine x_val (v_extract rfl rfl) rfl ?_
    refine x_val (v_extract rfl rfl) rfl ?_
    refine x_val (v_idxA1 rfl rfl Try.underlying38 sz_29 (by omega)) rfl ?_
    refine x_store64 rfl rfl rfl rfl sz_29 LT_ SET_ ?_
    refine x_val (v_assignC rfl) rfl ?_
    refine x_nil ?_
    refine S_ ?_
    refine c_region ?_
    refine s_val (v_moveC rfl) rfl ?_
    refine s_val (v_addN (b := 1) rfl rfl (by omega)) rfl ?_
    refine s_val (v_assignC rfl) rfl ?_
    refine s_nil ?_
    exact ⟨(j4 + 1, _), by kernel_rfl, rfl⟩
  · try dsimp only
    have hY5 : (rfadd_L4 a b 4).2.length = 4 := by rw [rfadd_L4_len1 a b ha hb _]; try omega
    have hc := rfadd_c a b 4
    generalize rfadd_L4 a b 4 = Z6 at *
    obtain ⟨Y4, Y5⟩ := Z6
    try dsimp only at *
    refine S_ ?_
    refine c_region ?_
    refine s_val (v_moveC rfl) rfl ?_
    refine s_val (v_lssN (a := 4) (b := 4) rfl rfl) rfl ?_
    refine s_nil ?_
    refine S_ ?_
    refine c_region ?_
    refine s_val (v_loadR rfl rfl row_38 sz_38 EQ_ (by decide)) rfl ?_
    refine s_val (v_moveC rfl) rfl ?_
    refine s_storeR rfl rfl rfl rfl sz_38 EQ_ EQ_ SET_ ?_
    refine s_val (v_assignC rfl) rfl ?_
    refine s_nil ?_
    refine S_ ?_
    rw [hP_rfadd0.out, hP_rfadd1.out]
    exact k_2 (r_row rfl rfl row_38 sz_38 EQ_ (by decide)) (by first | exact r_tmpC rfl | exact r_tmpA rfl) (by first | kernel_rfl | rfl)

@[simp] theorem rfadd0_len (a : List (BitVec 64)) (b : List (BitVec 64)) (ha : a.length = 4) (hb : b.length = 4) : (rfadd0 a b).length = 4 := by
  unfold rfadd0
  first | (simp [rfadd_L4_len1, *]; done) | (simp [rfadd_L4_len1, *]; omega)

attribute [irreducible] rfadd0

attribute [irreducible] rfadd1

def rfsub_L4_S (a : List (BitVec 64)) (b : List (BitVec 64)) (X1 : BitVec 64) (X2 : List (BitVec 64)) (j4 : Nat) : BitVec 64 × List (BitVec 64) := (subC (nth a j4) (nth b j4) X1, put X2 j4 ((nth a j4) - (nth b j4) - X1))
def rfsub_L4 (a : List (BitVec 64)) (b : List (BitVec 64)) : Nat → BitVec 64 × List (BitVec 64)
  | 0 => (0#64, zer64 4)
  | j4 + 1 => rfsub_L4_S a b (rfsub_L4 a b j4).1 (rfsub_L4 a b j4).2 j4
theorem rfsub_L4_len1 (a : List (BitVec 64)) (b : List (BitVec 64)) (ha : a.length = 4) (hb : b.length = 4) (j4 : Nat) : (rfsub_L4 a b j4).2.length = 4 := by
  induction j4 with
  | zero => first | (simp [rfsub_L4, *]; done) | (simp [rfsub_L4, *]; omega)
  | succ j4 ih => rw [rfsub_L4.eq_2, rfsub_L4_S]; first | (simp [ih]; done) | (simp [ih]; omega) | (simp [*]; done) | (simp [*]; omega) | (split <;> first | (simp [ih]; done) | (simp [ih]; omega) | (simp [*]; done))
def rfsub0 (a : List (BitVec 64)) (b : List (BitVec 64)) : List (BitVec 64) := ((rfsub_L4 a b 4).2)
def rfsub1 (a : List (BitVec 64)) (b : List (BitVec 64)) : BitVec 64 := ((rfsub_L4 a b 4).1)
theorem rfsub_c (a b : List (BitVec 64)) (j : Nat) : (rfsub_L4 a b j).1.toNat ≤ 1 := by
  cases j with
  | zero => show (0#64).toNat ≤ 1; decide
  | succ j => rw [rfsub_L4.eq_2, rfsub_L4_S]; exact subC_le _ _ _
set_option maxRecDepth 100000 in
set_option maxHeartbeats 2000000 in
theorem rfsub_ev (a : List (BitVec 64)) (b : List (BitVec 64)) (ha : a.length = 4) (hb : b.length = 4) : Ev Try.prog (.call 80 [.agg (.a64 (a)), .agg (.a64 (b))] []) (.val (.tup [.agg (.a64 (rfsub0 a b)), .c (.val (U64 (rfsub1 a b)))]) []) := by
  have hP_rfsub0 : Hid (rfsub0 a b = ((rfsub_L4 a b 4).2)) := ⟨rfl⟩
  have hP_rfsub1 : Hid (rfsub1 a b = ((rfsub_L4 a b 4).1)) := ⟨rfl⟩
  refine c_call Try.func80 rfl Try.ntmps80 rfl LEN_ ?_
  refine S_ ?_
  refine c_region ?_
  refine s_memN (m_box BX_ LEN_) APP_ rfl ?_
  refine s_memN (m_box BX_ LEN_) APP_ rfl ?_
  refine s_memN (m_alloc al_38 LEN_) APP_ rfl ?_
  refine s_val (v_assignC rfl) rfl ?_
  refine s_nil ?_
  refine S_ ?_
  refine c_region ?_
  refine s_val (v_assignC rfl) rfl ?_
  refine s_nil ?_
  refine S_ ?_
  refine c_region ?_
  refine s_memN (m_alloc al_38 LEN_) APP_ rfl ?_
  refine s_nil ?_
  refine S_ ?_
  refine c_region ?_
  refine s_val (v_assignC rfl) rfl ?_
  refine s_nil ?_
  refine S_ ?_
  refine c_loopC [2, 3, 4, 6, 7, 8] (fun (zz : Nat × BitVec 64 × List (BitVec 64)) => ⟨28, keepT [2, 3, 4, 6, 7, 8] [.c (.ptr 0 0), .c (.ptr 1 0), .c (.ptr 2 0), .c (.val (U64 (zz.2.1))), .c (.ptr 3 0), .c (.val (.int .i64 (((zz.1 : Nat) : Int))))], [.row true (.a64 (a)), .row true (.a64 (b)), .row true (.a64 (zer64 4)), .row true (.a64 (zz.2.2))]⟩) (fun j4 => (j4, rfsub_L4 a b j4)) (4) (by kernel_rfl) ?_ ?_
  · intro j4 hj4
    try dsimp only
    have hX2 : (rfsub_L4 a b j4).2.length = 4 := by rw [rfsub_L4_len1 a b ha hb _]; try omega
    have hc := rfsub_c a b j4
    rw [rfsub_L4.eq_2, rfsub_L4_S]
    generalize rfsub_L4 a b j4 = Z3 at *
    obtain ⟨X1, X2⟩ := Z3
    try dsimp only at *
    refine S_ ?_
    refine c_region ?_
    refine s_val (v_moveC rfl) rfl ?_
    refine s_val (v_lssN (b := 4) rfl rfl) rfl ?_
    refine s_nil ?_
    refine S_ ?_
    refine c_stores2 [3] mixed (by kernel_rfl) ?_
    refine x_val (v_moveC rfl) rfl ?_
    refine x_val (v_moveC rfl) rfl ?_
    refine x_val (v_idxA1 rfl rfl Try.underlying38 sz_29 (by omega)) rfl ?_
    first | refine x_val (v_load64 rfl rfl row_29 LT_) rfl ?_ | refine x_early (by kernel_rfl) (v_load64 rfl rfl row_29 LT_) rfl ?_
    refine x_val (v_moveC rfl) rfl ?_
    refine x_val (v_idxA1 rfl rfl Try.underlying38 sz_29 (by omega)) rfl ?_
    first | refine x_val (v_load64 rfl rfl row_29 LT_) rfl ?_ | refine x_early (by kernel_rfl) (v_load64 rfl rfl row_29 LT_) rfl ?_
    refine x_val (v_moveC rfl) rfl ?_
    refine x_call (by kernel_rfl) (e_sub ext_87 rfl rfl rfl (rfl : _ = U64 (X1)) (by repeat (first | decide | assumption | apply addC_le | apply subC_le))) rfl ?_
    refine x_val (v_moveT rfl) rfl ?_
    refine x_val (v_extract rfl rfl) rfl ?_
    refine x_val (v_extract rfl rfl) rfl ?_
    refine x_val (v_idxA1 rfl rfl Try.underlying38 sz_29 (by omega)) rfl ?_
    refine x_store64 rfl rfl rfl rfl sz_29 LT_ SET_ ?_
    refine x_val (v_assignC rfl) rfl ?_
    refine x_nil ?_
    refine S_ ?_
    refine c_region ?_
    refine s_val (v_moveC rfl) rfl ?_
    refine s_val (v_addN (b := 1) rfl rfl (by omega)) rfl ?_
    refine s_val (v_assignC rfl) rfl ?_
    refine s_nil ?_
    exact ⟨(j4 + 1, _), by kernel_rfl, rfl⟩
  · try dsimp only
    have hY5 : (rfsub_L4 a b 4).2.length = 4 := by rw [rfsub_L4_len1 a b ha hb _]; try omega
    have hc := rfsub_c a b 4
    generalize rfsub_L4 a b 4 = Z6 at *
    obtain ⟨Y4, Y5⟩ := Z6
    try dsimp only at *
    refine S_ ?_
    refine c_region ?_
    refine s_val (v_moveC rfl) rfl ?_
    refine s_val (v_lssN (a := 4) (b := 4) rfl rfl) rfl ?_
    refine s_nil ?_
    refine S_ ?_
    refine c_region ?_
    refine s_val (v_loadR rfl rfl row_38 sz_38 EQ_ (by decide)) rfl ?_
    refine s_val (v_moveC rfl) rfl ?_
    refine s_storeR rfl rfl rfl rfl sz_38 EQ_ EQ_ SET_ ?_
    refine s_val (v_assignC rfl) rfl ?_
    refine s_nil ?_
    refine S_ ?_
    rw [hP_rfsub0.out, hP_rfsub1.out]
    exact k_2 (r_row rfl rfl row_38 sz_38 EQ_ (by decide)) (by first | exact r_tmpC rfl | exact r_tmpA rfl) (by first | kernel_rfl | rfl)

@[simp] theorem rfsub0_len (a : List (BitVec 64)) (b : List (BitVec 64)) (ha : a.length = 4) (hb : b.length = 4) : (rfsub0 a b).length = 4 := by
  unfold rfsub0
  first | (simp [rfsub_L4_len1, *]; done) | (simp [rfsub_L4_len1, *]; omega)

attribute [irreducible] rfsub0

attribute [irreducible] rfsub1


set_option maxRecDepth 100000 in
set_option maxHeartbeats 2000000 in
theorem rfless_ev (a : List (BitVec 64)) (b : List (BitVec 64)) (ha : a.length = 4) (hb : b.length = 4) : Ev Try.prog (.call 51 [.agg (.a64 (a)), .agg (.a64 (b))] []) (.val (.c (.val (.bool (((rfsub1 a b) == 1#64))))) []) := by
  refine c_call Try.func51 rfl Try.ntmps51 rfl LEN_ ?_
  refine S_ ?_
  refine c_region ?_
  refine s_memN (m_box BX_ LEN_) APP_ rfl ?_
  refine s_memN (m_box BX_ LEN_) APP_ rfl ?_
  refine s_val (v_assignC rfl) rfl ?_
  refine s_nil ?_
  have hQ1 : (rfsub0 a b).length = 4 := LQ_
  refine S_ ?_
  refine c_region ?_
  refine s_val (v_loadR rfl rfl row_38 sz_38 EQ_ (by decide)) rfl ?_
  refine s_val (v_loadR rfl rfl row_38 sz_38 EQ_ (by decide)) rfl ?_
  refine s_evN (e_callR (bs := []) (rfsub_ev a b HYP_ HYP_) ok_80 (by kernel_rfl) (by kernel_rfl) rfl VAL_) APP_ rfl ?_
  refine s_val (v_moveT rfl) rfl ?_
  refine s_val (v_extract rfl rfl) rfl ?_
  refine s_val (v_extract rfl rfl) rfl ?_
  refine s_memN (m_alloc al_38 LEN_) APP_ rfl ?_
  refine s_storeR rfl rfl rfl rfl sz_38 EQ_ EQ_ SET_ ?_
  refine s_val (v_assignC rfl) rfl ?_
  refine s_nil ?_
  refine S_ ?_
  refine c_region ?_
  refine s_val (v_moveC rfl) rfl ?_
  refine s_val (v_eql64 (b := 1#64) rfl rfl) rfl ?_
  refine s_val (v_assignC rfl) rfl ?_
  refine s_nil ?_
  refine S_ ?_
  exact k_1 (by first | exact r_tmpC rfl | exact r_tmpA rfl) (by first | kernel_rfl | rfl)

def rfMod_L2_S (X1 : List (BitVec 64)) : List (BitVec 64) := (if (!((rfsub1 X1 rfP) == 1#64)) = true then rfsub0 X1 rfP else X1)
def rfMod_L2 (a : List (BitVec 64)) : Nat → List (BitVec 64)
  | 0 => a
  | j2 + 1 => rfMod_L2_S (rfMod_L2 a j2)
theorem rfMod_L2_len (a : List (BitVec 64)) (ha : a.length = 4) (j2 : Nat) : (rfMod_L2 a j2).length = 4 := by
  induction j2 with
  | zero => first | (simp [rfMod_L2, *]; done) | (simp [rfMod_L2, *]; omega)
  | succ j2 ih => rw [rfMod_L2.eq_2, rfMod_L2_S]; first | (simp [ih]; done) | (simp [ih]; omega) | (simp [*]; done) | (simp [*]; omega) | (split <;> first | (simp [ih]; done) | (simp [ih]; omega) | (simp [*]; done))
def rfMod (a : List (BitVec 64)) : List (BitVec 64) := (rfMod_L2 a 3)
set_option maxRecDepth 100000 in
set_option maxHeartbeats 2000000 in
theorem rfMod_ev (a : List (BitVec 64)) (ha : a.length = 4) : Ev Try.prog (.call 82 [.agg (.a64 (a))] []) (.val (.agg (.a64 (rfMod a))) []) := by
  have hP : Hid (rfMod a = (rfMod_L2 a 3)) := ⟨rfl⟩
  refine c_call Try.func82 rfl Try.ntmps82 rfl LEN_ ?_
  refine S_ ?_
  refine c_region ?_
  refine s_memN (m_box BX_ LEN_) APP_ rfl ?_
  refine s_memN (m_alloc al_38 LEN_) APP_ rfl ?_
  refine s_nil ?_
  refine S_ ?_
  refine c_region ?_
  refine s_val (v_assignC rfl) rfl ?_
  refine s_nil ?_
  refine S_ ?_
  refine c_loopC [1, 2, 3] (fun (zz : Nat × List (BitVec 64)) => ⟨19, keepT [1, 2, 3] [.c (.ptr 0 0), .c (.ptr 1 0), .c (.val (.int .i64 (((zz.1 : Nat) : Int))))], [.row true (.a64 (zz.2)), .row true (.a64 (zer64 4))]⟩) (fun j2 => (j2, rfMod_L2 a j2)) (3) (by kernel_rfl) ?_ ?_
  · intro j2 hj2
    try dsimp only
    have hX1 : (rfMod_L2 a j2).length = 4 := by rw [rfMod_L2_len a ha _]; try omega
    rw [rfMod_L2.eq_2, rfMod_L2_S]
    generalize rfMod_L2 a j2 = X1 at *
    refine S_ ?_
    refine c_region ?_
    refine s_val (v_moveC rfl) rfl ?_
    refine s_val (v_lssN (b := 3) rfl rfl) rfl ?_
    refine s_nil ?_
    have hQ2 : (rfP).length = 4 := LQ_
    refine S_ ?_
    refine c_draw 4 mixed (by kernel_rfl) rfl rfl rfl ?_
    refine h_val (v_loadR rfl rfl row_38 sz_38 EQ_ (by decide)) rfl ?_
    refine h_evN (e_callR (bs := []) (rfP_ev) ok_52 (by kernel_rfl) (by kernel_rfl) rfl VAL_) APP_ rfl ?_
    refine h_evN (e_callR (bs := []) (rfless_ev X1 rfP HYP_ HYP_) ok_51 (by kernel_rfl) (by kernel_rfl) rfl VAL_) APP_ rfl ?_
    refine h_val (v_unnotB rfl) rfl ?_
    refine h_nil ?_
    refine s_nil ?_
    refine Q_ ?_
    refine c_join [1, 2, 3] (fun (zz : List (BitVec 64)) => ⟨19, keepT [1, 2, 3] [.c (.ptr 0 0), .c (.ptr 1 0), .c (.val (.int .i64 (((j2 : Nat) : Int))))], [.row true (.a64 (zz)), .row true (.a64 (zer64 4))]⟩) (if (!((rfsub1 X1 rfP) == 1#64)) = true then rfsub0 X1 rfP else X1) rfl (fun hb => ?_) (fun hb => ?_) ?_
    · -- the test is True
      have hQ4 : (rfP).length = 4 := LQ_
      have hQ5 : (rfsub0 X1 rfP).length = 4 := LQ_
      refine S_ ?_
      refine c_stores2 [0] mixed (by kernel_rfl) ?_
      first | refine x_val (v_loadR rfl rfl row_38 sz_38 EQ_ (by decide)) rfl ?_ | refine x_early (by kernel_rfl) (v_loadR rfl rfl row_38 sz_38 EQ_ (by decide)) rfl ?_
      refine x_call (by kernel_rfl) (e_callR (bs := []) (rfP_ev) ok_52 (by kernel_rfl) (by kernel_rfl) rfl VAL_) rfl ?_
      refine x_call (by kernel_rfl) (e_callR (bs := []) (rfsub_ev X1 rfP HYP_ HYP_) ok_80 (by kernel_rfl) (by kernel_rfl) rfl VAL_) rfl ?_
      refine x_val (v_moveT rfl) rfl ?_
      refine x_val (v_extract rfl rfl) rfl ?_
      refine x_val (v_extract rfl rfl) rfl ?_
      refine x_storeR rfl rfl rfl rfl rfl sz_38 EQ_ EQ_ SET_ ?_
      refine x_nil ?_
      refine S_ ?_
      refine ⟨(rfsub0 X1 rfP), by kernel_rfl, ?_⟩
      rw [if_pos (hb)]
    · -- the test is False
      refine S_ ?_
      refine ⟨X1, by kernel_rfl, ?_⟩
      rw [if_neg (by first | (rw [hb]; decide) | simp [hb])]
    have hJ3 : (if (!((rfsub1 X1 rfP) == 1#64)) = true then rfsub0 X1 rfP else X1).length = 4 := by split <;> simp [*]
    generalize (if (!((rfsub1 X1 rfP) == 1#64)) = true then rfsub0 X1 rfP else X1) = J3 at *
    refine S_ ?_
    refine c_region ?_
    refine s_val (v_moveC rfl) rfl ?_
    refine s_val (v_addN (b := 1) rfl rfl (by omega)) rfl ?_
    refine s_val (v_assignC rfl) rfl ?_
    refine s_nil ?_
    exact ⟨(j2 + 1, _), by kernel_rfl, rfl⟩
  · try dsimp only
    have hY6 : (rfMod_L2 a 3).length = 4 := by rw [rfMod_L2_len a ha _]; try omega
    generalize rfMod_L2 a 3 = Y6 at *
    refine S_ ?_
    refine c_region ?_
    refine s_val (v_moveC rfl) rfl ?_
    refine s_val (v_lssN (a := 3) (b := 3) rfl rfl) rfl ?_
    refine s_nil ?_
    refine S_ ?_
    refine c_region ?_
    refine s_val (v_loadR rfl rfl row_38 sz_38 EQ_ (by decide)) rfl ?_
    refine s_storeR rfl rfl rfl rfl sz_38 EQ_ EQ_ SET_ ?_
    refine s_nil ?_
    refine S_ ?_
    rw [hP.out]
    exact k_1 (r_row rfl rfl row_38 sz_38 EQ_ (by decide)) (by first | kernel_rfl | rfl)

@[simp] theorem rfMod_len (a : List (BitVec 64)) (ha : a.length = 4) : (rfMod a).length = 4 := by
  unfold rfMod
  first | (simp [rfMod_L2_len, *]; done) | (simp [rfMod_L2_len, *]; omega)

attribute [irreducible] rfMod
end Go.Proofs.Ytcekjmejppemeaa
/- trystref06.Sub, trystref06.times (Drawn up by a program.) -/
namespace Go.Proofs.Ytcekjmejppemeaa
open Go.RowKit
def rfSub (a : List (BitVec 64)) (b : List (BitVec 64)) : List (BitVec 64) := rfMod (rfsub0 (rfadd0 (rfMod a) rfP) (rfMod b))
set_option maxRecDepth 100000 in
set_option maxHeartbeats 2000000 in
theorem rfSub_ev (a : List (BitVec 64)) (b : List (BitVec 64)) (ha : a.length = 4) (hb : b.length = 4) : Ev Try.prog (.call 55 [.agg (.a64 (a)), .agg (.a64 (b))] []) (.val (.agg (.a64 (rfSub a b))) []) := by
  have hP : Hid (rfSub a b = rfMod (rfsub0 (rfadd0 (rfMod a) rfP) (rfMod b))) := ⟨rfl⟩
  refine c_call Try.func55 rfl Try.ntmps55 rfl LEN_ ?_
  refine S_ ?_
  refine c_region ?_
  refine s_memN (m_box BX_ LEN_) APP_ rfl ?_
  refine s_memN (m_box BX_ LEN_) APP_ rfl ?_
  refine s_memN (m_alloc al_38 LEN_) APP_ rfl ?_
  refine s_nil ?_
  have hQ1 : (rfMod a).length = 4 := LQ_
  have hQ2 : (rfP).length = 4 := LQ_
  have hQ3 : (rfadd0 (rfMod a) rfP).length = 4 := LQ_
  refine S_ ?_
  refine c_region ?_
  refine s_val (v_loadR rfl rfl row_38 sz_38 EQ_ (by decide)) rfl ?_
  refine s_evN (e_callR (bs := []) (rfMod_ev a HYP_) ok_82 (by kernel_rfl) (by kernel_rfl) rfl VAL_) APP_ rfl ?_
  refine s_evN (e_callR (bs := []) (rfP_ev) ok_52 (by kernel_rfl) (by kernel_rfl) rfl VAL_) APP_ rfl ?_
  refine s_evN (e_callR (bs := []) (rfadd_ev (rfMod a) rfP HYP_ HYP_) ok_81 (by kernel_rfl) (by kernel_rfl) rfl VAL_) APP_ rfl ?_
  refine s_val (v_moveT rfl) rfl ?_
  refine s_val (v_extract rfl rfl) rfl ?_
  refine s_val (v_extract rfl rfl) rfl ?_
  refine s_memN (m_alloc al_38 LEN_) APP_ rfl ?_
  refine s_storeR rfl rfl rfl rfl sz_38 EQ_ EQ_ SET_ ?_
  refine s_val (v_assignC rfl) rfl ?_
  refine s_nil ?_
  have hQ4 : (rfMod b).length = 4 := LQ_
  have hQ5 : (rfsub0 (rfadd0 (rfMod a) rfP) (rfMod b)).length = 4 := LQ_
  refine S_ ?_
  refine c_stores2 [3] mixed (by kernel_rfl) ?_
  first | refine x_val (v_loadR rfl rfl row_38 sz_38 EQ_ (by decide)) rfl ?_ | refine x_early (by kernel_rfl) (v_loadR rfl rfl row_38 sz_38 EQ_ (by decide)) rfl ?_
  first | refine x_val (v_loadR rfl rfl row_38 sz_38 EQ_ (by decide)) rfl ?_ | refine x_early (by kernel_rfl) (v_loadR rfl rfl row_38 sz_38 EQ_ (by decide)) rfl ?_
  refine x_call (by kernel_rfl) (e_callR (bs := []) (rfMod_ev b HYP_) ok_82 (by kernel_rfl) (by kernel_rfl) rfl VAL_) rfl ?_
  refine x_call (by kernel_rfl) (e_callR (bs := []) (rfsub_ev (rfadd0 (rfMod a) rfP) (rfMod b) HYP_ HYP_) ok_80 (by kernel_rfl) (by kernel_rfl) rfl VAL_) rfl ?_
  refine x_val (v_moveT rfl) rfl ?_
  refine x_val (v_extract rfl rfl) rfl ?_
  refine x_val (v_extract rfl rfl) rfl ?_
  refine x_storeR rfl rfl rfl rfl rfl sz_38 EQ_ EQ_ SET_ ?_
  refine x_nil ?_
  have hQ6 : (rfMod (rfsub0 (rfadd0 (rfMod a) rfP) (rfMod b))).length = 4 := LQ_
  refine S_ ?_
  refine c_region ?_
  refine s_val (v_loadR rfl rfl row_38 sz_38 EQ_ (by decide)) rfl ?_
  refine s_evN (e_callR (bs := []) (rfMod_ev (rfsub0 (rfadd0 (rfMod a) rfP) (rfMod b)) HYP_) ok_82 (by kernel_rfl) (by kernel_rfl) rfl VAL_) APP_ rfl ?_
  refine s_storeR rfl rfl rfl rfl sz_38 EQ_ EQ_ SET_ ?_
  refine s_nil ?_
  refine S_ ?_
  rw [hP.out]
  exact k_1 (r_row rfl rfl row_38 sz_38 EQ_ (by decide)) (by first | kernel_rfl | rfl)

@[simp] theorem rfSub_len (a : List (BitVec 64)) (b : List (BitVec 64)) (ha : a.length = 4) (hb : b.length = 4) : (rfSub a b).length = 4 := by
  unfold rfSub
  first | (simp (maxDischargeDepth := 9) [*]; done) | (simp (maxDischargeDepth := 9) [*]; omega) | (split <;> (simp (maxDischargeDepth := 9) [*]; done))

attribute [irreducible] rfSub

def rfTimes_L7_S (a : List (BitVec 64)) (b : List (BitVec 64)) (j3 : Nat) (X2 : BitVec 64) (X3 : List (BitVec 64)) (j7 : Nat) : BitVec 64 × List (BitVec 64) := (((mul640 (nth a j3) (nth b j7)) + (addC (mul641 (nth a j3) (nth b j7)) (nth X3 (j3 + j7)) 0#64)) + (addC ((mul641 (nth a j3) (nth b j7)) + (nth X3 (j3 + j7)) + 0#64) X2 0#64), put X3 (j3 + j7) (((mul641 (nth a j3) (nth b j7)) + (nth X3 (j3 + j7)) + 0#64) + X2 + 0#64))
def rfTimes_L7 (a : List (BitVec 64)) (b : List (BitVec 64)) (X1 : List (BitVec 64)) (j3 : Nat) : Nat → BitVec 64 × List (BitVec 64)
  | 0 => (0#64, X1)
  | j7 + 1 => rfTimes_L7_S a b j3 (rfTimes_L7 a b X1 j3 j7).1 (rfTimes_L7 a b X1 j3 j7).2 j7
theorem rfTimes_L7_len1 (a : List (BitVec 64)) (b : List (BitVec 64)) (X1 : List (BitVec 64)) (j3 : Nat) (ha : a.length = 4) (hb : b.length = 4) (hX1 : X1.length = 8) (j7 : Nat) : (rfTimes_L7 a b X1 j3 j7).2.length = 8 := by
  induction j7 with
  | zero => first | (simp (maxDischargeDepth := 9) [rfTimes_L7, *]; done) | (simp (maxDischargeDepth := 9) [rfTimes_L7, *]; omega)
  | succ j7 ih => rw [rfTimes_L7.eq_2, rfTimes_L7_S]; first | (simp (maxDischargeDepth := 9) [ih]; done) | (simp (maxDischargeDepth := 9) [ih]; omega) | (simp (maxDischargeDepth := 9) [*]; done) | (simp (maxDischargeDepth := 9) [*]; omega) | (split <;> first | (simp (maxDischargeDepth := 9) [ih]; done) | (simp (maxDischargeDepth := 9) [ih]; omega) | (simp (maxDischargeDepth := 9) [*]; done))
def rfTimes_L3_S (a : List (BitVec 64)) (b : List (BitVec 64)) (X1 : List (BitVec 64)) (j3 : Nat) : List (BitVec 64) := put ((rfTimes_L7 a b X1 j3 4).2) (j3 + 4) ((rfTimes_L7 a b X1 j3 4).1)
def rfTimes_L3 (a : List (BitVec 64)) (b : List (BitVec 64)) : Nat → List (BitVec 64)
  | 0 => zer64 8
  | j3 + 1 => rfTimes_L3_S a b (rfTimes_L3 a b j3) j3
theorem rfTimes_L3_len (a : List (BitVec 64)) (b : List (BitVec 64)) (ha : a.length = 4) (hb : b.length = 4) (j3 : Nat) : (rfTimes_L3 a b j3).length = 8 := by
  induction j3 with
  | zero => first | (simp (maxDischargeDepth := 9) [rfTimes_L3, *]; done) | (simp (maxDischargeDepth := 9) [rfTimes_L3, *]; omega)
  | succ j3 ih => rw [rfTimes_L3.eq_2, rfTimes_L3_S]; first | (simp (maxDischargeDepth := 9) [ih]; done) | (simp (maxDischargeDepth := 9) [ih]; omega) | (simp (maxDischargeDepth := 9) [rfTimes_L7_len1, *]; done) | (simp (maxDischargeDepth := 9) [rfTimes_L7_len1, *]; omega) | (split <;> first | (simp (maxDischargeDepth := 9) [ih]; done) | (simp (maxDischargeDepth := 9) [ih]; omega) | (simp (maxDischargeDepth := 9) [rfTimes_L7_len1, *]; done))
def rfTimes (a : List (BitVec 64)) (b : List (BitVec 64)) : List (BitVec 64) := (rfTimes_L3 a b 4)
set_option maxRecDepth 100000 in
set_option maxHeartbeats 2000000 in
theorem rfTimes_ev (a : List (BitVec 64)) (b : List (BitVec 64)) (ha : a.length = 4) (hb : b.length = 4) : Ev Try.prog (.call 70 [.agg (.a64 (a)), .agg (.a64 (b))] []) (.val (.agg (.a64 (rfTimes a b))) []) := by
  have hP : Hid (rfTimes a b = (rfTimes_L3 a b 4)) := ⟨rfl⟩
  refine c_call Try.func70 rfl Try.ntmps70 rfl LEN_ ?_
  refine S_ ?_
  refine c_region ?_
  refine s_memN (m_box BX_ LEN_) APP_ rfl ?_
  refine s_memN (m_box BX_ LEN_) APP_ rfl ?_
  refine s_memN (m_alloc al_85 LEN_) APP_ rfl ?_
  refine s_nil ?_
  refine S_ ?_
  refine c_region ?_
  refine s_memN (m_alloc al_85 LEN_) APP_ rfl ?_
  refine s_nil ?_
  refine S_ ?_
  refine c_region ?_
  refine s_val (v_assignC rfl) rfl ?_
  refine s_nil ?_
  refine S_ ?_
  refine c_loopC [2, 3, 4, 5, 6] (fun (zz : Nat × List (BitVec 64)) => ⟨63, keepT [2, 3, 4, 5, 6] [.c (.ptr 0 0), .c (.ptr 1 0), .c (.ptr 2 0), .c (.ptr 3 0), .c (.val (.int .i64 (((zz.1 : Nat) : Int))))], [.row true (.a64 (a)), .row true (.a64 (b)), .row true (.a64 (zer64 8)), .row true (.a64 (zz.2))]⟩) (fun j3 => (j3, rfTimes_L3 a b j3)) (4) (by kernel_rfl) ?_ ?_
  · intro j3 hj3
    try dsimp only
    have hX1 : (rfTimes_L3 a b j3).length = 8 := by rw [rfTimes_L3_len a b ha hb _]; try omega
    rw [rfTimes_L3.eq_2, rfTimes_L3_S]
    generalize rfTimes_L3 a b j3 = X1 at *
    refine S_ ?_
    refine c_region ?_
    refine s_val (v_moveC rfl) rfl ?_
    refine s_val (v_lssN (b := 4) rfl rfl) rfl ?_
    refine s_nil ?_
    refine S_ ?_
    refine c_region ?_
    refine s_val (v_assignC rfl) rfl ?_
    refine s_nil ?_
    refine S_ ?_
    refine c_region ?_
    refine s_val (v_assignC rfl) rfl ?_
    refine s_nil ?_
    refine S_ ?_
    refine c_loopC [2, 3, 4, 5, 6, 7, 8] (fun (zz : Nat × BitVec 64 × List (BitVec 64)) => ⟨63, keepT [2, 3, 4, 5, 6, 7, 8] [.c (.ptr 0 0), .c (.ptr 1 0), .c (.ptr 2 0), .c (.ptr 3 0), .c (.val (.int .i64 (((j3 : Nat) : Int)))), .c (.val (U64 (zz.2.1))), .c (.val (.int .i64 (((zz.1 : Nat) : Int))))], [.row true (.a64 (a)), .row true (.a64 (b)), .row true (.a64 (zer64 8)), .row true (.a64 (zz.2.2))]⟩) (fun j7 => (j7, rfTimes_L7 a b X1 j3 j7)) (4) (by kernel_rfl) ?_ ?_
    · intro j7 hj7
      try dsimp only
      have hX3 : (rfTimes_L7 a b X1 j3 j7).2.length = 8 := by rw [rfTimes_L7_len1 a b X1 j3 ha hb hX1 _]; try omega
      rw [rfTimes_L7.eq_2, rfTimes_L7_S]
      generalize rfTimes_L7 a b X1 j3 j7 = Z4 at *
      obtain ⟨X2, X3⟩ := Z4
      try dsimp only at *
      refine S_ ?_
      refine c_region ?_
      refine s_val (v_moveC rfl) rfl ?_
      refine s_val (v_lssN (b := 4) rfl rfl) rfl ?_
      refine s_nil ?_
      refine S_ ?_
      refine c_draw 12 mixed (by kernel_rfl) rfl rfl rfl ?_
      refine h_val (v_moveC rfl) rfl ?_
      refine h_val (v_idxA1 rfl rfl Try.underlying38 sz_29 (by omega)) rfl ?_
      refine h_val (v_load64 rfl rfl row_29 LT_) rfl ?_
      refine h_val (v_moveC rfl) rfl ?_
      refine h_val (v_idxA1 rfl rfl Try.underlying38 sz_29 (by omega)) rfl ?_
      refine h_val (v_load64 rfl rfl row_29 LT_) rfl ?_
      refine h_evN (e_callR (bs := []) (mul64_ev (nth a j3) (nth b j7)) ok_77 (by kernel_rfl) (by kernel_rfl) rfl VAL_) APP_ rfl ?_
      refine h_val (v_moveT rfl) rfl ?_
      refine h_val (v_extract rfl rfl) rfl ?_
      refine h_val (v_extract rfl rfl) rfl ?_
      refine h_val (v_assignC rfl) rfl ?_
      refine h_val (v_assignC rfl) rfl ?_
      refine h_nil ?_
      refine s_nil ?_
      refine S_ ?_
      refine c_region ?_
      refine s_val (v_moveC rfl) rfl ?_
      refine s_val (v_moveC rfl) rfl ?_
      refine s_val (v_moveC rfl) rfl ?_
      refine s_val (v_addN rfl rfl (by omega)) rfl ?_
      refine s_val (v_idxA1 rfl rfl Try.underlying85 sz_29 (by omega)) rfl ?_
      refine s_val (v_load64 rfl rfl row_29 LT_) rfl ?_
      refine s_evN (e_add ext_71 rfl rfl rfl (rfl : _ = U64 (0#64)) (by decide)) APP_ rfl ?_
      refine s_val (v_moveT rfl) rfl ?_
      refine s_val (v_extract rfl rfl) rfl ?_
      refine s_val (v_extract rfl rfl) rfl ?_
      refine s_val (v_assignC rfl) rfl ?_
      refine s_val (v_assignC rfl) rfl ?_
      refine s_nil ?_
      refine S_ ?_
      refine c_region ?_
      refine s_val (v_moveC rfl) rfl ?_
      refine s_val (v_moveC rfl) rfl ?_
      refine s_val (v_add64 rfl rfl) rfl ?_
      refine s_val (v_assignC rfl) rfl ?_
      refine s_nil ?_
      refine S_ ?_
      refine c_region ?_
      refine s_val (v_moveC rfl) rfl ?_
      refine s_val (v_moveC rfl) rfl ?_
      refine s_evN (e_add ext_71 rfl rfl rfl (rfl : _ = U64 (0#64)) (by decide)) APP_ rfl ?_
      refine s_val (v_moveT rfl) rfl ?_
      refine s_val (v_extract rfl rfl) rfl ?_
      refine s_val (v_extract rfl rfl) rfl ?_
      refine s_val (v_assignC rfl) rfl ?_
      refine s_val (v_assignC rfl) rfl ?_
      refine s_nil ?_
      refine S_ ?_
      refine c_region ?_
      refine s_val (v_moveC rfl) rfl ?_
      refine s_val (v_moveC rfl) rfl ?_
      refine s_val (v_add64 rfl rfl) rfl ?_
      refine s_val (v_assignC rfl) rfl ?_
      refine s_nil ?_
      refine S_ ?_
      refine c_region ?_
      refine s_val (v_moveC rfl) rfl ?_
      refine s_val (v_moveC rfl) rfl ?_
      refine s_val (v_addN rfl rfl (by omega)) rfl ?_
      refine s_val (v_moveC rfl) rfl ?_
      refine s_val (v_moveC rfl) rfl ?_
      refine s_val (v_idxA1 rfl rfl Try.underlying85 sz_29 (by omega)) rfl ?_
      refine s_store64 rfl rfl rfl sz_29 LT_ SET_ ?_
      refine s_val (v_assignC rfl) rfl ?_
      refine s_nil ?_
      refine S_ ?_
      refine c_region ?_
      refine s_val (v_moveC rfl) rfl ?_
      refine s_val (v_addN (b := 1) rfl rfl (by omega)) rfl ?_
      refine s_val (v_assignC rfl) rfl ?_
      refine s_nil ?_
      exact ⟨(j7 + 1, _), by kernel_rfl, rfl⟩
    · try dsimp only
      have hY6 : (rfTimes_L7 a b X1 j3 4).2.length = 8 := by rw [rfTimes_L7_len1 a b X1 j3 ha hb hX1 _]; try omega
      generalize rfTimes_L7 a b X1 j3 4 = Z7 at *
      obtain ⟨Y5, Y6⟩ := Z7
      try dsimp only at *
      refine S_ ?_
      refine c_region ?_
      refine s_val (v_moveC rfl) rfl ?_
      refine s_val (v_lssN (a := 4) (b := 4) rfl rfl) rfl ?_
      refine s_nil ?_
      refine S_ ?_
      refine c_region ?_
      refine s_val (v_moveC rfl) rfl ?_
      refine s_val (v_addN (b := 4) rfl rfl (by omega)) rfl ?_
      refine s_val (v_moveC rfl) rfl ?_
      refine s_val (v_idxA1 rfl rfl Try.underlying85 sz_29 (by omega)) rfl ?_
      refine s_store64 rfl rfl rfl sz_29 LT_ SET_ ?_
      refine s_nil ?_
      refine S_ ?_
      refine c_region ?_
      refine s_val (v_moveC rfl) rfl ?_
      refine s_val (v_addN (b := 1) rfl rfl (by omega)) rfl ?_
      refine s_val (v_assignC rfl) rfl ?_
      refine s_nil ?_
      exact ⟨(j3 + 1, _), by kernel_rfl, rfl⟩
  · try dsimp only
    have hY8 : (rfTimes_L3 a b 4).length = 8 := by rw [rfTimes_L3_len a b ha hb _]; try omega
    generalize rfTimes_L3 a b 4 = Y8 at *
    refine S_ ?_
    refine c_region ?_
    refine s_val (v_moveC rfl) rfl ?_
    refine s_val (v_lssN (a := 4) (b := 4) rfl rfl) rfl ?_
    refine s_nil ?_
    refine S_ ?_
    refine c_region ?_
    refine s_val (v_loadR rfl rfl row_85 sz_85 EQ_ (by decide)) rfl ?_
    refine s_storeR rfl rfl rfl rfl sz_85 EQ_ EQ_ SET_ ?_
    refine s_nil ?_
    refine S_ ?_
    rw [hP.out]
    exact k_1 (r_row rfl rfl row_85 sz_85 EQ_ (by decide)) (by first | kernel_rfl | rfl)

@[simp] theorem rfTimes_len (a : List (BitVec 64)) (b : List (BitVec 64)) (ha : a.length = 4) (hb : b.length = 4) : (rfTimes a b).length = 8 := by
  unfold rfTimes
  first | (simp (maxDischargeDepth := 9) [rfTimes_L7_len1, rfTimes_L3_len, *]; done) | (simp (maxDischargeDepth := 9) [rfTimes_L7_len1, rfTimes_L3_len, *]; omega) | (split <;> (simp (maxDischargeDepth := 9) [rfTimes_L7_len1, rfTimes_L3_len, *]; done))

attribute [irreducible] rfTimes
end Go.Proofs.Ytcekjmejppemeaa
/- The reference's numbers of four words. No program in sight. -/
namespace Go.Proofs.Ytcekjmejppemeaa
open Go.RowKit
theorem four {a : List (BitVec 64)} (h : a.length = 4) : ∃ a0 a1 a2 a3, a = [a0, a1, a2, a3] := by
  match a, h with
  | [a0, a1, a2, a3], _ => exact ⟨_, _, _, _, rfl⟩
/-- The four words of a number. -/
def wordsOf (n : Nat) : List (BitVec 64) := [BitVec.ofNat 64 n, BitVec.ofNat 64 (n / 18446744073709551616), BitVec.ofNat 64 (n / 340282366920938463463374607431768211456), BitVec.ofNat 64 (n / 6277101735386680763835789423207666416102355444464034512896)]
@[simp] theorem wordsOf_len (n : Nat) : (wordsOf n).length = 4 := rfl
theorem wV_words (n : Nat) (h : n < 115792089237316195423570985008687907853269984665640564039457584007913129639936) : wV (wordsOf n) = n := by
  show (BitVec.ofNat 64 n).toNat + (BitVec.ofNat 64 (n / 18446744073709551616)).toNat * _ + (BitVec.ofNat 64 (n / 340282366920938463463374607431768211456)).toNat * _ + (BitVec.ofNat 64 (n / 6277101735386680763835789423207666416102355444464034512896)).toNat * _ = _
  simp only [BitVec.toNat_ofNat]
  omega
theorem wV_lt (a : List (BitVec 64)) : wV a < 115792089237316195423570985008687907853269984665640564039457584007913129639936 := by
  have h0 := (nth a 0).isLt
  have h1 := (nth a 1).isLt
  have h2 := (nth a 2).isLt
  have h3 := (nth a 3).isLt
  unfold wV
  omega
theorem words_wV {a : List (BitVec 64)} (h : a.length = 4) : wordsOf (wV a) = a := by
  obtain ⟨a0, a1, a2, a3, rfl⟩ := four h
  have h0 := a0.isLt
  have h1 := a1.isLt
  have h2 := a2.isLt
  have h3 := a3.isLt
  have e : wV [a0, a1, a2, a3] = a0.toNat + a1.toNat * 18446744073709551616 + a2.toNat * 340282366920938463463374607431768211456 + a3.toNat * 6277101735386680763835789423207666416102355444464034512896 := rfl
  unfold wordsOf
  rw [e]
  congr 1
  · apply BitVec.eq_of_toNat_eq; rw [BitVec.toNat_ofNat]; omega
  congr 1
  · apply BitVec.eq_of_toNat_eq; rw [BitVec.toNat_ofNat]; omega
  congr 1
  · apply BitVec.eq_of_toNat_eq; rw [BitVec.toNat_ofNat]; omega
  congr 1
  apply BitVec.eq_of_toNat_eq; rw [BitVec.toNat_ofNat]; omega
theorem wV_inj {a b : List (BitVec 64)} (ha : a.length = 4) (hb : b.length = 4) (h : wV a = wV b) : a = b := by
  rw [← words_wV ha, h, words_wV hb]
theorem addC_nat3 {x y c : BitVec 64} (hc : c.toNat ≤ 1) : (addC x y c).toNat = (x.toNat + y.toNat + c.toNat) / 18446744073709551616 := by
  have := x.isLt
  have := y.isLt
  unfold addC
  rw [BitVec.toNat_ofNat]
  omega
theorem add3 (x y c : BitVec 64) : (x + y + c).toNat = (x.toNat + y.toNat + c.toNat) % 18446744073709551616 := by
  rw [BitVec.toNat_add, BitVec.toNat_add]
  omega
theorem subC_nat3 (x y c : BitVec 64) : (subC x y c).toNat = if x.toNat < y.toNat + c.toNat then 1 else 0 := by
  unfold subC
  split <;> rfl
theorem sub3 (x y c : BitVec 64) : (x - y - c).toNat = (x.toNat + 36893488147419103232 - y.toNat - c.toNat) % 18446744073709551616 := by
  have := x.isLt
  have := y.isLt
  have := c.isLt
  rw [BitVec.toNat_sub, BitVec.toNat_sub]
  omega
theorem rfadd_val {a b : List (BitVec 64)} (ha : a.length = 4) (hb : b.length = 4) : wV (rfadd0 a b) + (rfadd1 a b).toNat * 115792089237316195423570985008687907853269984665640564039457584007913129639936 = wV a + wV b ∧ (rfadd1 a b).toNat ≤ 1 := by
  obtain ⟨a0, a1, a2, a3, rfl⟩ := four ha
  obtain ⟨b0, b1, b2, b3, rfl⟩ := four hb
  have z : (0#64 : BitVec 64).toNat = 0 := rfl
  have e0 : rfadd0 [a0, a1, a2, a3] [b0, b1, b2, b3] = [a0 + b0 + 0#64, a1 + b1 + addC a0 b0 0#64, a2 + b2 + addC a1 b1 (addC a0 b0 0#64), a3 + b3 + addC a2 b2 (addC a1 b1 (addC a0 b0 0#64))] := by unfold rfadd0; rfl
  have e1 : rfadd1 [a0, a1, a2, a3] [b0, b1, b2, b3] = addC a3 b3 (addC a2 b2 (addC a1 b1 (addC a0 b0 0#64))) := by unfold rfadd1; rfl
  rw [e0, e1]
  have c1 := addC_nat3 (x := a0) (y := b0) (c := 0#64) (by decide)
  have s0 := add3 a0 b0 0#64
  have l1 := addC_le a0 b0 0#64 (by decide)
  generalize addC a0 b0 0#64 = k1 at *
  have c2 := addC_nat3 (x := a1) (y := b1) (c := k1) l1
  have s1 := add3 a1 b1 k1
  have l2 := addC_le a1 b1 k1 l1
  generalize addC a1 b1 k1 = k2 at *
  have c3 := addC_nat3 (x := a2) (y := b2) (c := k2) l2
  have s2 := add3 a2 b2 k2
  have l3 := addC_le a2 b2 k2 l2
  generalize addC a2 b2 k2 = k3 at *
  have c4 := addC_nat3 (x := a3) (y := b3) (c := k3) l3
  have s3 := add3 a3 b3 k3
  have l4 := addC_le a3 b3 k3 l3
  generalize addC a3 b3 k3 = k4 at *
  refine ⟨?_, l4⟩
  show (a0 + b0 + 0#64).toNat + (a1 + b1 + k1).toNat * _ + (a2 + b2 + k2).toNat * _ + (a3 + b3 + k3).toNat * _ + _ = a0.toNat + a1.toNat * _ + a2.toNat * _ + a3.toNat * _ + (b0.toNat + b1.toNat * _ + b2.toNat * _ + b3.toNat * _)
  rw [s0, s1, s2, s3]
  omega
theorem rfsub_val {a b : List (BitVec 64)} (ha : a.length = 4) (hb : b.length = 4) : wV (rfsub0 a b) + wV b = wV a + (rfsub1 a b).toNat * 115792089237316195423570985008687907853269984665640564039457584007913129639936 ∧ (rfsub1 a b).toNat ≤ 1 := by
  obtain ⟨a0, a1, a2, a3, rfl⟩ := four ha
  obtain ⟨b0, b1, b2, b3, rfl⟩ := four hb
  have z : (0#64 : BitVec 64).toNat = 0 := rfl
  have e0 : rfsub0 [a0, a1, a2, a3] [b0, b1, b2, b3] = [a0 - b0 - 0#64, a1 - b1 - subC a0 b0 0#64, a2 - b2 - subC a1 b1 (subC a0 b0 0#64), a3 - b3 - subC a2 b2 (subC a1 b1 (subC a0 b0 0#64))] := by unfold rfsub0; rfl
  have e1 : rfsub1 [a0, a1, a2, a3] [b0, b1, b2, b3] = subC a3 b3 (subC a2 b2 (subC a1 b1 (subC a0 b0 0#64))) := by unfold rfsub1; rfl
  rw [e0, e1]
  have i0 := a0.isLt
  have i1 := a1.isLt
  have i2 := a2.isLt
  have i3 := a3.isLt
  have j0 := b0.isLt
  have j1 := b1.isLt
  have j2 := b2.isLt
  have j3 := b3.isLt
  have c1 := subC_nat3 a0 b0 0#64
  have s0 := sub3 a0 b0 0#64
  generalize subC a0 b0 0#64 = k1 at *
  have c2 := subC_nat3 a1 b1 k1
  have s1 := sub3 a1 b1 k1
  generalize subC a1 b1 k1 = k2 at *
  have c3 := subC_nat3 a2 b2 k2
  have s2 := sub3 a2 b2 k2
  generalize subC a2 b2 k2 = k3 at *
  have c4 := subC_nat3 a3 b3 k3
  have s3 := sub3 a3 b3 k3
  generalize subC a3 b3 k3 = k4 at *
  show (a0 - b0 - 0#64).toNat + (a1 - b1 - k1).toNat * _ + (a2 - b2 - k2).toNat * _ + (a3 - b3 - k3).toNat * _ + (b0.toNat + b1.toNat * _ + b2.toNat * _ + b3.toNat * _) = a0.toNat + a1.toNat * _ + a2.toNat * _ + a3.toNat * _ + _ ∧ _
  rw [s0, s1, s2, s3]
  rw [z] at *
  split at c1 <;> split at c2 <;> split at c3 <;> split at c4 <;> (rw [c1] at *; rw [c2] at *; rw [c3] at *; rw [c4]; constructor <;> omega)
/-- The reference's words of a number of the field. -/
def WF (u : Fp) : List (BitVec 64) := wordsOf u.val
def ZW (a : List (BitVec 64)) : Fp := zf (wV a)
@[simp] theorem WF_len (u : Fp) : (WF u).length = 4 := rfl
theorem WF_val (u : Fp) : wV (WF u) = u.val := wV_words _ (Nat.lt_trans u.isLt (by decide))
theorem ZW_WF (u : Fp) : ZW (WF u) = u := by unfold ZW; rw [WF_val, zf_self]
theorem WF_of {a : List (BitVec 64)} (h : a.length = 4) (hl : wV a < PP) : a = WF (ZW a) := by
  refine wV_inj h rfl ?_
  rw [WF_val]
  unfold ZW
  rw [zf_val, Nat.mod_eq_of_lt hl]
theorem rfadd_lenA (a b : List (BitVec 64)) : (rfadd0 a b).length = 4 := by
  have h : ∀ j, (rfadd_L4 a b j).2.length = 4 := fun j => by
    induction j with
    | zero => rfl
    | succ j ih => rw [rfadd_L4, rfadd_L4_S]; show (put _ _ _).length = 4; rw [put_length, ih]
  unfold rfadd0; exact h 4
theorem rfsub_lenB (a b : List (BitVec 64)) (_ : a.length = 4) : (rfsub0 a b).length = 4 := by
  have h : ∀ j, (rfsub_L4 a b j).2.length = 4 := fun j => by
    induction j with
    | zero => rfl
    | succ j ih => rw [rfsub_L4, rfsub_L4_S]; show (put _ _ _).length = 4; rw [put_length, ih]
  unfold rfsub0; exact h 4
theorem rfsub_lenA (a : List (BitVec 64)) (h : a.length = 4) : (rfsub0 a rfP).length = 4 ∧ True := ⟨rfsub_lenB a rfP h, trivial⟩
theorem rfP_val : wV rfP = PP := by decide +kernel
theorem mod_step {a : List (BitVec 64)} (h : a.length = 4) : (rfMod_L2_S a).length = 4 ∧ wV (rfMod_L2_S a) = if PP ≤ wV a then wV a - PP else wV a := by
  obtain ⟨e, hc⟩ := rfsub_val (a := a) (b := rfP) h (by simp)
  rw [rfP_val] at e
  have hl := wV_lt a
  have hs := wV_lt (rfsub0 a rfP)
  unfold rfMod_L2_S
  have hb : (rfsub1 a rfP == 1#64) = decide (¬ PP ≤ wV a) := by
    by_cases hp : PP ≤ wV a
    · rw [decide_eq_false (by simpa using hp), beq_eq_false_iff_ne]
      intro h1
      have h1' : (rfsub1 a rfP).toNat = 1 := by rw [h1]; rfl
      rw [h1'] at e
      change _ + 57896044618658097711785492504343953926634992332820282019728792003956564819949 = _ at e
      change 57896044618658097711785492504343953926634992332820282019728792003956564819949 ≤ _ at hp
      omega
    · rw [decide_eq_true hp, beq_iff_eq]
      apply BitVec.eq_of_toNat_eq
      change _ + 57896044618658097711785492504343953926634992332820282019728792003956564819949 = _ at e
      change ¬ 57896044618658097711785492504343953926634992332820282019728792003956564819949 ≤ _ at hp
      show (rfsub1 a rfP).toNat = 1
      omega
  rw [hb]
  by_cases hp : PP ≤ wV a
  · rw [decide_eq_false (by simpa using hp), if_pos (show (!false) = true from rfl), if_pos hp]
    refine ⟨(rfsub_lenA a h).1, ?_⟩
    change _ + 57896044618658097711785492504343953926634992332820282019728792003956564819949 = _ at e
    change 57896044618658097711785492504343953926634992332820282019728792003956564819949 ≤ _ at hp
    show _ = _ - 57896044618658097711785492504343953926634992332820282019728792003956564819949
    omega
  · rw [decide_eq_true hp, if_neg (by decide), if_neg hp]
    exact ⟨h, rfl⟩
theorem rfMod_W {a : List (BitVec 64)} (h : a.length = 4) : rfMod a = WF (ZW a) := by
  obtain ⟨l1, v1⟩ := mod_step h
  obtain ⟨l2, v2⟩ := mod_step l1
  obtain ⟨l3, v3⟩ := mod_step l2
  have hl := wV_lt a
  have e : rfMod a = rfMod_L2_S (rfMod_L2_S (rfMod_L2_S a)) := by unfold rfMod; rfl
  rw [e]
  have hz : ZW (rfMod_L2_S (rfMod_L2_S (rfMod_L2_S a))) = ZW a ∧ wV (rfMod_L2_S (rfMod_L2_S (rfMod_L2_S a))) < PP := by
    unfold ZW
    rw [zf_eq, v3, v2, v1]
    show (_ % 57896044618658097711785492504343953926634992332820282019728792003956564819949 = _ % 57896044618658097711785492504343953926634992332820282019728792003956564819949) ∧ _ < 57896044618658097711785492504343953926634992332820282019728792003956564819949
    simp only [show PP = 57896044618658097711785492504343953926634992332820282019728792003956564819949 from rfl]
    generalize wV a = x at *
    split <;> (try split) <;> (try split) <;> constructor <;> omega
  rw [← hz.1]
  exact WF_of l3 hz.2
theorem rfSub_W {a b : List (BitVec 64)} (ha : a.length = 4) (hb : b.length = 4) : rfSub a b = WF (ZW a - ZW b) := by
  unfold rfSub
  rw [rfMod_W ha, rfMod_W hb]
  generalize ZW a = u
  generalize ZW b = v
  obtain ⟨e1, c1⟩ := rfadd_val (a := WF u) (b := rfP) rfl (by simp)
  have l1 : (rfadd0 (WF u) rfP).length = 4 := rfadd_lenA _ _
  obtain ⟨e2, c2⟩ := rfsub_val (a := rfadd0 (WF u) rfP) (b := WF v) l1 rfl
  have l2 : (rfsub0 (rfadd0 (WF u) rfP) (WF v)).length = 4 := (rfsub_lenB _ _ l1)
  rw [rfMod_W l2]
  congr 1
  rw [WF_val, rfP_val] at e1
  rw [WF_val] at e2
  have hu := u.isLt
  have hv := v.isLt
  change _ = _ + 57896044618658097711785492504343953926634992332820282019728792003956564819949 at e1
  change _ < 57896044618658097711785492504343953926634992332820282019728792003956564819949 at hu
  change _ < 57896044618658097711785492504343953926634992332820282019728792003956564819949 at hv
  have b1 := wV_lt (rfadd0 (WF u) rfP)
  have b2 := wV_lt (rfsub0 (rfadd0 (WF u) rfP) (WF v))
  have hw : wV (rfsub0 (rfadd0 (WF u) rfP) (WF v)) + v.val = u.val + PP := by
    show _ = _ + 57896044618658097711785492504343953926634992332820282019728792003956564819949
    omega
  have hz : ZW (rfsub0 (rfadd0 (WF u) rfP) (WF v)) + v = u := by
    have := congrArg zf hw
    rw [zf_add, zf_add, zf_self, zf_self, zf_P] at this
    unfold ZW
    rw [this]
    grobner
  rw [← hz]
  grobner
/-- A sum of words, the lowest first. -/
def v64 (a : List (BitVec 64)) : Nat → Nat
  | 0 => 0
  | n + 1 => v64 a n + (nth a n).toNat * 18446744073709551616 ^ n
theorem v64_put (a : List (BitVec 64)) (p : Nat) (v : BitVec 64) (hp : p < a.length) : ∀ n, v64 (put a p v) n + (if p < n then (nth a p).toNat * 18446744073709551616 ^ p else 0) = v64 a n + (if p < n then v.toNat * 18446744073709551616 ^ p else 0) := by
  intro n
  induction n with
  | zero => rfl
  | succ n ih =>
    rw [v64, v64, nth_put _ _ _ _ hp]
    by_cases e : p = n
    · subst e
      rw [if_neg (Nat.lt_irrefl _), if_neg (Nat.lt_irrefl _)] at ih
      rw [if_pos rfl, if_pos (Nat.lt_succ_self _), if_pos (Nat.lt_succ_self _)]
      omega
    · rw [if_neg e]
      by_cases h : p < n
      · rw [if_pos h, if_pos h] at ih
        rw [if_pos (by omega), if_pos (by omega)]
        omega
      · rw [if_neg h, if_neg h] at ih
        rw [if_neg (by omega), if_neg (by omega)]
        omega
theorem times_word (x y o c : BitVec 64) : ((mul640 x y + addC (mul641 x y) o 0#64) + addC (mul641 x y + o + 0#64) c 0#64).toNat * 18446744073709551616 + ((mul641 x y + o + 0#64) + c + 0#64).toNat = x.toNat * y.toNat + o.toNat + c.toNat := by
  have hx := x.isLt
  have hy := y.isLt
  have ho := o.isLt
  have hc := c.isLt
  have hxy : x.toNat * y.toNat ≤ 18446744073709551615 * 18446744073709551615 := Nat.mul_le_mul (by omega) (by omega)
  have e0 := mul640_nat x y
  have e1 := mul641_nat x y
  generalize x.toNat * y.toNat = q at *
  have f1 := addC_nat (x := mul641 x y) (y := o)
  have g1 : (mul641 x y + o + 0#64).toNat = ((mul641 x y).toNat + o.toNat) % 18446744073709551616 := by rw [BitVec.add_zero, BitVec.toNat_add]
  generalize mul641 x y + o + 0#64 = l1 at *
  have f2 := addC_nat (x := l1) (y := c)
  have g2 : (l1 + c + 0#64).toNat = (l1.toNat + c.toNat) % 18446744073709551616 := by rw [BitVec.add_zero, BitVec.toNat_add]
  have s1 := add_nat (x := mul640 x y) (y := addC (mul641 x y) o 0#64) (by rw [e0, f1, e1]; omega)
  have s2 := add_nat (x := mul640 x y + addC (mul641 x y) o 0#64) (y := addC l1 c 0#64) (by rw [s1, e0, f1, f2, g1, e1]; omega)
  rw [s2, s1, e0, f1, f2, g2, g1, e1]
  omega
theorem ring1 (V W Tp v Q M c' ab c X : Nat) (h1 : V + Tp * Q = W + v * Q) (h2 : c' * M + v = ab + Tp + c) (hX : W + c * Q = X) : V + c' * (Q * M) = X + ab * Q := by
  grind
theorem times_inner {a b T : List (BitVec 64)} (i : Nat) (hi : i < 4) (hT : T.length = 8) : ∀ k, k ≤ 4 →
    (rfTimes_L7 a b T i k).2.length = 8 ∧ v64 (rfTimes_L7 a b T i k).2 8 + (rfTimes_L7 a b T i k).1.toNat * 18446744073709551616 ^ (i + k) = v64 T 8 + (nth a i).toNat * v64 b k * 18446744073709551616 ^ i ∧ ∀ t, i + 4 ≤ t → nth (rfTimes_L7 a b T i k).2 t = nth T t := by
  intro k
  induction k with
  | zero => intro _; exact ⟨hT, by show v64 T 8 + 0 * _ = v64 T 8 + _ * 0 * _; rw [Nat.zero_mul, Nat.mul_zero, Nat.zero_mul], fun t _ => rfl⟩
  | succ k ih =>
    intro hk
    obtain ⟨h1, h2, h3⟩ := ih (by omega)
    rw [rfTimes_L7, rfTimes_L7_S]
    generalize rfTimes_L7 a b T i k = Y at *
    obtain ⟨c, t⟩ := Y
    dsimp only at h1 h2 h3 ⊢
    have hw := times_word (nth a i) (nth b k) (nth t (i + k)) c
    generalize mul641 (nth a i) (nth b k) + nth t (i + k) + 0#64 + c + 0#64 = v at *
    generalize mul640 (nth a i) (nth b k) + addC (mul641 (nth a i) (nth b k)) (nth t (i + k)) 0#64 + addC (mul641 (nth a i) (nth b k) + nth t (i + k) + 0#64) c 0#64 = c' at *
    have hp := v64_put t (i + k) v (by omega) 8
    rw [if_pos (by omega), if_pos (by omega)] at hp
    refine ⟨by rw [put_length, h1], ?_, fun s hs => ?_⟩
    · have := ring1 _ _ _ _ _ _ _ _ _ _ hp hw h2
      have e : (nth a i).toNat * v64 b (k + 1) * 18446744073709551616 ^ i = (nth a i).toNat * v64 b k * 18446744073709551616 ^ i + (nth a i).toNat * (nth b k).toNat * 18446744073709551616 ^ (i + k) := by
        rw [show v64 b (k + 1) = v64 b k + (nth b k).toNat * 18446744073709551616 ^ k from rfl, Nat.pow_add]
        generalize 18446744073709551616 ^ i = p
        generalize 18446744073709551616 ^ k = q
        grind
      rw [← Nat.add_assoc i k 1, Nat.pow_succ, this, e, Nat.add_assoc]
    · rw [nth_put _ _ _ _ (by omega), if_neg (by omega)]; exact h3 s hs
theorem times_outer {a b : List (BitVec 64)} : ∀ i, i ≤ 4 → (rfTimes_L3 a b i).length = 8 ∧ v64 (rfTimes_L3 a b i) 8 = v64 a i * v64 b 4 ∧ ∀ t, i + 4 ≤ t → nth (rfTimes_L3 a b i) t = 0#64 := by
  intro i
  induction i with
  | zero =>
    intro _
    refine ⟨rfl, ?_, fun t _ => ?_⟩
    · show v64 (zer64 8) 8 = 0 * _
      rw [Nat.zero_mul]; decide
    · show nth (zer64 8) t = 0#64
      unfold nth zer64
      rw [List.getD_eq_getElem?_getD, List.getElem?_replicate]
      split <;> rfl
  | succ i ih =>
    intro hi
    obtain ⟨h1, h2, h3⟩ := ih (by omega)
    obtain ⟨g1, g2, g3⟩ := times_inner (a := a) (b := b) (T := rfTimes_L3 a b i) i (by omega) h1 4 (Nat.le_refl _)
    rw [rfTimes_L3, rfTimes_L3_S]
    generalize rfTimes_L7 a b (rfTimes_L3 a b i) i 4 = Y at *
    obtain ⟨c, t⟩ := Y
    dsimp only at g1 g2 g3 ⊢
    have hp := v64_put t (i + 4) c (by omega) 8
    rw [if_pos (by omega), if_pos (by omega), g3 (i + 4) (by omega), h3 (i + 4) (by omega), show (0#64 : BitVec 64).toNat = 0 from rfl, Nat.zero_mul, Nat.add_zero, g2, h2] at hp
    refine ⟨by rw [put_length, g1], ?_, fun s hs => ?_⟩
    · rw [hp, show v64 a (i + 1) = v64 a i + (nth a i).toNat * 18446744073709551616 ^ i from rfl, Nat.add_mul]
      congr 1
      generalize 18446744073709551616 ^ i = p
      grind
    · rw [nth_put _ _ _ _ (by omega), if_neg (by omega), g3 s (by omega), h3 s (by omega)]
theorem v64_four (a : List (BitVec 64)) : v64 a 4 = wV a := by
  simp only [v64, wV, Nat.pow_zero, Nat.reducePow]
  omega
theorem rfTimes_val (a b : List (BitVec 64)) : v64 (rfTimes a b) 8 = wV a * wV b := by
  obtain ⟨_, h, _⟩ := times_outer (a := a) (b := b) 4 (Nat.le_refl _)
  unfold rfTimes
  rw [h, v64_four, v64_four]
end Go.Proofs.Ytcekjmejppemeaa
/- How many rounds the reference's product takes, and what it is. No program in sight. -/
namespace Go.Proofs.Ytcekjmejppemeaa
open Go.RowKit
def k38 : List (BitVec 64) := put (zer64 4) 0 38#64
def mHi (lo hi : List (BitVec 64)) : BitVec 64 := (nth (rfTimes hi (put (zer64 4) 0 38#64)) 4) + (rfadd1 lo [nth (rfTimes hi (put (zer64 4) 0 38#64)) 0, nth (rfTimes hi (put (zer64 4) 0 38#64)) 1, nth (rfTimes hi (put (zer64 4) 0 38#64)) 2, nth (rfTimes hi (put (zer64 4) 0 38#64)) 3])
def mLo (lo hi : List (BitVec 64)) : List (BitVec 64) := rfadd0 lo [nth (rfTimes hi (put (zer64 4) 0 38#64)) 0, nth (rfTimes hi (put (zer64 4) 0 38#64)) 1, nth (rfTimes hi (put (zer64 4) 0 38#64)) 2, nth (rfTimes hi (put (zer64 4) 0 38#64)) 3]
def mSt (a b : List (BitVec 64)) : Nat → List (BitVec 64) × List (BitVec 64)
  | 0 => ([nth (rfTimes a b) 0, nth (rfTimes a b) 1, nth (rfTimes a b) 2, nth (rfTimes a b) 3], [nth (rfTimes a b) 4, nth (rfTimes a b) 5, nth (rfTimes a b) 6, nth (rfTimes a b) 7])
  | j + 1 => (mLo (mSt a b j).1 (mSt a b j).2, put (zer64 4) 0 (mHi (mSt a b j).1 (mSt a b j).2))
def mH (a b : List (BitVec 64)) (j : Nat) : BitVec 64 := mHi (mSt a b j).1 (mSt a b j).2
def rfN (a b : List (BitVec 64)) : Nat := if mH a b 0 = 0#64 then 1 else if mH a b 1 = 0#64 then 2 else 3
theorem one_word (x : BitVec 64) : wV (put (zer64 4) 0 x) = x.toNat := by
  show x.toNat + (0#64).toNat * _ + (0#64).toNat * _ + (0#64).toNat * _ = _
  rw [show (0#64 : BitVec 64).toNat = 0 from rfl]
  omega
theorem v64_eight (x : List (BitVec 64)) : v64 x 8 = wV [nth x 0, nth x 1, nth x 2, nth x 3] + wV [nth x 4, nth x 5, nth x 6, nth x 7] * 115792089237316195423570985008687907853269984665640564039457584007913129639936 := by
  have e1 : wV [nth x 0, nth x 1, nth x 2, nth x 3] = (nth x 0).toNat + (nth x 1).toNat * 18446744073709551616 + (nth x 2).toNat * 340282366920938463463374607431768211456 + (nth x 3).toNat * 6277101735386680763835789423207666416102355444464034512896 := rfl
  have e2 : wV [nth x 4, nth x 5, nth x 6, nth x 7] = (nth x 4).toNat + (nth x 5).toNat * 18446744073709551616 + (nth x 6).toNat * 340282366920938463463374607431768211456 + (nth x 7).toNat * 6277101735386680763835789423207666416102355444464034512896 := rfl
  rw [e1, e2]
  simp only [v64, Nat.pow_zero, Nat.reducePow]
  omega
theorem mSt_len (a b : List (BitVec 64)) (j : Nat) : (mSt a b j).1.length = 4 ∧ (mSt a b j).2.length = 4 := by
  cases j with
  | zero => exact ⟨rfl, rfl⟩
  | succ j => exact ⟨rfadd_lenA _ _, rfl⟩
theorem fold_step {lo hi : List (BitVec 64)} (hl : lo.length = 4) : wV (mLo lo hi) + (mHi lo hi).toNat * 115792089237316195423570985008687907853269984665640564039457584007913129639936 = wV lo + 38 * wV hi := by
  unfold mLo mHi
  have hv := rfTimes_val hi (put (zer64 4) 0 38#64)
  rw [one_word, show (38#64 : BitVec 64).toNat = 38 from rfl] at hv
  generalize rfTimes hi (put (zer64 4) 0 38#64) = x at *
  rw [v64_eight] at hv
  obtain ⟨e, hc⟩ := rfadd_val (a := lo) (b := [nth x 0, nth x 1, nth x 2, nth x 3]) hl rfl
  have b1 := wV_lt hi
  have b2 := wV_lt [nth x 0, nth x 1, nth x 2, nth x 3]
  have hx : wV [nth x 4, nth x 5, nth x 6, nth x 7] = (nth x 4).toNat + (nth x 5).toNat * 18446744073709551616 + (nth x 6).toNat * 340282366920938463463374607431768211456 + (nth x 7).toNat * 6277101735386680763835789423207666416102355444464034512896 := rfl
  rw [hx] at hv
  clear hx
  have hs := add_nat (x := nth x 4) (y := rfadd1 lo [nth x 0, nth x 1, nth x 2, nth x 3])
  generalize nth x 4 + rfadd1 lo [nth x 0, nth x 1, nth x 2, nth x 3] = w at *
  generalize rfadd1 lo [nth x 0, nth x 1, nth x 2, nth x 3] = c at *
  generalize wV (rfadd0 lo [nth x 0, nth x 1, nth x 2, nth x 3]) = r at *
  generalize wV [nth x 0, nth x 1, nth x 2, nth x 3] = q at *
  generalize wV lo = l at *
  generalize wV hi = h at *
  have h4 := (nth x 4).isLt
  generalize (nth x 4).toNat = x4 at *
  generalize (nth x 5).toNat = x5 at *
  generalize (nth x 6).toNat = x6 at *
  generalize (nth x 7).toNat = x7 at *
  have hx4 : x4 < 64 ∧ x5 = 0 ∧ x6 = 0 ∧ x7 = 0 := by omega
  obtain ⟨g4, g5, g6, g7⟩ := hx4
  rw [hs (by omega)]
  clear hs
  rw [g5, g6, g7] at hv
  simp only [Nat.zero_mul, Nat.add_zero] at hv
  rw [Nat.add_mul, Nat.add_comm (x4 * _) _, ← Nat.add_assoc, e, Nat.add_assoc, hv, Nat.mul_comm]
theorem st_step (a b : List (BitVec 64)) (j : Nat) : wV (mSt a b (j + 1)).1 + (mH a b j).toNat * 115792089237316195423570985008687907853269984665640564039457584007913129639936 = wV (mSt a b j).1 + 38 * wV (mSt a b j).2 := fold_step (mSt_len a b j).1
theorem st_hi (a b : List (BitVec 64)) (j : Nat) : wV (mSt a b (j + 1)).2 = (mH a b j).toNat := one_word _
theorem bounds (a b : List (BitVec 64)) : (mH a b 0).toNat ≤ 38 ∧ (mH a b 1).toNat ≤ 1 ∧ (mH a b 1 ≠ 0#64 → mH a b 2 = 0#64) := by
  have s0 : wV (mSt a b 1).1 + (mH a b 0).toNat * 115792089237316195423570985008687907853269984665640564039457584007913129639936 = wV (mSt a b 0).1 + 38 * wV (mSt a b 0).2 := st_step a b 0
  have s1 : wV (mSt a b 2).1 + (mH a b 1).toNat * 115792089237316195423570985008687907853269984665640564039457584007913129639936 = wV (mSt a b 1).1 + 38 * (mH a b 0).toNat := (st_step a b 1).trans (by rw [show wV (mSt a b 1).2 = (mH a b 0).toNat from st_hi a b 0])
  have s2 : wV (mSt a b 3).1 + (mH a b 2).toNat * 115792089237316195423570985008687907853269984665640564039457584007913129639936 = wV (mSt a b 2).1 + 38 * (mH a b 1).toNat := (st_step a b 2).trans (by rw [show wV (mSt a b 2).2 = (mH a b 1).toNat from st_hi a b 1])
  have l0 := wV_lt (mSt a b 0).1
  have m0 := wV_lt (mSt a b 0).2
  have l1 := wV_lt (mSt a b 1).1
  have l2 := wV_lt (mSt a b 2).1
  have l3 := wV_lt (mSt a b 3).1
  have h0 : (mH a b 0).toNat ≤ 38 := by omega
  have h1 : (mH a b 1).toNat ≤ 1 := by omega
  refine ⟨h0, h1, fun hne => ?_⟩
  have h1' : (mH a b 1).toNat = 1 := by
    have : (mH a b 1).toNat ≠ 0 := fun e => hne (BitVec.eq_of_toNat_eq (by rw [e]; rfl))
    omega
  apply BitVec.eq_of_toNat_eq
  show (mH a b 2).toNat = 0
  omega
theorem zf_256 (n : Nat) : zf (n * 115792089237316195423570985008687907853269984665640564039457584007913129639936) = zf (38 * n) := by
  rw [zf_eq]
  show _ % 57896044618658097711785492504343953926634992332820282019728792003956564819949 = _ % 57896044618658097711785492504343953926634992332820282019728792003956564819949
  omega
theorem st_zf (a b : List (BitVec 64)) : ∀ j, zf (wV (mSt a b j).1) + zf (38 * wV (mSt a b j).2) = zf (wV a * wV b) := by
  intro j
  induction j with
  | zero =>
    have hv := rfTimes_val a b
    rw [v64_eight] at hv
    rw [← hv, zf_add, zf_256]
    rfl
  | succ j ih => rw [← ih, ← zf_add (wV (mSt a b j).1), ← st_step, zf_add, zf_256, st_hi]
theorem end_zf (a b : List (BitVec 64)) : zf (wV (mSt a b (rfN a b)).1) = zf (wV a) * zf (wV b) := by
  have key : ∀ j, mH a b j = 0#64 → zf (wV (mSt a b (j + 1)).1) = zf (wV a) * zf (wV b) := fun j h => by
    have := st_zf a b (j + 1)
    rw [st_hi, h, show 38 * (0#64 : BitVec 64).toNat = 0 from rfl, zf_zero, zf_mul] at this
    rw [← this]
    generalize zf (wV (mSt a b (j + 1)).1) = x
    grobner
  obtain ⟨_, _, h3⟩ := bounds a b
  unfold rfN
  split
  · exact key 0 (by assumption)
  · split
    · exact key 1 (by assumption)
    · exact key 2 (h3 (by assumption))
theorem more_at (a b : List (BitVec 64)) (j : Nat) (hj : j + 1 ≤ rfN a b) : (mH a b j != 0#64) = decide (j + 1 < rfN a b) := by
  obtain ⟨_, _, h3⟩ := bounds a b
  have eb : ∀ x : BitVec 64, x = 0#64 → (x != 0#64) = false := fun x h => by rw [h]; rfl
  have nb : ∀ x : BitVec 64, x ≠ 0#64 → (x != 0#64) = true := fun x h => by simp [h]
  unfold rfN at *
  by_cases e0 : mH a b 0 = 0#64
  · rw [if_pos e0] at *
    obtain rfl : j = 0 := by omega
    rw [eb _ e0]; rfl
  · rw [if_neg e0] at *
    by_cases e1 : mH a b 1 = 0#64
    · rw [if_pos e1] at *
      rcases (by omega : j = 0 ∨ j = 1) with h | h <;> subst h
      · rw [nb _ e0]; rfl
      · rw [eb _ e1]; rfl
    · rw [if_neg e1] at *
      rcases (by omega : j = 0 ∨ j = 1 ∨ j = 2) with h | h | h <;> subst h
      · rw [nb _ e0]; rfl
      · rw [nb _ e1]; rfl
      · rw [eb _ (h3 e1)]; rfl
attribute [irreducible] rfN mH
end Go.Proofs.Ytcekjmejppemeaa
/- trystref06.Mul (Drawn up by a program.) -/
namespace Go.Proofs.Ytcekjmejppemeaa
open Go.RowKit
def rfMul_L5_S (X3 : List (BitVec 64)) (X4 : List (BitVec 64)) : Bool × List (BitVec 64) × List (BitVec 64) := (((nth (put (zer64 4) 0 ((nth (rfTimes X4 (put (zer64 4) 0 38#64)) 4) + (rfadd1 X3 [nth (rfTimes X4 (put (zer64 4) 0 38#64)) 0, nth (rfTimes X4 (put (zer64 4) 0 38#64)) 1, nth (rfTimes X4 (put (zer64 4) 0 38#64)) 2, nth (rfTimes X4 (put (zer64 4) 0 38#64)) 3]))) 0) != 0#64), rfadd0 X3 [nth (rfTimes X4 (put (zer64 4) 0 38#64)) 0, nth (rfTimes X4 (put (zer64 4) 0 38#64)) 1, nth (rfTimes X4 (put (zer64 4) 0 38#64)) 2, nth (rfTimes X4 (put (zer64 4) 0 38#64)) 3], put (zer64 4) 0 ((nth (rfTimes X4 (put (zer64 4) 0 38#64)) 4) + (rfadd1 X3 [nth (rfTimes X4 (put (zer64 4) 0 38#64)) 0, nth (rfTimes X4 (put (zer64 4) 0 38#64)) 1, nth (rfTimes X4 (put (zer64 4) 0 38#64)) 2, nth (rfTimes X4 (put (zer64 4) 0 38#64)) 3])))
def rfMul_L5 (a : List (BitVec 64)) (b : List (BitVec 64)) : Nat → Bool × List (BitVec 64) × List (BitVec 64)
  | 0 => (true, [nth (rfTimes a b) 0, nth (rfTimes a b) 1, nth (rfTimes a b) 2, nth (rfTimes a b) 3], [nth (rfTimes a b) 4, nth (rfTimes a b) 5, nth (rfTimes a b) 6, nth (rfTimes a b) 7])
  | j5 + 1 => rfMul_L5_S (rfMul_L5 a b j5).2.1 (rfMul_L5 a b j5).2.2
theorem rfMul_L5_lens (a : List (BitVec 64)) (b : List (BitVec 64)) (ha : a.length = 4) (hb : b.length = 4) (j5 : Nat) : (rfMul_L5 a b j5).2.1.length = 4 ∧ (rfMul_L5 a b j5).2.2.length = 4 := by
  induction j5 with
  | zero => refine ⟨?_, ?_⟩ <;> first | (simp (maxDischargeDepth := 9) [rfMul_L5, *]; done) | (simp (maxDischargeDepth := 9) [rfMul_L5, *]; omega)
  | succ j5 ih =>
    obtain ⟨ih1, ih2⟩ := ih
    rw [rfMul_L5.eq_2, rfMul_L5_S]
    refine ⟨?_, ?_⟩ <;> first | (simp (maxDischargeDepth := 9) [*]; done) | (simp (maxDischargeDepth := 9) [*]; omega) | (split <;> first | (simp (maxDischargeDepth := 9) [*]; done) | (simp (maxDischargeDepth := 9) [*]; omega))
theorem rfMul_L5_len1 (a : List (BitVec 64)) (b : List (BitVec 64)) (ha : a.length = 4) (hb : b.length = 4) (j5 : Nat) : (rfMul_L5 a b j5).2.1.length = 4 := (rfMul_L5_lens a b ha hb j5).1
theorem rfMul_L5_len2 (a : List (BitVec 64)) (b : List (BitVec 64)) (ha : a.length = 4) (hb : b.length = 4) (j5 : Nat) : (rfMul_L5 a b j5).2.2.length = 4 := (rfMul_L5_lens a b ha hb j5).2
def rfMul (a : List (BitVec 64)) (b : List (BitVec 64)) : List (BitVec 64) := rfMod ((rfMul_L5 a b (rfN a b)).2.1)
theorem L5_st (a b : List (BitVec 64)) (j : Nat) : (rfMul_L5 a b j).2 = mSt a b j ∧ ∀ i, j = i + 1 → (rfMul_L5 a b j).1 = (mH a b i != 0#64) := by
  induction j with
  | zero => exact ⟨by rw [mSt]; rfl, fun i hi => by omega⟩
  | succ j ih =>
    have e1 : (rfMul_L5 a b j).2.1 = (mSt a b j).1 := by rw [ih.1]
    have e2 : (rfMul_L5 a b j).2.2 = (mSt a b j).2 := by rw [ih.1]
    rw [rfMul_L5, e1, e2]
    refine ⟨?_, fun i hi => ?_⟩
    · rw [mSt]; rfl
    · obtain rfl : i = j := by omega
      unfold mH
      rfl
theorem rfMul_more (a b : List (BitVec 64)) (_ : a.length = 4) (_ : b.length = 4) (j : Nat) (hj : j ≤ rfN a b) : (rfMul_L5 a b j).1 = decide (j < rfN a b) := by
  cases j with
  | zero =>
    have : 0 < rfN a b := by unfold rfN; split <;> (try split) <;> decide
    rw [decide_eq_true this]; rfl
  | succ j => rw [(L5_st a b (j + 1)).2 j rfl]; exact more_at a b j hj
set_option maxRecDepth 100000 in
set_option maxHeartbeats 2000000 in
theorem rfMul_ev (a : List (BitVec 64)) (b : List (BitVec 64)) (ha : a.length = 4) (hb : b.length = 4) : Ev Try.prog (.call 53 [.agg (.a64 (a)), .agg (.a64 (b))] []) (.val (.agg (.a64 (rfMul a b))) []) := by
  have hP : Hid (rfMul a b = rfMod ((rfMul_L5 a b (rfN a b)).2.1)) := ⟨rfl⟩
  refine c_call Try.func53 rfl Try.ntmps53 rfl LEN_ ?_
  refine S_ ?_
  refine c_region ?_
  refine s_memN (m_box BX_ LEN_) APP_ rfl ?_
  refine s_memN (m_box BX_ LEN_) APP_ rfl ?_
  refine s_memN (m_alloc al_38 LEN_) APP_ rfl ?_
  refine s_nil ?_
  have hQ1 : (rfTimes a b).length = 8 := LQ_
  refine S_ ?_
  refine c_region ?_
  refine s_val (v_loadR rfl rfl row_38 sz_38 EQ_ (by decide)) rfl ?_
  refine s_val (v_loadR rfl rfl row_38 sz_38 EQ_ (by decide)) rfl ?_
  refine s_evN (e_callR (bs := []) (rfTimes_ev a b HYP_ HYP_) ok_70 (by kernel_rfl) (by kernel_rfl) rfl VAL_) APP_ rfl ?_
  refine s_memN (m_alloc al_85 LEN_) APP_ rfl ?_
  refine s_storeR rfl rfl rfl rfl sz_85 EQ_ EQ_ SET_ ?_
  refine s_nil ?_
  refine S_ ?_
  refine c_region ?_
  refine s_val (v_idxA1 (j := 0) rfl rfl Try.underlying85 sz_29 (by omega)) rfl ?_
  refine s_val (v_load64 rfl rfl row_29 LT_) rfl ?_
  refine s_val (v_idxA1 (j := 1) rfl rfl Try.underlying85 sz_29 (by omega)) rfl ?_
  refine s_val (v_load64 rfl rfl row_29 LT_) rfl ?_
  refine s_val (v_idxA1 (j := 2) rfl rfl Try.underlying85 sz_29 (by omega)) rfl ?_
  refine s_val (v_load64 rfl rfl row_29 LT_) rfl ?_
  refine s_val (v_idxA1 (j := 3) rfl rfl Try.underlying85 sz_29 (by omega)) rfl ?_
  refine s_val (v_load64 rfl rfl row_29 LT_) rfl ?_
  refine s_val (v_bld64 (l := [_, _, _, _]) zc_38 Try.underlying38 sz_29 rfl rfl (by decide)) rfl ?_
  refine s_memN (m_alloc al_38 LEN_) APP_ rfl ?_
  refine s_storeR rfl rfl rfl rfl sz_38 EQ_ EQ_ SET_ ?_
  refine s_nil ?_
  refine S_ ?_
  refine c_region ?_
  refine s_val (v_idxA1 (j := 4) rfl rfl Try.underlying85 sz_29 (by omega)) rfl ?_
  refine s_val (v_load64 rfl rfl row_29 LT_) rfl ?_
  refine s_val (v_idxA1 (j := 5) rfl rfl Try.underlying85 sz_29 (by omega)) rfl ?_
  refine s_val (v_load64 rfl rfl row_29 LT_) rfl ?_
  refine s_val (v_idxA1 (j := 6) rfl rfl Try.underlying85 sz_29 (by omega)) rfl ?_
  refine s_val (v_load64 rfl rfl row_29 LT_) rfl ?_
  refine s_val (v_idxA1 (j := 7) rfl rfl Try.underlying85 sz_29 (by omega)) rfl ?_
  refine s_val (v_load64 rfl rfl row_29 LT_) rfl ?_
  refine s_val (v_bld64 (l := [_, _, _, _]) zc_38 Try.underlying38 sz_29 rfl rfl (by decide)) rfl ?_
  refine s_memN (m_alloc al_38 LEN_) APP_ rfl ?_
  refine s_storeR rfl rfl rfl rfl sz_38 EQ_ EQ_ SET_ ?_
  refine s_nil ?_
  refine S_ ?_
  refine c_region ?_
  refine s_val (v_assignC rfl) rfl ?_
  refine s_nil ?_
  refine S_ ?_
  refine c_loopC [4, 6, 7, 8] (fun (zz : Nat × Bool × List (BitVec 64) × List (BitVec 64)) => ⟨62, keepT [4, 6, 7, 8] [.c (.ptr 0 0), .c (.ptr 1 0), .c (.ptr 2 0), .c (.val (.bool (zz.2.1)))], [.row true (.a64 (zer64 4)), .row true (.a64 (zz.2.2.1)), .row true (.a64 (zz.2.2.2))]⟩) (fun j5 => (j5, rfMul_L5 a b j5)) (rfN a b) (by kernel_rfl) ?_ ?_
  · intro j5 hj5
    try dsimp only
    have hX3 : (rfMul_L5 a b j5).2.1.length = 4 := by rw [rfMul_L5_len1 a b ha hb _]; try omega
    have hX4 : (rfMul_L5 a b j5).2.2.length = 4 := by rw [rfMul_L5_len2 a b ha hb _]; try omega
    have hm := rfMul_more a b ha hb j5 (by omega)
    rw [rfMul_L5.eq_2, rfMul_L5_S]
    generalize rfMul_L5 a b j5 = Z5 at *
    obtain ⟨X2, X3, X4⟩ := Z5
    try dsimp only at *
    subst hm
    refine S_ ?_
    refine c_region ?_
    refine s_val (v_moveC rfl) rfl ?_
    refine s_nil ?_
    have hQ6 : (rfTimes X4 (put (zer64 4) 0 38#64)).length = 8 := LQ_
    refine S_ ?_
    refine c_region ?_
    refine s_val (v_loadR rfl rfl row_38 sz_38 EQ_ (by decide)) rfl ?_
    refine s_val (v_blf64 (l := (put (zer64 4) 0 (38#64))) za_38 Try.underlying38 sz_29 rfl rfl) rfl ?_
    refine s_evN (e_callR (bs := []) (rfTimes_ev X4 (put (zer64 4) 0 38#64) HYP_ HYP_) ok_70 (by kernel_rfl) (by kernel_rfl) rfl VAL_) APP_ rfl ?_
    refine s_memN (m_alloc al_85 LEN_) APP_ rfl ?_
    refine s_storeR rfl rfl rfl rfl sz_85 EQ_ EQ_ SET_ ?_
    refine s_nil ?_
    have hQ7 : (rfadd0 X3 [nth (rfTimes X4 (put (zer64 4) 0 38#64)) 0, nth (rfTimes X4 (put (zer64 4) 0 38#64)) 1, nth (rfTimes X4 (put (zer64 4) 0 38#64)) 2, nth (rfTimes X4 (put (zer64 4) 0 38#64)) 3]).length = 4 := LQ_
    refine S_ ?_
    refine c_region ?_
    refine s_val (v_loadR rfl rfl row_38 sz_38 EQ_ (by decide)) rfl ?_
    refine s_val (v_idxA1 (j := 0) rfl rfl Try.underlying85 sz_29 (by omega)) rfl ?_
    refine s_val (v_load64 rfl rfl row_29 LT_) rfl ?_
    refine s_val (v_idxA1 (j := 1) rfl rfl Try.underlying85 sz_29 (by omega)) rfl ?_
    refine s_val (v_load64 rfl rfl row_29 LT_) rfl ?_
    refine s_val (v_idxA1 (j := 2) rfl rfl Try.underlying85 sz_29 (by omega)) rfl ?_
    refine s_val (v_load64 rfl rfl row_29 LT_) rfl ?_
    refine s_val (v_idxA1 (j := 3) rfl rfl Try.underlying85 sz_29 (by omega)) rfl ?_
    refine s_val (v_load64 rfl rfl row_29 LT_) rfl ?_
    refine s_val (v_bld64 (l := [_, _, _, _]) zc_38 Try.underlying38 sz_29 rfl rfl (by decide)) rfl ?_
    refine s_evN (e_callR (bs := []) (rfadd_ev X3 [nth (rfTimes X4 (put (zer64 4) 0 38#64)) 0, nth (rfTimes X4 (put (zer64 4) 0 38#64)) 1, nth (rfTimes X4 (put (zer64 4) 0 38#64)) 2, nth (rfTimes X4 (put (zer64 4) 0 38#64)) 3] HYP_ HYP_) ok_81 (by kernel_rfl) (by kernel_rfl) rfl VAL_) APP_ rfl ?_
    refine s_val (v_moveT rfl) rfl ?_
    refine s_val (v_extract rfl rfl) rfl ?_
    refine s_val (v_extract rfl rfl) rfl ?_
    refine s_memN (m_alloc al_38 LEN_) APP_ rfl ?_
    refine s_storeR rfl rfl rfl rfl sz_38 EQ_ EQ_ SET_ ?_
    refine s_val (v_assignC rfl) rfl ?_
    refine s_nil ?_
    refine S_ ?_
    refine c_stores2 [1,2] mixed (by kernel_rfl) ?_
    first | refine x_val (v_loadR rfl rfl row_38 sz_38 EQ_ (by decide)) rfl ?_ | refine x_early (by kernel_rfl) (v_loadR rfl rfl row_38 sz_38 EQ_ (by decide)) rfl ?_
    refine x_val (v_idxA1 (j := 4) rfl rfl Try.underlying85 sz_29 (by omega)) rfl ?_
    first | refine x_val (v_load64 rfl rfl row_29 LT_) rfl ?_ | refine x_early (by kernel_rfl) (v_load64 rfl rfl row_29 LT_) rfl ?_
    refine x_val (v_moveC rfl) rfl ?_
    refine x_val (v_add64 rfl rfl) rfl ?_
    refine x_val (v_blo64 za_38 Try.underlying38 sz_29 rfl rfl rfl) rfl ?_
    refine x_storeR rfl rfl rfl rfl rfl sz_38 EQ_ EQ_ SET_ ?_
    refine x_storeR rfl rfl rfl rfl rfl sz_38 EQ_ EQ_ SET_ ?_
    refine x_nil ?_
    have h9 : ((put (zer64 4) 0 ((nth (rfTimes X4 (put (zer64 4) 0 38#64)) 4) + (rfadd1 X3 [nth (rfTimes X4 (put (zer64 4) 0 38#64)) 0, nth (rfTimes X4 (put (zer64 4) 0 38#64)) 1, nth (rfTimes X4 (put (zer64 4) 0 38#64)) 2, nth (rfTimes X4 (put (zer64 4) 0 38#64)) 3])))).length = 4 := LQ_
    refine S_ ?_
    refine c_region ?_
    refine s_val (v_idxA1 (j := 0) rfl rfl Try.underlying38 sz_29 (by omega)) rfl ?_
    refine s_val (v_load64 rfl rfl row_29 LT_) rfl ?_
    refine s_val (v_neq64 (b := 0#64) rfl rfl) rfl ?_
    refine s_val (v_assignC rfl) rfl ?_
    refine s_nil ?_
    exact ⟨(j5 + 1, _), by kernel_rfl, rfl⟩
  · try dsimp only
    have hY9 : (rfMul_L5 a b (rfN a b)).2.1.length = 4 := by rw [rfMul_L5_len1 a b ha hb _]; try omega
    have hY10 : (rfMul_L5 a b (rfN a b)).2.2.length = 4 := by rw [rfMul_L5_len2 a b ha hb _]; try omega
    have hm := rfMul_more a b ha hb (rfN a b) (by omega)
    generalize rfMul_L5 a b (rfN a b) = Z11 at *
    obtain ⟨Y8, Y9, Y10⟩ := Z11
    try dsimp only at *
    subst hm
    refine S_ ?_
    refine c_region ?_
    refine s_val (v_moveC rfl) rfl ?_
    refine s_nil ?_
    have hQ12 : (rfMod Y9).length = 4 := LQ_
    refine S_ ?_
    refine c_region ?_
    refine s_val (v_loadR rfl rfl row_38 sz_38 EQ_ (by decide)) rfl ?_
    refine s_evN (e_callR (bs := []) (rfMod_ev Y9 HYP_) ok_82 (by kernel_rfl) (by kernel_rfl) rfl VAL_) APP_ rfl ?_
    refine s_storeR rfl rfl rfl rfl sz_38 EQ_ EQ_ SET_ ?_
    refine s_nil ?_
    refine S_ ?_
    rw [hP.out]
    exact k_1 (r_row rfl rfl row_38 sz_38 EQ_ (by decide)) (by first | kernel_rfl | rfl)

@[simp] theorem rfMul_len (a : List (BitVec 64)) (b : List (BitVec 64)) (ha : a.length = 4) (hb : b.length = 4) : (rfMul a b).length = 4 := by
  unfold rfMul
  first | (simp (maxDischargeDepth := 9) [rfMul_L5_len1, rfMul_L5_len2, *]; done) | (simp (maxDischargeDepth := 9) [rfMul_L5_len1, rfMul_L5_len2, *]; omega) | (split <;> (simp (maxDischargeDepth := 9) [rfMul_L5_len1, rfMul_L5_len2, *]; done))

attribute [irreducible] rfMul
end Go.Proofs.Ytcekjmejppemeaa
/- trystref06.Pow, trystref06.Inv, trystref06.half (Drawn up by a program.) -/
namespace Go.Proofs.Ytcekjmejppemeaa
open Go.RowKit
def rfPow_L3_S (a : List (BitVec 64)) (e : List (BitVec 64)) (X1 : List (BitVec 64)) (j3 : Nat) : List (BitVec 64) := (if ((((nth e ((255 - j3) / 64)) >>> (BitVec.ofNat 64 ((255 - j3) % 64)).toNat) &&& 1#64) == 1#64) = true then rfMul (rfMul X1 X1) a else rfMul X1 X1)
def rfPow_L3 (a : List (BitVec 64)) (e : List (BitVec 64)) : Nat → List (BitVec 64)
  | 0 => put (zer64 4) 0 1#64
  | j3 + 1 => rfPow_L3_S a e (rfPow_L3 a e j3) j3
theorem rfPow_L3_len (a : List (BitVec 64)) (e : List (BitVec 64)) (ha : a.length = 4) (he : e.length = 4) (j3 : Nat) : (rfPow_L3 a e j3).length = 4 := by
  induction j3 with
  | zero => first | (simp [rfPow_L3, *]; done) | (simp [rfPow_L3, *]; omega)
  | succ j3 ih => rw [rfPow_L3.eq_2, rfPow_L3_S]; first | (simp [ih]; done) | (simp [ih]; omega) | (simp [*]; done) | (simp [*]; omega) | (split <;> first | (simp [ih]; done) | (simp [ih]; omega) | (simp [*]; done))
def rfPow (a : List (BitVec 64)) (e : List (BitVec 64)) : List (BitVec 64) := (rfPow_L3 a e 256)
set_option maxRecDepth 100000 in
set_option maxHeartbeats 2000000 in
theorem rfPow_ev (a : List (BitVec 64)) (e : List (BitVec 64)) (ha : a.length = 4) (he : e.length = 4) : Ev Try.prog (.call 83 [.agg (.a64 (a)), .agg (.a64 (e))] []) (.val (.agg (.a64 (rfPow a e))) []) := by
  have hP : Hid (rfPow a e = (rfPow_L3 a e 256)) := ⟨rfl⟩
  refine c_call Try.func83 rfl Try.ntmps83 rfl LEN_ ?_
  refine S_ ?_
  refine c_region ?_
  refine s_memN (m_box BX_ LEN_) APP_ rfl ?_
  refine s_memN (m_box BX_ LEN_) APP_ rfl ?_
  refine s_memN (m_alloc al_38 LEN_) APP_ rfl ?_
  refine s_nil ?_
  refine S_ ?_
  refine c_region ?_
  refine s_val (v_blf64 (l := (put (zer64 4) 0 (1#64))) za_38 Try.underlying38 sz_29 rfl rfl) rfl ?_
  refine s_memN (m_alloc al_38 LEN_) APP_ rfl ?_
  refine s_storeR rfl rfl rfl rfl sz_38 EQ_ EQ_ SET_ ?_
  refine s_nil ?_
  refine S_ ?_
  refine c_region ?_
  refine s_val (v_assignC rfl) rfl ?_
  refine s_nil ?_
  refine S_ ?_
  refine c_loopC [2, 3, 4, 5, 6] (fun (zz : Nat × List (BitVec 64)) => ⟨29, keepT [2, 3, 4, 5, 6] [.c (.ptr 0 0), .c (.ptr 1 0), .c (.ptr 2 0), .c (.ptr 3 0), .c (.val (.int .i64 (((255 : Nat) : Int) - ((zz.1 : Nat) : Int))))], [.row true (.a64 (a)), .row true (.a64 (e)), .row true (.a64 (zer64 4)), .row true (.a64 (zz.2))]⟩) (fun j3 => (j3, rfPow_L3 a e j3)) (256) (by kernel_rfl) ?_ ?_
  · intro j3 hj3
    try dsimp only
    have hX1 : (rfPow_L3 a e j3).length = 4 := by rw [rfPow_L3_len a e ha he _]; try omega
    rw [rfPow_L3.eq_2, rfPow_L3_S]
    generalize rfPow_L3 a e j3 = X1 at *
    rw [show ((255 : Nat) : Int) - ((j3 : Nat) : Int) = ((255 - j3 : Nat) : Int) from by omega]
    refine S_ ?_
    refine c_region ?_
    refine s_val (v_moveC rfl) rfl ?_
    refine s_val (v_geqN (b := 0) rfl rfl) rfl ?_
    refine s_nil ?_
    have hQ2 : (rfMul X1 X1).length = 4 := LQ_
    refine S_ ?_
    refine c_region ?_
    refine s_val (v_loadR rfl rfl row_38 sz_38 EQ_ (by decide)) rfl ?_
    refine s_val (v_loadR rfl rfl row_38 sz_38 EQ_ (by decide)) rfl ?_
    refine s_evN (e_callR (bs := []) (rfMul_ev X1 X1 HYP_ HYP_) ok_53 (by kernel_rfl) (by kernel_rfl) rfl VAL_) APP_ rfl ?_
    refine s_storeR rfl rfl rfl rfl sz_38 EQ_ EQ_ SET_ ?_
    refine s_nil ?_
    refine S_ ?_
    refine c_region ?_
    refine s_val (v_moveC rfl) rfl ?_
    refine s_val (v_quoN (b := 64) rfl rfl (by omega) (by omega)) rfl ?_
    refine s_val (v_idxA1 rfl rfl Try.underlying38 sz_29 (by omega)) rfl ?_
    refine s_val (v_load64 rfl rfl row_29 LT_) rfl ?_
    refine s_val (v_moveC rfl) rfl ?_
    refine s_val (v_remN (b := 64) rfl rfl (by omega) (by omega)) rfl ?_
    refine s_val (v_conv rfl Try.underlying3 Try.underlying51 (wi_64 _)) rfl ?_
    refine s_val (v_shr64w rfl rfl) rfl ?_
    refine s_val (v_and64 (b := 1#64) rfl rfl) rfl ?_
    refine s_val (v_eql64 (b := 1#64) rfl rfl) rfl ?_
    refine s_nil ?_
    refine Q_ ?_
    refine c_join [2, 3, 4, 5, 6] (fun (zz : List (BitVec 64)) => ⟨29, keepT [2, 3, 4, 5, 6] [.c (.ptr 0 0), .c (.ptr 1 0), .c (.ptr 2 0), .c (.ptr 3 0), .c (.val (.int .i64 (((255 - j3 : Nat) : Int))))], [.row true (.a64 (a)), .row true (.a64 (e)), .row true (.a64 (zer64 4)), .row true (.a64 (zz))]⟩) (if ((((nth e ((255 - j3) / 64)) >>> (BitVec.ofNat 64 ((255 - j3) % 64)).toNat) &&& 1#64) == 1#64) = true then rfMul (rfMul X1 X1) a else rfMul X1 X1) rfl (fun hb => ?_) (fun hb => ?_) ?_
    · -- the test is True
      have hQ4 : (rfMul (rfMul X1 X1) a).length = 4 := LQ_
      refine S_ ?_
      refine c_region ?_
      refine s_val (v_loadR rfl rfl row_38 sz_38 EQ_ (by decide)) rfl ?_
      refine s_val (v_loadR rfl rfl row_38 sz_38 EQ_ (by decide)) rfl ?_
      refine s_evN (e_callR (bs := []) (rfMul_ev (rfMul X1 X1) a HYP_ HYP_) ok_53 (by kernel_rfl) (by kernel_rfl) rfl VAL_) APP_ rfl ?_
      refine s_storeR rfl rfl rfl rfl sz_38 EQ_ EQ_ SET_ ?_
      refine s_nil ?_
      refine S_ ?_
      refine ⟨(rfMul (rfMul X1 X1) a), by kernel_rfl, ?_⟩
      rw [if_pos (hb)]
    · -- the test is False
      refine S_ ?_
      refine ⟨(rfMul X1 X1), by kernel_rfl, ?_⟩
      rw [if_neg (by first | (rw [hb]; decide) | simp [hb])]
    have hJ3 : (if ((((nth e ((255 - j3) / 64)) >>> (BitVec.ofNat 64 ((255 - j3) % 64)).toNat) &&& 1#64) == 1#64) = true then rfMul (rfMul X1 X1) a else rfMul X1 X1).length = 4 := by split <;> simp [*]
    generalize (if ((((nth e ((255 - j3) / 64)) >>> (BitVec.ofNat 64 ((255 - j3) % 64)).toNat) &&& 1#64) == 1#64) = true then rfMul (rfMul X1 X1) a else rfMul X1 X1) = J3 at *
    refine S_ ?_
    refine c_region ?_
    refine s_val (v_moveC rfl) rfl ?_
    first
      | refine s_val (v_subN (b := 1) rfl rfl (by omega) (by omega)) rfl ?_
      | refine s_val (v_subI rfl rfl (by omega)) rfl ?_
    refine s_val (v_assignC rfl) rfl ?_
    refine s_nil ?_
    refine ⟨(j3 + 1, _), (by
      dsimp only
      rw [show ((255 : Nat) : Int) - ((j3 + 1 : Nat) : Int) = ((255 - j3 : Nat) : Int) - 1 from by omega]
      kernel_rfl), rfl⟩
  · try dsimp only
    have hY5 : (rfPow_L3 a e 256).length = 4 := by rw [rfPow_L3_len a e ha he _]; try omega
    generalize rfPow_L3 a e 256 = Y5 at *
    refine S_ ?_
    refine c_region ?_
    refine s_val (v_moveC rfl) rfl ?_
    refine s_val (v_geqI rfl rfl) rfl ?_
    refine s_nil ?_
    refine S_ ?_
    refine c_region ?_
    refine s_val (v_loadR rfl rfl row_38 sz_38 EQ_ (by decide)) rfl ?_
    refine s_storeR rfl rfl rfl rfl sz_38 EQ_ EQ_ SET_ ?_
    refine s_nil ?_
    refine S_ ?_
    rw [hP.out]
    exact k_1 (r_row rfl rfl row_38 sz_38 EQ_ (by decide)) (by first | kernel_rfl | rfl)

@[simp] theorem rfPow_len (a : List (BitVec 64)) (e : List (BitVec 64)) (ha : a.length = 4) (he : e.length = 4) : (rfPow a e).length = 4 := by
  unfold rfPow
  first | (simp [rfPow_L3_len, *]; done) | (simp [rfPow_L3_len, *]; omega)

attribute [irreducible] rfPow

def rfInv (a : List (BitVec 64)) : List (BitVec 64) := rfPow a (rfsub0 rfP (put (zer64 4) 0 2#64))
set_option maxRecDepth 100000 in
set_option maxHeartbeats 2000000 in
theorem rfInv_ev (a : List (BitVec 64)) (ha : a.length = 4) : Ev Try.prog (.call 56 [.agg (.a64 (a))] []) (.val (.agg (.a64 (rfInv a))) []) := by
  have hP : Hid (rfInv a = rfPow a (rfsub0 rfP (put (zer64 4) 0 2#64))) := ⟨rfl⟩
  refine c_call Try.func56 rfl Try.ntmps56 rfl LEN_ ?_
  refine S_ ?_
  refine c_region ?_
  refine s_memN (m_box BX_ LEN_) APP_ rfl ?_
  refine s_memN (m_alloc al_38 LEN_) APP_ rfl ?_
  refine s_nil ?_
  have hQ1 : (rfP).length = 4 := LQ_
  have hQ2 : (rfsub0 rfP (put (zer64 4) 0 2#64)).length = 4 := LQ_
  refine S_ ?_
  refine c_region ?_
  refine s_evN (e_callR (bs := []) (rfP_ev) ok_52 (by kernel_rfl) (by kernel_rfl) rfl VAL_) APP_ rfl ?_
  refine s_val (v_blf64 (l := (put (zer64 4) 0 (2#64))) za_38 Try.underlying38 sz_29 rfl rfl) rfl ?_
  refine s_evN (e_callR (bs := []) (rfsub_ev rfP (put (zer64 4) 0 2#64) HYP_ HYP_) ok_80 (by kernel_rfl) (by kernel_rfl) rfl VAL_) APP_ rfl ?_
  refine s_val (v_moveT rfl) rfl ?_
  refine s_val (v_extract rfl rfl) rfl ?_
  refine s_val (v_extract rfl rfl) rfl ?_
  refine s_memN (m_alloc al_38 LEN_) APP_ rfl ?_
  refine s_storeR rfl rfl rfl rfl sz_38 EQ_ EQ_ SET_ ?_
  refine s_val (v_assignC rfl) rfl ?_
  refine s_nil ?_
  have hQ3 : (rfPow a (rfsub0 rfP (put (zer64 4) 0 2#64))).length = 4 := LQ_
  refine S_ ?_
  refine c_region ?_
  refine s_val (v_loadR rfl rfl row_38 sz_38 EQ_ (by decide)) rfl ?_
  refine s_val (v_loadR rfl rfl row_38 sz_38 EQ_ (by decide)) rfl ?_
  refine s_evN (e_callR (bs := []) (rfPow_ev a (rfsub0 rfP (put (zer64 4) 0 2#64)) HYP_ HYP_) ok_83 (by kernel_rfl) (by kernel_rfl) rfl VAL_) APP_ rfl ?_
  refine s_storeR rfl rfl rfl rfl sz_38 EQ_ EQ_ SET_ ?_
  refine s_nil ?_
  refine S_ ?_
  rw [hP.out]
  exact k_1 (r_row rfl rfl row_38 sz_38 EQ_ (by decide)) (by first | kernel_rfl | rfl)

@[simp] theorem rfInv_len (a : List (BitVec 64)) (ha : a.length = 4) : (rfInv a).length = 4 := by
  unfold rfInv
  first | (simp [*]; done) | (simp [*]; omega)

attribute [irreducible] rfInv

def rfHalf_L3_S (a : List (BitVec 64)) (X1 : List (BitVec 64)) (j3 : Nat) : List (BitVec 64) := (if j3 < 3 then put (put X1 j3 ((nth a j3) >>> 1)) j3 ((nth (put X1 j3 ((nth a j3) >>> 1)) j3) ||| ((nth a (j3 + 1)) <<< 63)) else put X1 j3 ((nth a j3) >>> 1))
def rfHalf_L3 (a : List (BitVec 64)) : Nat → List (BitVec 64)
  | 0 => zer64 4
  | j3 + 1 => rfHalf_L3_S a (rfHalf_L3 a j3) j3
theorem rfHalf_L3_len (a : List (BitVec 64)) (ha : a.length = 4) (j3 : Nat) : (rfHalf_L3 a j3).length = 4 := by
  induction j3 with
  | zero => first | (simp [rfHalf_L3, *]; done) | (simp [rfHalf_L3, *]; omega)
  | succ j3 ih => rw [rfHalf_L3.eq_2, rfHalf_L3_S]; first | (simp [ih]; done) | (simp [ih]; omega) | (simp [*]; done) | (simp [*]; omega) | (split <;> first | (simp [ih]; done) | (simp [ih]; omega) | (simp [*]; done))
def rfHalf (a : List (BitVec 64)) : List (BitVec 64) := (rfHalf_L3 a 4)
set_option maxRecDepth 100000 in
set_option maxHeartbeats 2000000 in
theorem rfHalf_ev (a : List (BitVec 64)) (ha : a.length = 4) : Ev Try.prog (.call 84 [.agg (.a64 (a))] []) (.val (.agg (.a64 (rfHalf a))) []) := by
  have hP : Hid (rfHalf a = (rfHalf_L3 a 4)) := ⟨rfl⟩
  refine c_call Try.func84 rfl Try.ntmps84 rfl LEN_ ?_
  refine S_ ?_
  refine c_region ?_
  refine s_memN (m_box BX_ LEN_) APP_ rfl ?_
  refine s_memN (m_alloc al_38 LEN_) APP_ rfl ?_
  refine s_nil ?_
  refine S_ ?_
  refine c_region ?_
  refine s_memN (m_alloc al_38 LEN_) APP_ rfl ?_
  refine s_nil ?_
  refine S_ ?_
  refine c_region ?_
  refine s_val (v_assignC rfl) rfl ?_
  refine s_nil ?_
  refine S_ ?_
  refine c_loopC [1, 2, 3, 4] (fun (zz : Nat × List (BitVec 64)) => ⟨28, keepT [1, 2, 3, 4] [.c (.ptr 0 0), .c (.ptr 1 0), .c (.ptr 2 0), .c (.val (.int .i64 (((zz.1 : Nat) : Int))))], [.row true (.a64 (a)), .row true (.a64 (zer64 4)), .row true (.a64 (zz.2))]⟩) (fun j3 => (j3, rfHalf_L3 a j3)) (4) (by kernel_rfl) ?_ ?_
  · intro j3 hj3
    try dsimp only
    have hX1 : (rfHalf_L3 a j3).length = 4 := by rw [rfHalf_L3_len a ha _]; try omega
    rw [rfHalf_L3.eq_2, rfHalf_L3_S]
    generalize rfHalf_L3 a j3 = X1 at *
    refine S_ ?_
    refine c_region ?_
    refine s_val (v_moveC rfl) rfl ?_
    refine s_val (v_lssN (b := 4) rfl rfl) rfl ?_
    refine s_nil ?_
    refine S_ ?_
    refine c_region ?_
    refine s_val (v_moveC rfl) rfl ?_
    refine s_val (v_moveC rfl) rfl ?_
    refine s_val (v_idxA1 rfl rfl Try.underlying38 sz_29 (by omega)) rfl ?_
    refine s_val (v_load64 rfl rfl row_29 LT_) rfl ?_
    refine s_val (v_shr64n (j := 1) rfl rfl) rfl ?_
    refine s_val (v_idxA1 rfl rfl Try.underlying38 sz_29 (by omega)) rfl ?_
    refine s_store64 rfl rfl rfl sz_29 LT_ SET_ ?_
    refine s_nil ?_
    refine S_ ?_
    refine c_region ?_
    refine s_val (v_moveC rfl) rfl ?_
    refine s_val (v_lssN (b := 3) rfl rfl) rfl ?_
    refine s_nil ?_
    refine Q_ ?_
    refine c_join [1, 2, 3, 4] (fun (zz : List (BitVec 64)) => ⟨28, keepT [1, 2, 3, 4] [.c (.ptr 0 0), .c (.ptr 1 0), .c (.ptr 2 0), .c (.val (.int .i64 (((j3 : Nat) : Int))))], [.row true (.a64 (a)), .row true (.a64 (zer64 4)), .row true (.a64 (zz))]⟩) (if j3 < 3 then put (put X1 j3 ((nth a j3) >>> 1)) j3 ((nth (put X1 j3 ((nth a j3) >>> 1)) j3) ||| ((nth a (j3 + 1)) <<< 63)) else put X1 j3 ((nth a j3) >>> 1)) rfl (fun hb => ?_) (fun hb => ?_) ?_
    · -- the test is True
      have hb_ := of_decide_eq_true hb
      refine S_ ?_
      refine c_draw 10 mixed (by kernel_rfl) rfl rfl rfl ?_
      refine h_val (v_moveC rfl) rfl ?_
      refine h_val (v_idxA1 rfl rfl Try.underlying38 sz_29 (by omega)) rfl ?_
      refine h_val (v_load64 rfl rfl row_29 LT_) rfl ?_
      refine h_val (v_moveC rfl) rfl ?_
      refine h_val (v_addN (b := 1) rfl rfl (by omega)) rfl ?_
      refine h_val (v_idxA1 rfl rfl Try.underlying38 sz_29 (by omega)) rfl ?_
      refine h_val (v_load64 rfl rfl row_29 LT_) rfl ?_
      refine h_val (v_shl64n (j := 63) rfl rfl) rfl ?_
      refine h_val (v_or64 rfl rfl) rfl ?_
      refine h_val (v_idxA1 rfl rfl Try.underlying38 sz_29 (by omega)) rfl ?_
      refine h_nil ?_
      refine s_store64 rfl rfl rfl sz_29 LT_ SET_ ?_
      refine s_nil ?_
      refine S_ ?_
      refine ⟨(put (put X1 j3 ((nth a j3) >>> 1)) j3 ((nth (put X1 j3 ((nth a j3) >>> 1)) j3) ||| ((nth a (j3 + 1)) <<< 63))), by kernel_rfl, ?_⟩
      rw [if_pos (of_decide_eq_true hb)]
    · -- the test is False
      have hb_ := of_decide_eq_false hb
      refine S_ ?_
      refine ⟨(put X1 j3 ((nth a j3) >>> 1)), by kernel_rfl, ?_⟩
      rw [if_neg (of_decide_eq_false hb)]
    have hJ2 : (if j3 < 3 then put (put X1 j3 ((nth a j3) >>> 1)) j3 ((nth (put X1 j3 ((nth a j3) >>> 1)) j3) ||| ((nth a (j3 + 1)) <<< 63)) else put X1 j3 ((nth a j3) >>> 1)).length = 4 := by split <;> simp [*]
    generalize (if j3 < 3 then put (put X1 j3 ((nth a j3) >>> 1)) j3 ((nth (put X1 j3 ((nth a j3) >>> 1)) j3) ||| ((nth a (j3 + 1)) <<< 63)) else put X1 j3 ((nth a j3) >>> 1)) = J2 at *
    refine S_ ?_
    refine c_region ?_
    refine s_val (v_moveC rfl) rfl ?_
    refine s_val (v_addN (b := 1) rfl rfl (by omega)) rfl ?_
    refine s_val (v_assignC rfl) rfl ?_
    refine s_nil ?_
    exact ⟨(j3 + 1, _), by kernel_rfl, rfl⟩
  · try dsimp only
    have hY3 : (rfHalf_L3 a 4).length = 4 := by rw [rfHalf_L3_len a ha _]; try omega
    generalize rfHalf_L3 a 4 = Y3 at *
    refine S_ ?_
    refine c_region ?_
    refine s_val (v_moveC rfl) rfl ?_
    refine s_val (v_lssN (a := 4) (b := 4) rfl rfl) rfl ?_
    refine s_nil ?_
    refine S_ ?_
    refine c_region ?_
    refine s_val (v_loadR rfl rfl row_38 sz_38 EQ_ (by decide)) rfl ?_
    refine s_storeR rfl rfl rfl rfl sz_38 EQ_ EQ_ SET_ ?_
    refine s_nil ?_
    refine S_ ?_
    rw [hP.out]
    exact k_1 (r_row rfl rfl row_38 sz_38 EQ_ (by decide)) (by first | kernel_rfl | rfl)

@[simp] theorem rfHalf_len (a : List (BitVec 64)) (ha : a.length = 4) : (rfHalf a).length = 4 := by
  unfold rfHalf
  first | (simp [rfHalf_L3_len, *]; done) | (simp [rfHalf_L3_len, *]; omega)

attribute [irreducible] rfHalf
end Go.Proofs.Ytcekjmejppemeaa
/- The reference's functions, told by the field of 2^255 - 19. No program in sight. -/
namespace Go.Proofs.Ytcekjmejppemeaa
open Go.RowKit
theorem rfMul_W {a b : List (BitVec 64)} (ha : a.length = 4) (hb : b.length = 4) : rfMul a b = WF (ZW a * ZW b) := by
  have e : rfMul a b = rfMod ((mSt a b (rfN a b)).1) := by
    unfold rfMul
    rw [(L5_st a b (rfN a b)).1]
  rw [e, rfMod_W (mSt_len a b _).1]
  congr 1
  exact end_zf a b
theorem word_bit (x : BitVec 64) (k : Nat) (hk : k < 64) : (((x >>> (BitVec.ofNat 64 k).toNat) &&& 1#64) == 1#64) = decide (x.toNat / 2 ^ k % 2 = 1) := by
  rw [BitVec.toNat_ofNat, Nat.mod_eq_of_lt (by omega)]
  have e : ((x >>> k) &&& 1#64).toNat = x.toNat / 2 ^ k % 2 := by
    rw [BitVec.toNat_and, BitVec.toNat_ushiftRight, Nat.shiftRight_eq_div_pow]
    exact Nat.and_two_pow_sub_one_eq_mod _ 1
  by_cases h : x.toNat / 2 ^ k % 2 = 1
  · rw [decide_eq_true h, beq_iff_eq]
    apply BitVec.eq_of_toNat_eq
    rw [e, h]; rfl
  · rw [decide_eq_false h, beq_eq_false_iff_ne]
    intro hx
    apply h
    rw [← e, hx]; rfl
theorem wV_digit (e : List (BitVec 64)) (t : Nat) (ht : t < 4) : wV e / 18446744073709551616 ^ t % 18446744073709551616 = (nth e t).toNat := by
  have h0 := (nth e 0).isLt
  have h1 := (nth e 1).isLt
  have h2 := (nth e 2).isLt
  have h3 := (nth e 3).isLt
  unfold wV
  rcases (by omega : t = 0 ∨ t = 1 ∨ t = 2 ∨ t = 3) with h | h | h | h <;> subst h <;> simp only [Nat.pow_zero, Nat.reducePow] <;> omega
theorem wexp_bit (e : List (BitVec 64)) (i : Nat) (hi : i < 256) : ((((nth e (i / 64)) >>> (BitVec.ofNat 64 (i % 64)).toNat) &&& 1#64) == 1#64) = decide (wV e / 2 ^ i % 2 = 1) := by
  rw [word_bit _ _ (by omega), ← wV_digit e (i / 64) (by omega)]
  have h2 : (2 : Nat) ^ i = 18446744073709551616 ^ (i / 64) * 2 ^ (i % 64) := by
    rw [show (18446744073709551616 : Nat) = 2 ^ 64 from rfl, ← Nat.pow_mul, ← Nat.pow_add, Nat.div_add_mod]
  rw [h2, ← Nat.div_div_eq_div_mul]
  generalize wV e / 18446744073709551616 ^ (i / 64) = x
  congr 1
  have hk : i % 64 < 64 := by omega
  generalize i % 64 = k at *
  have : x % 18446744073709551616 / 2 ^ k % 2 = x / 2 ^ k % 2 := by
    have e1 := Nat.testBit_mod_two_pow x 64 k
    rw [decide_eq_true hk, Bool.true_and] at e1
    rw [Nat.testBit_eq_decide_div_mod_eq, Nat.testBit_eq_decide_div_mod_eq] at e1
    have e2 := decide_eq_decide.1 e1
    rw [show (2 : Nat) ^ 64 = 18446744073709551616 from rfl] at e2
    omega
  rw [this]
theorem rfPow_W {a e : List (BitVec 64)} (ha : a.length = 4) : rfPow a e = WF (ZW a ^ wV e) := by
  have run : ∀ j, j ≤ 256 → (rfPow_L3 a e j).length = 4 ∧ ZW (rfPow_L3 a e j) = ZW a ^ (wV e / 2 ^ (256 - j)) ∧ (0 < j → rfPow_L3 a e j = WF (ZW a ^ (wV e / 2 ^ (256 - j)))) := by
    intro j
    induction j with
    | zero =>
      intro _
      have hz : wV e / 2 ^ (256 - 0) = 0 := Nat.div_eq_of_lt (wV_lt e)
      rw [hz, pow_zeroF]
      refine ⟨rfl, ?_, fun h => absurd h (by decide)⟩
      show zf (wV (put (zer64 4) 0 1#64)) = 1
      rw [one_word]; rfl
    | succ j ih =>
      intro hj
      obtain ⟨h1, h2, _⟩ := ih (by omega)
      have hb := wexp_bit e (255 - j) (by omega)
      have hq : wV e / 2 ^ (256 - (j + 1)) = 2 * (wV e / 2 ^ (256 - j)) + wV e / 2 ^ (255 - j) % 2 := by
        rw [show 256 - (j + 1) = 255 - j by omega, show 256 - j = (255 - j) + 1 by omega, Nat.pow_succ, ← Nat.div_div_eq_div_mul]
        omega
      have hs : rfMul (rfPow_L3 a e j) (rfPow_L3 a e j) = WF ((ZW a ^ (wV e / 2 ^ (256 - j))) ^ 2) := by
        rw [rfMul_W h1 h1, h2, sq_powF]
      have key : rfPow_L3 a e (j + 1) = WF (ZW a ^ (wV e / 2 ^ (256 - (j + 1)))) := by
        rw [rfPow_L3, rfPow_L3_S, hb, hq, pow_addF, Nat.mul_comm 2, pow_mulF, hs]
        by_cases hc : wV e / 2 ^ (255 - j) % 2 = 1
        · rw [decide_eq_true hc, if_pos rfl, hc, rfMul_W rfl ha, ZW_WF, pow_oneF]
        · rw [decide_eq_false hc, if_neg (by decide), show wV e / 2 ^ (255 - j) % 2 = 0 by omega, pow_zeroF, mul_oneF]
      exact ⟨by rw [key]; rfl, by rw [key, ZW_WF], fun _ => key⟩
  have := (run 256 (Nat.le_refl _)).2.2 (by decide)
  rw [Nat.sub_self, Nat.pow_zero, Nat.div_one] at this
  unfold rfPow
  exact this
theorem inv_exp : wV (rfsub0 rfP (put (zer64 4) 0 2#64)) = eInv := by decide +kernel
theorem rfInv_W {a : List (BitVec 64)} (ha : a.length = 4) : rfInv a = WF (invF (ZW a)) := by
  unfold rfInv invF
  rw [rfPow_W ha, inv_exp]
def wMod (a : List (BitVec 64)) : List (BitVec 64) := WF (ZW a)
def wSub (a b : List (BitVec 64)) : List (BitVec 64) := WF (ZW a - ZW b)
def wMul (a b : List (BitVec 64)) : List (BitVec 64) := WF (ZW a * ZW b)
def wPow (a e : List (BitVec 64)) : List (BitVec 64) := WF (ZW a ^ wV e)
def wInv (a : List (BitVec 64)) : List (BitVec 64) := WF (invF (ZW a))
@[simp] theorem wMod_len (a : List (BitVec 64)) : (wMod a).length = 4 := rfl
@[simp] theorem wSub_len (a b : List (BitVec 64)) : (wSub a b).length = 4 := rfl
@[simp] theorem wMul_len (a b : List (BitVec 64)) : (wMul a b).length = 4 := rfl
@[simp] theorem wPow_len (a b : List (BitVec 64)) : (wPow a b).length = 4 := rfl
@[simp] theorem wInv_len (a : List (BitVec 64)) : (wInv a).length = 4 := rfl
theorem wMod_same {a : List (BitVec 64)} (h : a.length = 4) : rfMod a = wMod a := rfMod_W h
theorem wSub_same {a b : List (BitVec 64)} (h : a.length = 4) (h' : b.length = 4) : rfSub a b = wSub a b := rfSub_W h h'
theorem wMul_same {a b : List (BitVec 64)} (h : a.length = 4) (h' : b.length = 4) : rfMul a b = wMul a b := rfMul_W h h'
theorem wPow_same {a e : List (BitVec 64)} (h : a.length = 4) : rfPow a e = wPow a e := rfPow_W h
theorem wInv_same {a : List (BitVec 64)} (h : a.length = 4) : rfInv a = wInv a := rfInv_W h
theorem ZW_of {b : List (BitVec 8)} : wV (rfOf b) = leS b 32 := by
  have run := words_run b (rfOf_L3 b) rfl (fun j => by rw [rfOf_L3, rfOf_L3_S, BitVec.toNat_ofNat, Nat.mod_eq_of_lt (by omega)]) 32 (Nat.le_refl _)
  have v : ∀ t, t < 4 → (nth (rfOf_L3 b 32) t).toNat = wvb b t 8 := fun t ht => by
    have := run.2 t ht
    rwa [show min 8 (32 - 8 * t) = 8 by omega] at this
  unfold rfOf wV
  rw [v 0 (by decide), v 1 (by decide), v 2 (by decide), v 3 (by decide), leS_wvb]
theorem exp_root : wV (rfHalf (rfHalf (rfHalf (rfadd0 rfP (put (zer64 4) 0 3#64))))) = eRoot := by decide +kernel
theorem exp_i : wV (rfHalf (rfHalf (rfsub0 rfP (put (zer64 4) 0 1#64)))) = eI := by decide +kernel
def R0 (a : List (BitVec 64)) : List (BitVec 64) := wPow (wMod a) (rfHalf (rfHalf (rfHalf (rfadd0 rfP (put (zer64 4) 0 3#64)))))
def R1 (a : List (BitVec 64)) : List (BitVec 64) := wMul (wPow (wMod a) (rfHalf (rfHalf (rfHalf (rfadd0 rfP (put (zer64 4) 0 3#64)))))) (wPow (put (zer64 4) 0 2#64) (rfHalf (rfHalf (rfsub0 rfP (put (zer64 4) 0 1#64)))))
theorem R0_W (a : List (BitVec 64)) : R0 a = WF (ZW a ^ eRoot) := by
  unfold R0 wPow wMod
  rw [ZW_WF, exp_root]
theorem R1_W (a : List (BitVec 64)) : R1 a = WF (ZW a ^ eRoot * iF) := by
  have e : R1 a = wMul (R0 a) (wPow (put (zer64 4) 0 2#64) (rfHalf (rfHalf (rfsub0 rfP (put (zer64 4) 0 1#64))))) := rfl
  rw [e, R0_W]
  unfold wMul wPow
  rw [ZW_WF, ZW_WF, exp_i]
  have : ZW (put (zer64 4) 0 2#64) = zf 2 := by unfold ZW; rw [one_word]; rfl
  rw [this, iF_pow]
theorem WF_inj {u v : Fp} : WF u = WF v ↔ u = v := ⟨fun h => by rw [← ZW_WF u, h, ZW_WF], fun h => by rw [h]⟩
theorem sq_test (a : List (BitVec 64)) (x : Fp) : (wMul (WF x) (WF x) = wMod a) ↔ x * x = ZW a := by
  unfold wMul wMod
  rw [ZW_WF]
  exact WF_inj
theorem even_W (x : Fp) : (if (((nth (WF x) 0) &&& 1#64) == 1#64) = true then wSub (zer64 4) (WF x) else WF x) = WF (evenF x) := by
  have h0 : nth (WF x) 0 = BitVec.ofNat 64 x.val := rfl
  have hb : (((nth (WF x) 0) &&& 1#64) == 1#64) = decide (x.val % 2 = 1) := by
    have := word_bit (nth (WF x) 0) 0 (by decide)
    rw [show (BitVec.ofNat 64 0).toNat = 0 from rfl, BitVec.ushiftRight_zero] at this
    rw [this, h0, BitVec.toNat_ofNat, Nat.pow_zero, Nat.div_one]
    congr 1
    apply propext
    omega
  rw [hb]
  unfold evenF
  by_cases h : x.val % 2 = 1
  · rw [decide_eq_true h, if_pos rfl, if_pos h]
    unfold wSub
    rw [ZW_WF]
    have : ZW (zer64 4) = 0 := by unfold ZW; rw [show wV (zer64 4) = 0 from by decide +kernel]; rfl
    rw [this]
  · rw [decide_eq_false h, if_neg (by decide), if_neg h]
def wRootIs (a : List (BitVec 64)) : Bool := decide (rootF (ZW a) * rootF (ZW a) = ZW a)
def wRoot (a : List (BitVec 64)) : List (BitVec 64) := WF (if rootF (ZW a) * rootF (ZW a) = ZW a then evenF (rootF (ZW a)) else 0)
@[simp] theorem wRoot_len (a : List (BitVec 64)) : (wRoot a).length = 4 := rfl
theorem rootF_of {z : Fp} (h : z ^ eRoot * z ^ eRoot = z) : rootF z = z ^ eRoot := by
  unfold rootF; rw [if_pos h]
theorem rootF_not {z : Fp} (h : ¬ z ^ eRoot * z ^ eRoot = z) : rootF z = z ^ eRoot * iF := by
  unfold rootF; rw [if_neg h]
theorem zero_words : zer64 4 = WF 0 := by decide +kernel
attribute [irreducible] wRootIs wRoot R0 R1 wMod wSub wMul wPow wInv
end Go.Proofs.Ytcekjmejppemeaa
/- The reference's bytes; small numbers; p. (Drawn up by a program.) -/
namespace Go.Proofs.Ytcekjmejppemeaa
open Go.RowKit
def rB (n : List (BitVec 64)) : List (BitVec 8) := toB (wV n)
@[simp] theorem rB_len (n : List (BitVec 64)) : (rB n).length = 32 := toB_len _
theorem rB_same (n : List (BitVec 64)) : rfBytes n = rB n := by
  unfold rfBytes rB
  refine bytes_run n (rfBytes_L3 n) rfl fun j => ?_
  rw [rfBytes_L3, rfBytes_L3_S, BitVec.toNat_ofNat, Nat.mod_eq_of_lt (by omega)]
theorem rB_ev (n : List (BitVec 64)) (hn : n.length = 4) : Ev Try.prog (.call 25 [.agg (.a64 n)] []) (.val (.agg (.a8 (rB n))) []) := by
  rw [← rB_same]; exact rfBytes_ev n hn
def fSmall (n : BitVec 64) : List (BitVec 8) := F (zf n.toNat)
@[simp] theorem fSmall_len (n : BitVec 64) : (fSmall n).length = 32 := F_len _
theorem small_same (n : BitVec 64) : rB (put (zer64 4) 0 n) = fSmall n := by
  unfold rB fSmall F
  have h := n.isLt
  have e : wV (put (zer64 4) 0 n) = n.toNat := by
    show n.toNat + (0#64).toNat * _ + (0#64).toNat * _ + (0#64).toNat * _ = _
    rw [show (0#64 : BitVec 64).toNat = 0 from rfl]
    omega
  rw [e, zf_val, Nat.mod_eq_of_lt (Nat.lt_trans h (by decide))]
/-- The bytes of p. -/
def pB : List (BitVec 8) := toB PP
@[simp] theorem pB_len : pB.length = 32 := toB_len _
theorem pB_same : rB rfP = pB := by
  unfold rB pB
  rw [show wV rfP = PP from by decide +kernel]
theorem pB_ev : Ev Try.prog (.call 25 [.agg (.a64 rfP)] []) (.val (.agg (.a8 pB)) []) := by
  rw [← pB_same]; exact rB_ev rfP (by kernel_rfl)
theorem leS_pB : leS pB 32 = PP := by
  unfold pB
  rw [leS_toB _ _ (Nat.le_refl _)]
  decide +kernel
theorem Z_pB : Z pB = 0 := by
  unfold Z
  rw [leS_pB]
  exact zf_P
attribute [irreducible] fSmall pB rB
end Go.Proofs.Ytcekjmejppemeaa
/- Facts for the statements about field. No program in sight. -/
namespace Go.Proofs.Ytcekjmejppemeaa
open Go.RowKit
theorem zs0 : zf (0#64 : BitVec 64).toNat = 0 := rfl
theorem zs1 : zf (1#64 : BitVec 64).toNat = 1 := rfl
theorem zs2 : zf (2#64 : BitVec 64).toNat = 2 := by decide +kernel
theorem zs37 : zf (37#64 : BitVec 64).toNat = zf 37 := rfl
theorem leS_small (n : BitVec 64) : leS (fSmall n) 32 = n.toNat := by
  unfold fSmall F
  rw [leS_toB _ _ (Nat.le_refl _), zf_val]
  have h := n.isLt
  rw [Nat.mod_eq_of_lt (Nat.lt_trans h (by decide)), Nat.mod_eq_of_lt (Nat.lt_trans h (by decide))]
theorem pow_P (u : Fp) : u ^ leS pB 32 = u := by
  have e : leS pB 32 = eOne + 1 := by rw [leS_pB]; decide +kernel
  rw [e, pow_succF]
  by_cases h : u = 0
  · rw [h, mul_zeroF]
  · rw [fermatF h, show (1 : Fp) * u = u from by grobner]
theorem half_add (n m : BitVec 64) : (n >>> 1 + m >>> 1).toNat = (n >>> 1).toNat + (m >>> 1).toNat := by
  have h1 := shr_nat n 1
  have h2 := shr_nat m 1
  have := n.isLt
  have := m.isLt
  exact add_nat (by rw [h1, h2]; omega)
theorem quot1 {u v : Fp} (h : v ≠ 0) : u * invF v * v = u := by
  have := inv_mulF h
  clear h
  grobner
theorem mul_invF {u : Fp} (h : u ≠ 0) : u * invF u = 1 := by
  have := inv_mulF h
  clear h
  grobner
theorem neg_add {u v : Fp} (h : u = -v) : u + v = 0 := by grobner
theorem evenF_sq (u : Fp) : evenF u * evenF u = u * u := by
  unfold evenF
  split
  · grobner
  · rfl
theorem evenF_even (u : Fp) : (evenF u).val % 2 = 0 := by
  unfold evenF
  split
  · rename_i h
    have hlt := u.isLt
    have e : (0 - u).val = PP - u.val := by
      rw [Fin.sub_def]
      show (PP - u.val + 0) % PP = _
      have hp : 0 < u.val := by omega
      rw [Nat.add_zero, Nat.mod_eq_of_lt (Nat.sub_lt (by decide) hp)]
    rw [e]
    show (57896044618658097711785492504343953926634992332820282019728792003956564819949 - u.val) % 2 = 0
    omega
  · omega
theorem root_is_sq (s : Fp) : rootF (s * s) = s ∨ rootF (s * s) = -s := sq_eq (rootF_sq s)
theorem evenF_or (u : Fp) : evenF u = u ∨ evenF u = -u := by
  unfold evenF
  split
  · exact .inr (by grobner)
  · exact .inl rfl
theorem even_root (s : Fp) : evenF (rootF (s * s)) = s ∨ evenF (rootF (s * s)) = -s := by
  rcases evenF_or (rootF (s * s)) with h | h <;> rcases root_is_sq s with g | g <;> rw [h, g]
  · exact .inl rfl
  · exact .inr rfl
  · exact .inr rfl
  · exact .inl (by grobner)
theorem even_bit {u : Fp} (h : u.val % 2 = 0) : (nth (F u) 0 % 2#8 == 0#8) = true := by
  rw [F_nth0, beq_iff_eq]
  apply BitVec.eq_of_toNat_eq
  rw [BitVec.toNat_umod, BitVec.toNat_ofNat]
  show u.val % 2 ^ 8 % 2 = 0
  omega
theorem fRoot_even (a : List (BitVec 8)) : (nth (fRoot a) 0 % 2#8 == 0#8) = true := by
  unfold fRoot
  refine even_bit ?_
  split
  · exact evenF_even _
  · rfl
theorem sq_rootIs (a : List (BitVec 8)) : fRootIs (fMul a a) = true := by
  unfold fRootIs fMul
  rw [Z_F]
  exact decide_eq_true (rootF_sq _)
theorem sq_root (a : List (BitVec 8)) : fRoot (fMul a a) = F (evenF (rootF (Z a * Z a))) := by
  unfold fRoot fMul
  rw [Z_F, if_pos (rootF_sq _)]
theorem rootIs_iff (a : List (BitVec 8)) : fRootIs a = true ↔ Z a = 0 ∨ Z a ^ eHalf = 1 := by
  unfold fRootIs
  rw [decide_eq_true_eq]
  exact root_iff _
theorem root_sq_of {a : List (BitVec 8)} (h : fRootIs a = true) : Z (fRoot a) * Z (fRoot a) = Z a := by
  unfold fRootIs at h
  unfold fRoot
  have h' := of_decide_eq_true h
  rw [if_pos h', Z_F, evenF_sq, h']
theorem root_none_of {a : List (BitVec 8)} (h : fRootIs a = false) : fRoot a = zer8 32 := by
  unfold fRootIs at h
  unfold fRoot
  rw [if_neg (of_decide_eq_false h), F_zero]
theorem root_zero {a : List (BitVec 8)} (h : Z a = 0) : fRoot a = fSmall 0#64 := by
  have hr : fRootIs a = true := (rootIs_iff a).2 (.inl h)
  have h1 := root_sq_of hr
  rw [h] at h1
  have h2 : Z (fRoot a) = 0 := by rcases nozero h1 with h | h <;> exact h
  unfold fSmall
  rw [zs0, ← h2]
  unfold fRoot
  rw [Z_F]
end Go.Proofs.Ytcekjmejppemeaa
/- The reference's functions, told by the field of 2^255 - 19. (Drawn up by a program.) -/
namespace Go.Proofs.Ytcekjmejppemeaa
open Go.RowKit
theorem wMod_ev (a : List (BitVec 64)) (ha : a.length = 4)  : Ev Try.prog (.call 82 [.agg (.a64 (a))] []) (.val (.agg (.a64 (wMod a))) [])  := by
  have h_ := rfMod_ev a ha
  rw [wMod_same ha] at h_
  exact h_
theorem wSub_ev (a : List (BitVec 64)) (b : List (BitVec 64)) (ha : a.length = 4) (hb : b.length = 4)  : Ev Try.prog (.call 55 [.agg (.a64 (a)), .agg (.a64 (b))] []) (.val (.agg (.a64 (wSub a b))) [])  := by
  have h_ := rfSub_ev a b ha hb
  rw [wSub_same ha hb] at h_
  exact h_
theorem wMul_ev (a : List (BitVec 64)) (b : List (BitVec 64)) (ha : a.length = 4) (hb : b.length = 4)  : Ev Try.prog (.call 53 [.agg (.a64 (a)), .agg (.a64 (b))] []) (.val (.agg (.a64 (wMul a b))) [])  := by
  have h_ := rfMul_ev a b ha hb
  rw [wMul_same ha hb] at h_
  exact h_
theorem wPow_ev (a : List (BitVec 64)) (e : List (BitVec 64)) (ha : a.length = 4) (he : e.length = 4)  : Ev Try.prog (.call 83 [.agg (.a64 (a)), .agg (.a64 (e))] []) (.val (.agg (.a64 (wPow a e))) [])  := by
  have h_ := rfPow_ev a e ha he
  rw [wPow_same ha] at h_
  exact h_
theorem wInv_ev (a : List (BitVec 64)) (ha : a.length = 4)  : Ev Try.prog (.call 56 [.agg (.a64 (a))] []) (.val (.agg (.a64 (wInv a))) [])  := by
  have h_ := rfInv_ev a ha
  rw [wInv_same ha] at h_
  exact h_
end Go.Proofs.Ytcekjmejppemeaa
/- trystref06.Add (Drawn up by a program.) -/
namespace Go.Proofs.Ytcekjmejppemeaa
open Go.RowKit
def rfAdd (a : List (BitVec 64)) (b : List (BitVec 64)) : List (BitVec 64) := wMod (rfadd0 (wMod a) (wMod b))
set_option maxRecDepth 100000 in
set_option maxHeartbeats 2000000 in
theorem rfAdd_ev (a : List (BitVec 64)) (b : List (BitVec 64)) (ha : a.length = 4) (hb : b.length = 4) : Ev Try.prog (.call 57 [.agg (.a64 (a)), .agg (.a64 (b))] []) (.val (.agg (.a64 (rfAdd a b))) []) := by
  have hP : Hid (rfAdd a b = wMod (rfadd0 (wMod a) (wMod b))) := ⟨rfl⟩
  refine c_call Try.func57 rfl Try.ntmps57 rfl LEN_ ?_
  refine S_ ?_
  refine c_region ?_
  refine s_memN (m_box BX_ LEN_) APP_ rfl ?_
  refine s_memN (m_box BX_ LEN_) APP_ rfl ?_
  refine s_memN (m_alloc al_38 LEN_) APP_ rfl ?_
  refine s_nil ?_
  have hQ1 : (wMod a).length = 4 := LQ_
  have hQ2 : (wMod b).length = 4 := LQ_
  have hQ3 : (rfadd0 (wMod a) (wMod b)).length = 4 := LQ_
  refine S_ ?_
  refine c_late 9 7 mixed (by kernel_rfl) (by kernel_rfl) rfl rfl rfl ?_
  refine h_val (v_loadR rfl rfl row_38 sz_38 EQ_ (by decide)) rfl ?_
  refine h_evN (e_callR (bs := []) (wMod_ev a HYP_) ok_82 (by kernel_rfl) (by kernel_rfl) rfl VAL_) APP_ rfl ?_
  refine h_val (v_loadR rfl rfl row_38 sz_38 EQ_ (by decide)) rfl ?_
  refine h_evN (e_callR (bs := []) (wMod_ev b HYP_) ok_82 (by kernel_rfl) (by kernel_rfl) rfl VAL_) APP_ rfl ?_
  refine h_evN (e_callR (bs := []) (rfadd_ev (wMod a) (wMod b) HYP_ HYP_) ok_81 (by kernel_rfl) (by kernel_rfl) rfl VAL_) APP_ rfl ?_
  refine h_val (v_moveT rfl) rfl ?_
  refine h_val (v_extract rfl rfl) rfl ?_
  refine h_val (v_extract rfl rfl) rfl ?_
  refine h_memN (m_alloc al_38 LEN_) APP_ rfl ?_
  refine h_nil ?_
  refine s_storeR rfl rfl rfl rfl sz_38 EQ_ EQ_ SET_ ?_
  refine s_val (v_assignC rfl) rfl ?_
  refine s_nil ?_
  refine S_ ?_
  refine c_region ?_
  refine s_val (v_moveC rfl) rfl ?_
  refine s_nil ?_
  have hQ4 : (wMod (rfadd0 (wMod a) (wMod b))).length = 4 := LQ_
  refine S_ ?_
  refine c_region ?_
  refine s_val (v_loadR rfl rfl row_38 sz_38 EQ_ (by decide)) rfl ?_
  refine s_evN (e_callR (bs := []) (wMod_ev (rfadd0 (wMod a) (wMod b)) HYP_) ok_82 (by kernel_rfl) (by kernel_rfl) rfl VAL_) APP_ rfl ?_
  refine s_storeR rfl rfl rfl rfl sz_38 EQ_ EQ_ SET_ ?_
  refine s_nil ?_
  refine S_ ?_
  rw [hP.out]
  exact k_1 (r_row rfl rfl row_38 sz_38 EQ_ (by decide)) (by first | kernel_rfl | rfl)

@[simp] theorem rfAdd_len (a : List (BitVec 64)) (b : List (BitVec 64)) (ha : a.length = 4) (hb : b.length = 4) : (rfAdd a b).length = 4 := by
  unfold rfAdd
  first | (simp (maxDischargeDepth := 9) [*]; done) | (simp (maxDischargeDepth := 9) [*]; omega) | (split <;> (simp (maxDischargeDepth := 9) [*]; done))

attribute [irreducible] rfAdd
end Go.Proofs.Ytcekjmejppemeaa
/- The reference's sum, told by the field of 2^255 - 19. (Drawn up by a program.) -/
namespace Go.Proofs.Ytcekjmejppemeaa
open Go.RowKit
def wAdd (a b : List (BitVec 64)) : List (BitVec 64) := WF (ZW a + ZW b)
@[simp] theorem wAdd_len (a b : List (BitVec 64)) : (wAdd a b).length = 4 := rfl
theorem wAdd_same {a b : List (BitVec 64)} (ha : a.length = 4) (hb : b.length = 4) : rfAdd a b = wAdd a b := by
  unfold rfAdd wAdd wMod
  generalize ZW a = u
  generalize ZW b = v
  obtain ⟨e1, c1⟩ := rfadd_val (a := WF u) (b := WF v) rfl rfl
  congr 1
  rw [WF_val, WF_val] at e1
  have hu := u.isLt
  have hv := v.isLt
  change _ < 57896044618658097711785492504343953926634992332820282019728792003956564819949 at hu
  change _ < 57896044618658097711785492504343953926634992332820282019728792003956564819949 at hv
  have hw : wV (rfadd0 (WF u) (WF v)) = u.val + v.val := by omega
  unfold ZW
  rw [hw, zf_add, zf_self, zf_self]
theorem wAdd_ev (a : List (BitVec 64)) (b : List (BitVec 64)) (ha : a.length = 4) (hb : b.length = 4)  : Ev Try.prog (.call 57 [.agg (.a64 (a)), .agg (.a64 (b))] []) (.val (.agg (.a64 (wAdd a b))) [])  := by
  have h_ := rfAdd_ev a b ha hb
  rw [wAdd_same ha hb] at h_
  exact h_
end Go.Proofs.Ytcekjmejppemeaa
/- curve.bend, curve.none (Drawn up by a program.) -/
namespace Go.Proofs.Ytcekjmejppemeaa
open Go.RowKit
def cvBend  : List (BitVec 64) := lmOf [163#8, 120#8, 89#8, 19#8, 202#8, 77#8, 235#8, 117#8, 171#8, 216#8, 65#8, 65#8, 77#8, 10#8, 112#8, 0#8, 152#8, 232#8, 121#8, 119#8, 121#8, 64#8, 199#8, 140#8, 115#8, 254#8, 111#8, 43#8, 238#8, 108#8, 3#8, 82#8]
set_option maxRecDepth 100000 in
set_option maxHeartbeats 2000000 in
theorem cvBend_ev   : Ev Try.prog (.call 73 [] []) (.val (.agg (.a64 (cvBend))) []) := by
  have hP : Hid (cvBend = lmOf [163#8, 120#8, 89#8, 19#8, 202#8, 77#8, 235#8, 117#8, 171#8, 216#8, 65#8, 65#8, 77#8, 10#8, 112#8, 0#8, 152#8, 232#8, 121#8, 119#8, 121#8, 64#8, 199#8, 140#8, 115#8, 254#8, 111#8, 43#8, 238#8, 108#8, 3#8, 82#8]) := ⟨rfl⟩
  refine c_call Try.func73 rfl Try.ntmps73 rfl LEN_ ?_
  refine S_ ?_
  refine c_region ?_
  refine s_memN (m_alloc al_54 LEN_) APP_ rfl ?_
  refine s_nil ?_
  have hQ1 : (lmOf [163#8, 120#8, 89#8, 19#8, 202#8, 77#8, 235#8, 117#8, 171#8, 216#8, 65#8, 65#8, 77#8, 10#8, 112#8, 0#8, 152#8, 232#8, 121#8, 119#8, 121#8, 64#8, 199#8, 140#8, 115#8, 254#8, 111#8, 43#8, 238#8, 108#8, 3#8, 82#8]).length = 5 := LQ_
  refine S_ ?_
  refine c_region ?_
  refine s_val (v_bld8 (l := [163#8, 120#8, 89#8, 19#8, 202#8, 77#8, 235#8, 117#8, 171#8, 216#8, 65#8, 65#8, 77#8, 10#8, 112#8, 0#8, 152#8, 232#8, 121#8, 119#8, 121#8, 64#8, 199#8, 140#8, 115#8, 254#8, 111#8, 43#8, 238#8, 108#8, 3#8, 82#8]) zc_22 Try.underlying22 sz_5 rfl rfl (by decide)) rfl ?_
  refine s_evN (e_callR (bs := []) (lmOf_ev [163#8, 120#8, 89#8, 19#8, 202#8, 77#8, 235#8, 117#8, 171#8, 216#8, 65#8, 65#8, 77#8, 10#8, 112#8, 0#8, 152#8, 232#8, 121#8, 119#8, 121#8, 64#8, 199#8, 140#8, 115#8, 254#8, 111#8, 43#8, 238#8, 108#8, 3#8, 82#8] HYP_) ok_41 (by kernel_rfl) (by kernel_rfl) rfl VAL_) APP_ rfl ?_
  refine s_storeR rfl rfl rfl rfl sz_54 EQ_ EQ_ SET_ ?_
  refine s_nil ?_
  refine S_ ?_
  rw [hP.out]
  exact k_1 (r_row rfl rfl row_54 sz_54 EQ_ (by decide)) (by first | kernel_rfl | rfl)

@[simp] theorem cvBend_len  : (cvBend).length = 5 := by
  unfold cvBend
  first | (simp [*]; done) | (simp [*]; omega)

attribute [irreducible] cvBend

def cvNone  : List (BitVec 64) := (lmSmall 0#64) ++ (lmSmall 1#64) ++ (lmSmall 1#64) ++ (lmSmall 0#64)
set_option maxRecDepth 100000 in
set_option maxHeartbeats 2000000 in
theorem cvNone_ev   : Ev Try.prog (.call 72 [] []) (.val (.agg (.a64 (cvNone))) []) := by
  have hP : Hid (cvNone = (lmSmall 0#64) ++ (lmSmall 1#64) ++ (lmSmall 1#64) ++ (lmSmall 0#64)) := ⟨rfl⟩
  refine c_call Try.func72 rfl Try.ntmps72 rfl LEN_ ?_
  refine S_ ?_
  refine c_region ?_
  refine s_memN (m_alloc al_56 LEN_) APP_ rfl ?_
  refine s_nil ?_
  have hQ1 : (lmSmall 0#64).length = 5 := LQ_
  have hQ2 : (lmSmall 1#64).length = 5 := LQ_
  refine S_ ?_
  refine c_region ?_
  refine s_evN (e_callR (bs := []) (lmSmall_ev 0#64) ok_49 (by kernel_rfl) (by kernel_rfl) rfl VAL_) APP_ rfl ?_
  refine s_evN (e_callR (bs := []) (lmSmall_ev 1#64) ok_49 (by kernel_rfl) (by kernel_rfl) rfl VAL_) APP_ rfl ?_
  refine s_evN (e_callR (bs := []) (lmSmall_ev 1#64) ok_49 (by kernel_rfl) (by kernel_rfl) rfl VAL_) APP_ rfl ?_
  refine s_evN (e_callR (bs := []) (lmSmall_ev 0#64) ok_49 (by kernel_rfl) (by kernel_rfl) rfl VAL_) APP_ rfl ?_
  refine s_val (v_bld4 rfl rfl rfl rfl (bs_56 EQL_ EQL_ EQL_ EQL_)) rfl ?_
  refine s_storeR rfl rfl rfl rfl sz_56 EQ_ EQ_ SET_ ?_
  refine s_nil ?_
  refine S_ ?_
  rw [hP.out]
  exact k_1 (r_row rfl rfl row_56 sz_56 EQ_ (by decide)) (by first | kernel_rfl | rfl)

@[simp] theorem cvNone_len  : (cvNone).length = 20 := by
  unfold cvNone
  first | (simp (maxDischargeDepth := 9) [*]; done) | (simp (maxDischargeDepth := 9) [*]; omega) | (split <;> (simp (maxDischargeDepth := 9) [*]; done))

attribute [irreducible] cvNone
end Go.Proofs.Ytcekjmejppemeaa
/- The parts of a point told from bytes. -/
namespace Go.Proofs.Ytcekjmejppemeaa
open Go.RowKit
def unY (b : List (BitVec 8)) : List (BitVec 64) := lmOf (put b 31 ((nth b 31) &&& 127#8))
def unYY (b : List (BitVec 8)) : List (BitVec 64) := lmMul (unY b) (unY b)
def unXX (b : List (BitVec 8)) : List (BitVec 64) := lmMul (lmSub (unYY b) (lmSmall 1#64)) (lmInv (lmAdd (lmMul cvBend (unYY b)) (lmSmall 1#64)))
def unR (b : List (BitVec 8)) : List (BitVec 64) := lmRoot0 (unXX b)
def unIs (b : List (BitVec 8)) : Bool := lmRoot1 (unXX b)
def unC (b : List (BitVec 8)) : Bool := decide (lmBytes (unY b) = put b 31 ((nth b 31) &&& 127#8))
def unZ (b : List (BitVec 8)) : Bool := decide (lmBytes (unR b) = lmBytes (lmSmall 0#64))
def unO (b : List (BitVec 8)) : Bool := ((nth b 31) >>> 7) == 1#8
@[simp] theorem unY_len (b : List (BitVec 8)) (hb : b.length = 32) : (unY b).length = 5 := by unfold unY; simp (maxDischargeDepth := 9) [hb]
@[simp] theorem unYY_len (b : List (BitVec 8)) (hb : b.length = 32) : (unYY b).length = 5 := by unfold unYY; simp (maxDischargeDepth := 9) [hb]
@[simp] theorem unXX_len (b : List (BitVec 8)) (hb : b.length = 32) : (unXX b).length = 5 := by unfold unXX; simp (maxDischargeDepth := 9) [hb]
@[simp] theorem unR_len (b : List (BitVec 8)) (hb : b.length = 32) : (unR b).length = 5 := by unfold unR; simp (maxDischargeDepth := 9) [hb]
theorem unY_ev (b : List (BitVec 8)) (hb : b.length = 32) : Ev Try.prog (.call 41 [.agg (.a8 (put b 31 ((nth b 31) &&& 127#8)))] []) (.val (.agg (.a64 (unY b))) []) := lmOf_ev _ (by simp (maxDischargeDepth := 9) [hb])
theorem unYY_ev (b : List (BitVec 8)) (hb : b.length = 32) : Ev Try.prog (.call 43 [.agg (.a64 (unY b)), .agg (.a64 (unY b))] []) (.val (.agg (.a64 (unYY b))) []) := lmMul_ev _ _ (by simp (maxDischargeDepth := 9) [hb]) (by simp (maxDischargeDepth := 9) [hb])
theorem unXX_ev (b : List (BitVec 8)) (hb : b.length = 32) : Ev Try.prog (.call 43 [.agg (.a64 (lmSub (unYY b) (lmSmall 1#64))), .agg (.a64 (lmInv (lmAdd (lmMul cvBend (unYY b)) (lmSmall 1#64))))] []) (.val (.agg (.a64 (unXX b))) []) := lmMul_ev _ _ (by simp (maxDischargeDepth := 9) [hb]) (by simp (maxDischargeDepth := 9) [hb])
theorem unRoot_ev (b : List (BitVec 8)) (r : Bool) (hr : unIs b = r) (hb : b.length = 32) : Ev Try.prog (.call 47 [.agg (.a64 (unXX b))] []) (.val (.tup [.agg (.a64 (unR b)), .c (.val (.bool r))]) []) := by
  rw [← hr]
  exact lmRoot_ev _ (by simp (maxDischargeDepth := 9) [hb])
theorem unSame_ev (b : List (BitVec 8)) (r : Bool) (hr : unZ b = r) (hb : b.length = 32) : Ev Try.prog (.call 75 [.agg (.a64 (unR b)), .agg (.a64 (lmSmall 0#64))] []) (.val (.c (.val (.bool r))) []) := by
  rw [← hr]
  exact lmSame_ev _ _ (by simp (maxDischargeDepth := 9) [hb]) (by simp)
theorem unC_eq {b : List (BitVec 8)} {r : Bool} (h : unC b = r) : (!decide (lmBytes (unY b) = put b 31 ((nth b 31) &&& 127#8))) = !r := by rw [← h]; rfl
theorem unO_eq {b : List (BitVec 8)} {r : Bool} (h : unO b = r) : (((nth b 31) >>> 7) == 1#8) = r := h
attribute [irreducible] unY unYY unXX unR unIs unC unZ unO
end Go.Proofs.Ytcekjmejppemeaa
/- curve.unpacked (Drawn up by a program.) -/
namespace Go.Proofs.Ytcekjmejppemeaa
open Go.RowKit
def cvUnA0  : List (BitVec 64) := zer64 20
set_option maxRecDepth 100000 in
set_option maxHeartbeats 2000000 in
theorem cvUnA_ev (b : List (BitVec 8)) (hb : b.length = 32) (hC : unC b = false) : Ev Try.prog (.call 39 [.agg (.a8 (b))] []) (.val (.tup [.agg (.a64 (cvUnA0)), .c (.val (.bool (false)))]) []) := by
  have hP_cvUnA0 : Hid (cvUnA0 = zer64 20) := ⟨rfl⟩
  refine c_call Try.func39 rfl Try.ntmps39 rfl LEN_ ?_
  refine S_ ?_
  refine c_region ?_
  refine s_memN (m_box BX_ LEN_) APP_ rfl ?_
  refine s_memN (m_alloc al_56 LEN_) APP_ rfl ?_
  refine s_val (v_assignC rfl) rfl ?_
  refine s_nil ?_
  refine S_ ?_
  refine c_region ?_
  refine s_val (v_idxA1 (j := 31) rfl rfl Try.underlying22 sz_5 (by omega)) rfl ?_
  refine s_val (v_load8 rfl rfl row_5 LT_) rfl ?_
  refine s_val (v_shr8n (j := 7) rfl rfl) rfl ?_
  refine s_val (v_eql8 (b := 1#8) rfl rfl) rfl ?_
  refine s_val (v_assignC rfl) rfl ?_
  refine s_nil ?_
  refine S_ ?_
  refine c_region ?_
  refine s_val (v_idxA1 (j := 31) rfl rfl Try.underlying22 sz_5 (by omega)) rfl ?_
  refine s_val (v_load8 rfl rfl row_5 LT_) rfl ?_
  refine s_val (v_and8 (b := 127#8) rfl rfl) rfl ?_
  refine s_val (v_idxA1 (j := 31) rfl rfl Try.underlying22 sz_5 (by omega)) rfl ?_
  refine s_store8 rfl rfl rfl sz_5 LT_ SET_ ?_
  refine s_nil ?_
  have hQ1 : (unY b).length = 5 := LQ_
  refine S_ ?_
  refine c_region ?_
  refine s_val (v_loadR rfl rfl row_22 sz_22 EQ_ (by decide)) rfl ?_
  refine s_evN (e_callR (bs := []) (unY_ev b hb) ok_41 (by kernel_rfl) (by kernel_rfl) rfl VAL_) APP_ rfl ?_
  refine s_memN (m_alloc al_54 LEN_) APP_ rfl ?_
  refine s_storeR rfl rfl rfl rfl sz_54 EQ_ EQ_ SET_ ?_
  refine s_nil ?_
  have hQ2 : (lmBytes (unY b)).length = 32 := LQ_
  refine S_ ?_
  refine c_draw 4 mixed (by kernel_rfl) rfl rfl rfl ?_
  refine h_val (v_loadR rfl rfl row_54 sz_54 EQ_ (by decide)) rfl ?_
  refine h_evN (e_callR (bs := []) (lmBytes_ev (unY b) HYP_) ok_42 (by kernel_rfl) (by kernel_rfl) rfl VAL_) APP_ rfl ?_
  refine h_val (v_loadR rfl rfl row_22 sz_22 EQ_ (by decide)) rfl ?_
  refine h_val (v_neqR8 rfl rfl Try.underlying22 Try.underlying5 sz_5 EQ_ EQ_) rfl ?_
  refine h_nil ?_
  refine s_nil ?_
  refine Q_ ?_
  refine c_condT rfl (unC_eq hC) ?_
  refine S_ ?_
  refine c_region ?_
  refine s_val (v_bld0 bz_56) rfl ?_
  refine s_storeR rfl rfl rfl rfl sz_56 EQ_ EQ_ SET_ ?_
  refine s_val (v_assignC rfl) rfl ?_
  refine s_nil ?_
  refine S_ ?_
  rw [hP_cvUnA0.out]
  exact k_2 (r_row rfl rfl row_56 sz_56 EQ_ (by decide)) (by first | exact r_tmpC rfl | exact r_tmpA rfl) (by first | kernel_rfl | rfl)

@[simp] theorem cvUnA0_len  : (cvUnA0).length = 20 := by
  unfold cvUnA0
  first | (simp (maxDischargeDepth := 9) [*]; done) | (simp (maxDischargeDepth := 9) [*]; omega) | (split <;> (simp (maxDischargeDepth := 9) [*]; done))

attribute [irreducible] cvUnA0
end Go.Proofs.Ytcekjmejppemeaa
