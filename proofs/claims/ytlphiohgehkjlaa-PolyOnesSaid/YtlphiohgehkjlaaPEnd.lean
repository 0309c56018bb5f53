/- What poly.tag tells, as a number. No program in sight. (Printed by a program.) -/
import Derived.Test.YtlphiohgehkjlaaPPieces
namespace Go.Proofs.Ytlphiohgehkjlaa
open Go.RowKit
theorem or_cut (a b : BitVec 64) (k : Nat) (hk : k < 64) (h : a.toNat < 2 ^ k) : (a ||| (b <<< k)).toNat = a.toNat + (b.toNat % 2 ^ (64 - k)) * 2 ^ k := by
  have hp : 2 ^ 64 = 2 ^ (64 - k) * 2 ^ k := by rw [← Nat.pow_add]; congr 1; omega
  rw [BitVec.toNat_or, BitVec.toNat_shiftLeft, Nat.shiftLeft_eq, hp, Nat.mul_mod_mul_right, Nat.or_comm, Nat.mul_comm, ← Nat.two_pow_add_eq_or_of_lt h]
  omega
theorem small_mid {l : List (BitVec 64)} (h : belowF 67108864 l) : belowF 67108869 l := by unfold belowF at *; omega
theorem modL_val (h : List (BitVec 64)) (hl : h.length = 5) (hF : belowF 67108869 h) : v5 (modL h) = v5 h % pP ∧ belowF 67108864 (modL h) ∧ (modL h).length = 5 := by
  have l1 : (carriedL h).length = 5 := by rw [carriedL_length, hl]
  have l2 : (carriedL (carriedL h)).length = 5 := by rw [carriedL_length, l1]
  have l3 : (carriedL (carriedL (carriedL h))).length = 5 := by rw [carriedL_length, l2]
  have f1 := carry_small h hl hF
  have f2 := carry_small _ l1 (small_mid f1)
  have f3 := carry_small _ l2 (small_mid f2)
  have o1 := (carry_any h hl (by unfold below; unfold belowF at hF; omega)).mod
  have o2 := (carry_any _ l1 (by unfold below; unfold belowF at f1; omega)).mod
  have o3 := (carry_any _ l2 (by unfold below; unfold belowF at f2; omega)).mod
  have hM := modL_eq h _ rfl
  rw [o1, o2, o3, hM]
  clear o1 o2 o3 hM f1 f2 hF
  generalize carriedL (carriedL (carriedL h)) = S at *
  obtain ⟨a, b, c, d, e, rfl⟩ := five l3
  obtain ⟨ha, hb, hc, hd, he⟩ := f3
  have ha : a.toNat < 67108864 := ha
  have hb : b.toNat < 67108864 := hb
  have hc : c.toNat < 67108864 := hc
  have hd : d.toNat < 67108864 := hd
  have he : e.toNat < 67108864 := he
  have h5 : (a + 5#64).toNat = a.toNat + 5 := add_nat a 5#64 (by show _ + 5 < _; omega)
  have hput : put [a, b, c, d, e] 0 (nth [a, b, c, d, e] 0 + 5#64) = [a + 5#64, b, c, d, e] := rfl
  rw [hput]
  obtain ⟨y0, y1, y2, y3, y4, k, c1, c2, c3, c4, hE, ⟨h0, h1, h2, h3, h4⟩⟩ := carrySt5 (a + 5#64) b c d e (by
    refine ⟨?_, ?_, ?_, ?_, ?_⟩
    · show (a + 5#64).toNat < _
      omega
    · show b.toNat < _
      omega
    · show c.toNat < _
      omega
    · show d.toNat < _
      omega
    · show e.toNat < _
      omega)
  rw [hE]
  dsimp only
  rw [h5] at h0
  by_cases hk : 0 < k.toNat
  · rw [if_pos hk]
    refine ⟨?_, ⟨h0.2, h1.2, h2.2, h3.2, h4.2⟩, rfl⟩
    have hk1 : k.toNat = 1 := by omega
    have hV : v5 [a, b, c, d, e] = v5 [y0, y1, y2, y3, y4] + pP := by
      rw [v5_eq, v5_eq]
      unfold pP
      omega
    have hlt : v5 [y0, y1, y2, y3, y4] < pP := by
      have : v5 [a, b, c, d, e] < 1361129467683753853853498429727072845824 := by rw [v5_eq]; omega
      unfold pP at *
      omega
    rw [hV, Nat.add_mod_right, Nat.mod_eq_of_lt hlt]
  · rw [if_neg hk]
    refine ⟨?_, ⟨ha, hb, hc, hd, he⟩, rfl⟩
    rw [v5_eq]
    unfold pP
    omega
theorem loL_eq (h : List (BitVec 64)) : loL h = (nth h 0 ||| (nth h 1 <<< 26)) ||| (nth h 2 <<< 52) := by with_unfolding_all rfl
theorem hiL_eq (h : List (BitVec 64)) : hiL h = ((nth h 2 >>> 12) ||| (nth h 3 <<< 14)) ||| (nth h 4 <<< 40) := by with_unfolding_all rfl
theorem half_val (l : List (BitVec 64)) (hl : l.length = 5) (hF : belowF 67108864 l) : (loL l).toNat + 18446744073709551616 * (hiL l).toNat = v5 l % 340282366920938463463374607431768211456 := by
  obtain ⟨a, b, c, d, e, rfl⟩ := five hl
  obtain ⟨ha, hb, hc, hd, he⟩ := hF
  have ha : a.toNat < 67108864 := ha
  have hb : b.toNat < 67108864 := hb
  have hc : c.toNat < 67108864 := hc
  have hd : d.toNat < 67108864 := hd
  have he : e.toNat < 67108864 := he
  have s1 := or_cut a b 26 (by omega) ha
  have s2 := or_cut (a ||| (b <<< 26)) c 52 (by omega) (by rw [s1]; omega)
  have c12 : (c >>> 12).toNat = c.toNat / 4096 := by rw [BitVec.toNat_ushiftRight, Nat.shiftRight_eq_div_pow]
  have t1 := or_cut (c >>> 12) d 14 (by omega) (by rw [c12]; omega)
  have t2 := or_cut ((c >>> 12) ||| (d <<< 14)) e 40 (by omega) (by rw [t1, c12]; omega)
  have hlo : (loL [a, b, c, d, e]).toNat = a.toNat + b.toNat % 2 ^ (64 - 26) * 2 ^ 26 + c.toNat % 2 ^ (64 - 52) * 2 ^ 52 := by rw [loL_eq, ← s1, ← s2]; rfl
  have hhi : (hiL [a, b, c, d, e]).toNat = c.toNat / 4096 + d.toNat % 2 ^ (64 - 14) * 2 ^ 14 + e.toNat % 2 ^ (64 - 40) * 2 ^ 40 := by rw [hiL_eq, ← c12, ← t1, ← t2]; rfl
  rw [hlo, hhi, v5_eq]
  omega
theorem sixteen8 (lo hi : BitVec 64) : sixteen lo hi 8 = [(lo >>> (8 * 0)).setWidth 8, (lo >>> (8 * 1)).setWidth 8, (lo >>> (8 * 2)).setWidth 8, (lo >>> (8 * 3)).setWidth 8, (lo >>> (8 * 4)).setWidth 8, (lo >>> (8 * 5)).setWidth 8, (lo >>> (8 * 6)).setWidth 8, (lo >>> (8 * 7)).setWidth 8, (hi >>> (8 * 0)).setWidth 8, (hi >>> (8 * 1)).setWidth 8, (hi >>> (8 * 2)).setWidth 8, (hi >>> (8 * 3)).setWidth 8, (hi >>> (8 * 4)).setWidth 8, (hi >>> (8 * 5)).setWidth 8, (hi >>> (8 * 6)).setWidth 8, (hi >>> (8 * 7)).setWidth 8] := by kernel_rfl
theorem byte_of (x : BitVec 64) (k : Nat) : ((x >>> k).setWidth 8).toNat = x.toNat / 2 ^ k % 256 := by
  rw [BitVec.toNat_setWidth, BitVec.toNat_ushiftRight, Nat.shiftRight_eq_div_pow]
theorem sixteen_val (lo hi : BitVec 64) : bN (sixteen lo hi 8) = lo.toNat + 18446744073709551616 * hi.toNat := by
  have h1 := lo.isLt
  have h2 := hi.isLt
  rw [sixteen8]
  simp only [bN_cons, bN_nil, byte_of]
  omega
/-- The second half of the key, as a number. -/
def sN (key : List (BitVec 8)) : Nat := bN key / 340282366920938463463374607431768211456 % 340282366920938463463374607431768211456
theorem tagEnd_val (h : List (BitVec 64)) (key : List (BitVec 8)) (hl : h.length = 5) (hF : belowF 67108869 h) : bN (tagEnd h key) = (v5 h % pP + sN key) % 340282366920938463463374607431768211456 := by
  obtain ⟨m1, m2, m3⟩ := modL_val h hl hF
  have hv := half_val _ m3 m2
  have k1 := lowAt_nat key 16 8 (by omega)
  have k2 := lowAt_nat key 24 8 (by omega)
  rw [tagEnd_eq, sixteen_val]
  rw [m1] at hv
  generalize loL (modL h) = lo at *
  generalize hiL (modL h) = hi at *
  have x1 := lo.isLt
  have x2 := hi.isLt
  generalize lowAt key 16 8 = a at *
  generalize lowAt key 24 8 = b at *
  have e1 : (lo + a + 0#64).toNat = (lo.toNat + a.toNat) % 18446744073709551616 := by rw [BitVec.add_zero, BitVec.toNat_add]
  have e2 : (addC lo a 0#64).toNat = (lo.toNat + a.toNat) / 18446744073709551616 := by
    unfold addC
    rw [BitVec.toNat_ofNat]
    show (lo.toNat + a.toNat + 0) / _ % _ = _
    have := a.isLt
    omega
  have e3 : (hi + b + addC lo a 0#64).toNat = (hi.toNat + b.toNat + (lo.toNat + a.toNat) / 18446744073709551616) % 18446744073709551616 := by
    rw [BitVec.toNat_add, BitVec.toNat_add, e2]
    omega
  have hs : sN key = a.toNat + 18446744073709551616 * b.toNat := by
    rw [k1, k2]
    unfold sN
    generalize bN key = N
    omega
  rw [e1, e3, hs]
  generalize v5 h % pP = V at *
  have := a.isLt
  have := b.isLt
  omega
theorem polyTag_val (key t : List (BitVec 8)) (hk : key.length = 32) (r : Nat) (hr : bN (rBytes key) = r) (hr2 : r < 1361129467683753853853498429727072845824) : bN (polyTag key t) = (accN r t ((t.length + 15) / 16) + sN key) % 340282366920938463463374607431768211456 := by
  have hrl : (rBytes key).length = 17 := by unfold rBytes; rw [List.length_append, clampB_length, clampA_length, cut_length]; show min 16 (key.length - 0) + 1 = 17; omega
  obtain ⟨w1, w2⟩ := words_val _ hrl (by rw [hr]; exact hr2)
  obtain ⟨t1, t2⟩ := tagSt_val _ t (wordsL_length (rBytes key) 5) w2 ((t.length + 15) / 16) (by omega)
  unfold polyTag
  rw [tagEnd_val _ key (tagSt_length _ _ _) t2, t1, w1, hr]
end Go.Proofs.Ytlphiohgehkjlaa
