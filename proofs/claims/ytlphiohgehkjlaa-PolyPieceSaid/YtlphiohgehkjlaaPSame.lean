/- poly.Tag and the reference's Tag are one. No program in sight. (Printed by a program.) -/
import Derived.Test.YtlphiohgehkjlaaPRefAll
namespace Go.Proofs.Ytlphiohgehkjlaa
open Go.RowKit
theorem many {l : List (BitVec 8)} (h : l.length = 32) : ∃ k0 k1 k2 k3 k4 k5 k6 k7 k8 k9 k10 k11 k12 k13 k14 k15 k16 k17 k18 k19 k20 k21 k22 k23 k24 k25 k26 k27 k28 k29 k30 k31, l = [k0, k1, k2, k3, k4, k5, k6, k7, k8, k9, k10, k11, k12, k13, k14, k15, k16, k17, k18, k19, k20, k21, k22, k23, k24, k25, k26, k27, k28, k29, k30, k31] := by
  match l, h with
  | [k0, k1, k2, k3, k4, k5, k6, k7, k8, k9, k10, k11, k12, k13, k14, k15, k16, k17, k18, k19, k20, k21, k22, k23, k24, k25, k26, k27, k28, k29, k30, k31], _ => exact ⟨_, _, _, _, _, _, _, _, _, _, _, _, _, _, _, _, _, _, _, _, _, _, _, _, _, _, _, _, _, _, _, _, rfl⟩
theorem rBytes32 (k0 k1 k2 k3 k4 k5 k6 k7 k8 k9 k10 k11 k12 k13 k14 k15 k16 k17 k18 k19 k20 k21 k22 k23 k24 k25 k26 k27 k28 k29 k30 k31 : BitVec 8) : rBytes [k0, k1, k2, k3, k4, k5, k6, k7, k8, k9, k10, k11, k12, k13, k14, k15, k16, k17, k18, k19, k20, k21, k22, k23, k24, k25, k26, k27, k28, k29, k30, k31] = [k0, k1, k2, k3 &&& 15#8, k4 &&& 252#8, k5, k6, k7 &&& 15#8, k8 &&& 252#8, k9, k10, k11 &&& 15#8, k12 &&& 252#8, k13, k14, k15 &&& 15#8, 0#8] := by kernel_rfl
theorem refR32 (k0 k1 k2 k3 k4 k5 k6 k7 k8 k9 k10 k11 k12 k13 k14 k15 k16 k17 k18 k19 k20 k21 k22 k23 k24 k25 k26 k27 k28 k29 k30 k31 : BitVec 8) : refR [k0, k1, k2, k3, k4, k5, k6, k7, k8, k9, k10, k11, k12, k13, k14, k15, k16, k17, k18, k19, k20, k21, k22, k23, k24, k25, k26, k27, k28, k29, k30, k31] = [k0.setWidth 32, k1.setWidth 32, k2.setWidth 32, k3.setWidth 32 &&& 15#32, k4.setWidth 32 &&& 252#32, k5.setWidth 32, k6.setWidth 32, k7.setWidth 32 &&& 15#32, k8.setWidth 32 &&& 252#32, k9.setWidth 32, k10.setWidth 32, k11.setWidth 32 &&& 15#32, k12.setWidth 32 &&& 252#32, k13.setWidth 32, k14.setWidth 32, k15.setWidth 32 &&& 15#32, 0#32, 0#32, 0#32, 0#32, 0#32, 0#32, 0#32, 0#32, 0#32, 0#32, 0#32, 0#32, 0#32, 0#32, 0#32, 0#32, 0#32, 0#32, 0#32, 0#32, 0#32, 0#32, 0#32, 0#32, 0#32, 0#32, 0#32, 0#32, 0#32, 0#32, 0#32, 0#32, 0#32, 0#32, 0#32, 0#32, 0#32, 0#32, 0#32, 0#32, 0#32, 0#32, 0#32, 0#32, 0#32, 0#32, 0#32, 0#32] := by kernel_rfl
theorem wide (x : BitVec 8) : (x.setWidth 32).toNat = x.toNat := by rw [BitVec.toNat_setWidth, Nat.mod_eq_of_lt (by have := x.isLt; omega)]
theorem lo4 (x : BitVec 8) : (x &&& 15#8).toNat = x.toNat % 16 := by
  rw [BitVec.toNat_and]
  exact Nat.and_two_pow_sub_one_eq_mod x.toNat 4
theorem lo4w (x : BitVec 8) : (x.setWidth 32 &&& 15#32).toNat = x.toNat % 16 := by
  rw [BitVec.toNat_and, wide]
  exact Nat.and_two_pow_sub_one_eq_mod x.toNat 4
theorem hi6 (x : BitVec 8) : (x.setWidth 32 &&& 252#32).toNat = (x &&& 252#8).toNat := by
  rw [BitVec.toNat_and, BitVec.toNat_and, wide]
  rfl
theorem and_le (x m : BitVec 32) : (x &&& m).toNat ≤ x.toNat := by rw [BitVec.toNat_and]; exact Nat.and_le_left
theorem refR_under (key : List (BitVec 8)) : under 256 (refR key) := by
  have h1 : ∀ k, under 256 (setR key k) := fun k => by
    induction k with
    | zero => intro j; show (nth (zer32 64) j).toNat < 256; rw [nth_zer32]; decide
    | succ k ih => exact under_put ih _ _ (by rw [wide]; exact BitVec.isLt _)
  have h2 : ∀ k, under 256 (rA (setR key 16) k) := fun k => by
    induction k with
    | zero => exact h1 16
    | succ k ih => exact under_put ih _ _ (Nat.lt_of_le_of_lt (and_le _ _) (ih _))
  have h3 : ∀ k, under 256 (rB (rA (setR key 16) 4) k) := fun k => by
    induction k with
    | zero => exact h2 4
    | succ k ih => exact under_put ih _ _ (Nat.lt_of_le_of_lt (and_le _ _) (ih _))
  exact h3 3
theorem key_val (key : List (BitVec 8)) (hk : key.length = 32) : dN ((refR key).take 16) = bN (rBytes key) ∧ under 256 (refR key) ∧ bN (rBytes key) < 340282366920938463463374607431768211456 := by
  refine ⟨?_, refR_under _, ?_⟩
  case refine_2 =>
    have e : bN (rBytes key) = bN (clampB (clampA (cut key 0 16) 4) 3) := by unfold rBytes; rw [bN_append]; simp [bN]
    have h := bN_lt (clampB (clampA (cut key 0 16) 4) 3)
    rw [clampB_length, clampA_length, cut_length, hk] at h
    rw [e]
    exact h
  obtain ⟨k0, k1, k2, k3, k4, k5, k6, k7, k8, k9, k10, k11, k12, k13, k14, k15, k16, k17, k18, k19, k20, k21, k22, k23, k24, k25, k26, k27, k28, k29, k30, k31, rfl⟩ := many hk
  rw [rBytes32]
  rw [refR32]
  simp only [List.take_succ_cons, List.take_zero, dN_cons, bN_cons, wide, lo4, lo4w, hi6, bN_nil]
  rfl
theorem bN_inj : ∀ {a b : List (BitVec 8)}, a.length = b.length → bN a = bN b → a = b
  | [], [], _, _ => rfl
  | x :: a, y :: b, hl, h => by
    rw [bN_cons, bN_cons] at h
    have hx := x.isLt
    have hy := y.isLt
    rw [bN_inj (a := a) (b := b) (by simpa using hl) (by omega), BitVec.eq_of_toNat_eq (show x.toNat = y.toNat by omega)]
theorem refTag_val (key t : List (BitVec 8)) (hk : key.length = 32) : bN (refTag key t) = (accN (bN (rBytes key)) t ((t.length + 15) / 16) + sN key) % 340282366920938463463374607431768211456 := by
  obtain ⟨k1, k2, k3⟩ := key_val key hk
  obtain ⟨s1, s2⟩ := refSt_val (refR key) t _ k2 k1 ((t.length + 15) / 16) (by omega)
  rw [refTag_eq key t t.length rfl]
  show bN (outSt (refSt (refR key) t ((t.length + 15) / 16)) key 16).1 = _
  obtain ⟨o1, o2, o3⟩ := out_val _ key s2 16 (by omega)
  have hb := bN_lt (outSt (refSt (refR key) t ((t.length + 15) / 16)) key 16).1
  rw [outSt_length] at hb
  have hsp := dN_split (refSt (refR key) t ((t.length + 15) / 16)) 16 (by rw [refSt_length]; omega)
  rw [s1] at hsp
  have hc : bN (cut key 16 16) = sN key := by
    have e : key = key.take 16 ++ cut key 16 16 := by unfold cut; rw [List.take_of_length_le (l := key.drop 16) (by simp [hk]), List.take_append_drop]
    have hA := bN_append (key.take 16) (cut key 16 16)
    rw [← e] at hA
    have h1 := bN_lt (key.take 16)
    have h2 := bN_lt (cut key 16 16)
    rw [cut_length, hk] at h2
    have h2 : bN (cut key 16 16) < 256 ^ 16 := h2
    have l1 : (key.take 16).length = 16 := by simp [hk]
    rw [l1] at h1 hA
    unfold sN
    omega
  rw [hc] at o1
  generalize (outSt (refSt (refR key) t ((t.length + 15) / 16)) key 16).2.toNat = c at *
  generalize dN ((refSt (refR key) t ((t.length + 15) / 16)).take 16) = X at *
  generalize dN ((refSt (refR key) t ((t.length + 15) / 16)).drop 16) = Y at *
  omega
theorem tags_same (key t : List (BitVec 8)) (hk : key.length = 32) : polyTag key t = refTag key t := by
  obtain ⟨_, _, k3⟩ := key_val key hk
  refine bN_inj ?_ ?_
  · rw [refTag_length]
    with_unfolding_all exact tagEnd_length _ _
  · rw [refTag_val key t hk, polyTag_val key t hk _ rfl (by omega)]
end Go.Proofs.Ytlphiohgehkjlaa
