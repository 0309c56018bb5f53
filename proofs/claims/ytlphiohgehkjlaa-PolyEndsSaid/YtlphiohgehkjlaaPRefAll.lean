/- The reference's Tag as a number; both tags are one. No program in sight. -/
import Derived.Test.YtlphiohgehkjlaaPRefEnd
namespace Go.Proofs.Ytlphiohgehkjlaa
open Go.RowKit
theorem refSt_val (r : List (BitVec 32)) (t : List (BitVec 8)) (rn : Nat) (hr : under 256 r) (h16 : dN (r.take 16) = rn) : ∀ q, 16 * q ≤ t.length + 15 → dN (refSt r t q) = accN rn t q ∧ under 256 (refSt r t q)
  | 0, _ => ⟨by show dN (zer32 64) = 0; exact dN_zer 64, fun k => by show (nth (zer32 64) k).toNat < 256; rw [nth_zer32]; decide⟩
  | q + 1, hq => by
    obtain ⟨h1, h2⟩ := refSt_val r t rn hr h16 q (by omega)
    have hlt : accN rn t q < pP := by cases q with
      | zero => show 0 < pP; decide
      | succ q => exact Nat.mod_lt _ (by decide)
    obtain ⟨a1, a2, a3⟩ := addPiece_val t q _ (refSt_length r t q) (by omega) h2
    have hpc := (piece_val t (16 * q) (by omega)).2.2
    obtain ⟨m1, m2⟩ := modR_val _ a3 a2 (by rw [a1, h1]; unfold pP at hlt; omega)
    rw [refSt, accN]
    have hml := modR_length _ a3
    generalize modR (addPiece t (16 * q) (min (t.length - 16 * q) 16) (refSt r t q)) = Z at *
    obtain ⟨p1, p2⟩ := prodAll_val Z r 17 (by omega) m2 hr
    have hZ : dN Z < pP := by rw [m1]; exact Nat.mod_lt _ (by decide)
    have hs17 := dN_split Z 17 (by omega)
    have hz17 : dN (Z.take 17) = dN Z := by
      unfold pP at hZ
      omega
    have hrn : rn < 256 ^ 16 := by
      rw [← h16]
      have := dN_lt (r.take 16) (under_take hr (by omega) 16)
      exact Nat.lt_of_lt_of_le this (Nat.pow_le_pow_right (by omega) (by simp; omega))
    have hprod : dN (prodAll Z r 17) < 2037035976334486086268445688409378161051468393665936250636140449354381299763336706183397376 := by
      rw [p1, hz17, h16]
      have := Nat.mul_lt_mul'' hZ hrn
      exact Nat.lt_of_lt_of_le this (by decide)
    obtain ⟨n1, n2⟩ := modR_val _ (prodAll_length Z r 17) (fun k => Nat.lt_of_lt_of_le (p2 k) (by decide)) hprod
    refine ⟨?_, n2⟩
    rw [n1, p1, hz17, h16, m1, a1, h1, Nat.mul_mod, Nat.mod_mod, ← Nat.mul_mod]
theorem bN_put (l : List (BitVec 8)) (k : Nat) (v : BitVec 8) (h : k < l.length) : bN (put l k v) + 256 ^ k * (nth l k).toNat = bN l + 256 ^ k * v.toNat := by
  induction l generalizing k with
  | nil => simp at h
  | cons x l ih =>
    cases k with
    | zero =>
      show bN (v :: l) + 256 ^ 0 * x.toNat = _
      rw [bN_cons, bN_cons]
      omega
    | succ k =>
      show bN (x :: put l k v) + 256 ^ (k + 1) * (nth l k).toNat = _
      have := ih k (by simpa using h)
      rw [bN_cons, bN_cons, Nat.pow_succ, Nat.mul_comm (256 ^ k) 256, Nat.mul_assoc, Nat.mul_assoc]
      omega
theorem nth_zer8' (n j : Nat) : nth (zer8 n) j = 0#8 := by
  unfold nth zer8
  rw [List.getD_eq_getElem?_getD, List.getElem?_replicate]
  split <;> rfl
theorem out_val (h : List (BitVec 32)) (key : List (BitVec 8)) (hh : under 256 h) (k : Nat) (hk : k ≤ 16) :
    bN (outSt h key k).1 + 256 ^ k * (outSt h key k).2.toNat = dN (h.take k) + bN (cut key 16 k) ∧ (outSt h key k).2.toNat < 16 ∧ ∀ j, k ≤ j → nth (outSt h key k).1 j = 0#8 := by
  induction k with
  | zero => exact ⟨by show bN (zer8 16) + _ * (0#32).toNat = _; simp [cut, dN, bN, zer8], by show (0#32).toNat < 16; decide, fun j _ => nth_zer8' 16 j⟩
  | succ k ih =>
    obtain ⟨h1, h2, h3⟩ := ih (by omega)
    have hlen := outSt_length h key k
    rw [outSt_succ]
    generalize outSt h key k = U at *
    obtain ⟨U, C⟩ := U
    dsimp only at *
    have hx := hh k
    have hy := (nth key (16 + k)).isLt
    have hw : ((nth key (16 + k)).setWidth 32).toNat = (nth key (16 + k)).toNat := by rw [BitVec.toNat_setWidth, Nat.mod_eq_of_lt (by omega)]
    have hs1 : (nth h k + (nth key (16 + k)).setWidth 32).toNat = (nth h k).toNat + (nth key (16 + k)).toNat := by rw [add_nat _ _ (by rw [hw]; omega), hw]
    have hs : (C + (nth h k + (nth key (16 + k)).setWidth 32)).toNat = C.toNat + ((nth h k).toNat + (nth key (16 + k)).toNat) := by rw [add_nat _ _ (by rw [hs1]; omega), hs1]
    generalize C + (nth h k + (nth key (16 + k)).setWidth 32) = w at *
    have hw8 : (w.setWidth 8).toNat = w.toNat % 256 := by rw [BitVec.toNat_setWidth]
    have hp := bN_put U k (w.setWidth 8) (by omega)
    rw [h3 k (Nat.le_refl _), hw8] at hp
    rw [shr8n', dN_take, bN_cut]
    refine ⟨?_, by omega, fun j hj => ?_⟩
    · have e : w.toNat = w.toNat % 256 + 256 * (w.toNat / 256) := by omega
      have e0 : 256 ^ k * (0#8).toNat = 0 := rfl
      have e2 : 256 ^ (k + 1) * (w.toNat / 256) = 256 ^ k * (256 * (w.toNat / 256)) := by rw [Nat.pow_succ, Nat.mul_assoc]
      have e3 : 256 ^ k * w.toNat = 256 ^ k * (w.toNat % 256) + 256 ^ k * (256 * (w.toNat / 256)) := by rw [← Nat.mul_add, ← e]
      have e4 : 256 ^ k * w.toNat = 256 ^ k * C.toNat + (256 ^ k * (nth h k).toNat + 256 ^ k * (nth key (16 + k)).toNat) := by rw [hs, Nat.mul_add, Nat.mul_add]
      rw [e2]
      omega
    · rw [nth_put _ _ _ _ (by omega), if_neg (by omega)]
      exact h3 j (by omega)
end Go.Proofs.Ytlphiohgehkjlaa
