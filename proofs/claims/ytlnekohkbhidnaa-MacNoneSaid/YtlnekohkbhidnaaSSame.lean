/- sha's sums and the reference's are one. No program in sight. (Printed by a program.) -/
import Derived.Test.YtlnekohkbhidnaaSSum256
import Derived.Test.YtlnekohkbhidnaaSRf256
namespace Go.Proofs.Ytlnekohkbhidnaa
open Go.RowKit
theorem nth_z32 (n j : Nat) : nth (zer32 n) j = 0#32 := by
  unfold nth zer32
  rw [List.getD_eq_getElem?_getD, List.getElem?_replicate]
  split <;> rfl
theorem nth_z64 (n j : Nat) : nth (zer64 n) j = 0#64 := by
  unfold nth zer64
  rw [List.getD_eq_getElem?_getD, List.getElem?_replicate]
  split <;> rfl
theorem put_put {n : Nat} (l : List (BitVec n)) (i : Nat) (v w : BitVec n) : put (put l i v) i w = put l i w := by simp [put]
theorem put_get {n : Nat} (l : List (BitVec n)) (i : Nat) (h : i < l.length) : put l i (nth l i) = l := by
  unfold put nth
  rw [List.getD_eq_getElem?_getD, List.getElem?_eq_getElem h]
  simp
theorem nth_put_same {n : Nat} (l : List (BitVec n)) (i : Nat) (v : BitVec n) (h : i < l.length) : nth (put l i v) i = v := by rw [nth_put l i i v h, if_pos rfl]
theorem k256_same : shaK256 = rfK256 := by with_unfolding_all rfl
theorem shl3 (x : BitVec 64) : x * 8#64 = x <<< 3 := by
  rw [BitVec.shiftLeft_eq_mul_twoPow]
  rfl
theorem mul8 {k : Nat} (h : k < 8) : (8#64 * BitVec.ofNat 64 k).toNat = 8 * k := by
  rw [BitVec.toNat_mul, BitVec.toNat_ofNat, BitVec.toNat_ofNat]
  omega
theorem pads (tx : List (BitVec 8)) (n : Nat) : rfPad_L3 tx n = shaPad_L3 tx n := by
  induction n with
  | zero => rfl
  | succ n ih => rw [rfPad_L3.eq_2, shaPad_L3.eq_2, ih]; rfl
theorem tailW (tx Y : List (BitVec 8)) : rfPad_L7 tx Y 8 = shaNumber Y (BitVec.ofNat 64 tx.length <<< 3) := by
  have h : ∀ j, j ≤ 8 → rfPad_L7 tx Y j = shaNumber_L2 Y (BitVec.ofNat 64 tx.length <<< 3) j := by
    intro j
    induction j with
    | zero => intro _; rfl
    | succ j ih =>
      intro hj
      rw [rfPad_L7.eq_2, shaNumber_L2.eq_2, ih (by omega), rfPad_L7_S, shaNumber_L2_S, if_neg (by omega), shl3, mul8 (by omega)]
  unfold shaNumber
  exact h 8 (by omega)
theorem pad_same (tx : List (BitVec 8)) : rfPad tx = shaPad tx := by
  unfold rfPad shaPad
  rw [tailW, pads]
theorem noughts (Y : List (BitVec 8)) : ∀ j, j ≤ 8 → shaNumber_L2 Y 0#64 j = Y ++ List.replicate j 0#8 := by
  intro j
  induction j with
  | zero => intro _; simp [shaNumber_L2]
  | succ j ih => intro hj; rw [shaNumber_L2.eq_2, ih (by omega), shaNumber_L2_S, List.replicate_succ']; simp
theorem step32 (X : BitVec 64) (b : BitVec 8) : ((X <<< 8) ||| b.setWidth 64).setWidth 32 = (X.setWidth 32 <<< 8) ||| b.setWidth 32 := by
  apply BitVec.eq_of_getLsbD_eq
  intro i hi
  simp only [BitVec.getLsbD_setWidth, BitVec.getLsbD_or, BitVec.getLsbD_shiftLeft, hi, decide_true, Bool.true_and]
  by_cases h : i < 8
  · simp [h]; omega
  · have h1 : i - 8 < 32 := by omega
    have h2 : i < 64 := by omega
    simp [h, h1, h2]

theorem fill256 (tx : List (BitVec 8)) (q : Nat) (X : List (BitVec 32)) (hX : X.length = 64) (j : Nat) (hj : j < 64) (h0 : nth X j = 0#32) : rf256_L13 tx q X j 4 = put X j ((shaHigh (shaPad tx) ((64 * q) + (4 * j)) (((4 * j) + 4) - (4 * j))).setWidth 32) := by
  have hpad := pad_same tx
  have h : ∀ i, i ≤ 4 → rf256_L13 tx q X j i = put X j ((shaHigh_L3 (shaPad tx) ((64 * q) + (4 * j)) i).setWidth 32) := by
    intro i
    induction i with
    | zero => intro _; show X = put X j _; rw [show (shaHigh_L3 (shaPad tx) ((64 * q) + (4 * j)) 0).setWidth 32 = nth X j from h0.symm, put_get X j (by omega)]
    | succ i ih =>
      intro hi
      rw [rf256_L13.eq_2, ih (by omega), rf256_L13_S, put_put, nth_put_same X j _ (by omega), shaHigh_L3.eq_2, shaHigh_L3_S, step32, hpad]
  have e := h 4 (by omega)
  rw [e, show (4 * j) + 4 - (4 * j) = 4 by omega]
  unfold shaHigh
  rfl
theorem words256 (tx : List (BitVec 8)) (q : Nat) : ∀ j, j ≤ 64 → rf256_L9 tx q j = sha256_L8 tx q j ∧ ∀ i, j ≤ i → nth (sha256_L8 tx q j) i = 0#32 := by
  intro j
  induction j with
  | zero => intro _; exact ⟨rfl, fun i _ => nth_z32 _ _⟩
  | succ j ih =>
    intro hj
    obtain ⟨h1, h2⟩ := ih (by omega)
    have hl := sha256_L8_len tx q j
    rw [rf256_L9.eq_2, sha256_L8.eq_2, h1]
    generalize sha256_L8 tx q j = X at *
    rw [rf256_L9_S, sha256_L8_S]
    by_cases h : j < 16
    · rw [if_pos h, if_pos h]
      refine ⟨fill256 tx q X hl j (by omega) (h2 j (Nat.le_refl _)), fun i hi => ?_⟩
      rw [nth_put X j i _ (by omega), if_neg (by omega)]
      exact h2 i (by omega)
    · rw [if_neg h, if_neg h]
      refine ⟨?_, fun i hi => ?_⟩
      · unfold rfRot32
        congr 1
        congr 1
        rw [BitVec.add_assoc, BitVec.add_assoc]
        congr 1
        exact BitVec.add_comm _ _
      · rw [nth_put X j i _ (by omega), if_neg (by omega)]
        exact h2 i (by omega)
theorem rounds256 (H Y : List (BitVec 32)) (j : Nat) : rf256_L20 H Y j = sha256_L19 H Y j := by
  induction j with
  | zero => rfl
  | succ j ih =>
    rw [rf256_L20.eq_2, sha256_L19.eq_2, ih, rf256_L20_S, sha256_L19_S, k256_same]
    unfold rfRot32
    rfl
theorem sums256 (H Y : List (BitVec 32)) (j : Nat) : rf256_L27 H Y j = sha256_L29 H Y j := by
  induction j with
  | zero => rfl
  | succ j ih => rw [rf256_L27.eq_2, sha256_L29.eq_2, ih]; rfl
theorem blocks256 (tx : List (BitVec 8)) (j : Nat) : rf256_L5 tx j = sha256_L4 tx j := by
  induction j with
  | zero => rfl
  | succ j ih => rw [rf256_L5.eq_2, sha256_L4.eq_2, ih, rf256_L5_S, sha256_L4_S, sums256, rounds256, (words256 tx j 64 (by omega)).1]
theorem outs256 (H : List (BitVec 32)) (j : Nat) : rf256_L32 H j = sha256_L35 H j := by
  induction j with
  | zero => rfl
  | succ j ih =>
    rw [rf256_L32.eq_2, sha256_L35.eq_2, ih, rf256_L32_S, sha256_L35_S, BitVec.toNat_ofNat, Nat.mod_eq_of_lt (by omega)]
theorem sha256_same (tx : List (BitVec 8)) : rf256 tx = sha256 tx := by
  unfold rf256 sha256
  rw [outs256, blocks256 tx]
  congr 2
  omega
end Go.Proofs.Ytlnekohkbhidnaa
