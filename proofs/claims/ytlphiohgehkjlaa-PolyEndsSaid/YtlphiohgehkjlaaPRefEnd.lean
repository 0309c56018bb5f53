/- What the reference's Tag tells, as a number. No program in sight. -/
import Derived.Test.YtlphiohgehkjlaaPRefMod3
namespace Go.Proofs.Ytlphiohgehkjlaa
open Go.RowKit
theorem prodRow_nth (h r p : List (BitVec 32)) (i j : Nat) (hl : i + j ≤ p.length) : ∀ k, i + j ≤ k → nth (prodRow h r p i j) k = nth p k := by
  induction j with
  | zero => intro k _; rfl
  | succ j ih =>
    intro k hk
    rw [prodRow, nth_put _ _ _ _ (by rw [prodRow_length]; omega), if_neg (by omega)]
    exact ih (by omega) k (by omega)
theorem prodRow_val (h r p : List (BitVec 32)) (i j B : Nat) (hl : i + j ≤ p.length) (hh : under 256 h) (hr : under 256 r) (hp : under B p) (hB : B ≤ 2000000000) :
    dN (prodRow h r p i j) = dN p + 256 ^ i * ((nth h i).toNat * dN (r.take j)) ∧ under (B + 65026) (prodRow h r p i j) := by
  induction j with
  | zero => exact ⟨by simp [prodRow, dN], fun k => Nat.lt_of_lt_of_le (hp k) (by omega)⟩
  | succ j ih =>
    obtain ⟨h1, h2⟩ := ih (by omega)
    have hn := prodRow_nth h r p i j (by omega) (i + j) (Nat.le_refl _)
    have hx := hh i
    have hy := hr j
    have hz := hp (i + j)
    have hm : (nth h i).toNat * (nth r j).toNat ≤ 65025 := Nat.mul_le_mul (show (nth h i).toNat ≤ 255 by omega) (show (nth r j).toNat ≤ 255 by omega)
    have h5 : (nth h i * nth r j).toNat = (nth h i).toNat * (nth r j).toNat := mul_nat _ _ (by omega)
    have hs : (nth (prodRow h r p i j) (i + j) + nth h i * nth r j).toNat = (nth p (i + j)).toNat + (nth h i).toNat * (nth r j).toNat := by rw [hn, add_nat _ _ (by rw [h5]; omega), h5]
    rw [prodRow, dN_take]
    generalize nth (prodRow h r p i j) (i + j) + nth h i * nth r j = v at *
    have hq := dN_put (prodRow h r p i j) (i + j) v (by rw [prodRow_length]; omega)
    rw [hs, hn, Nat.mul_add, h1] at hq
    refine ⟨?_, under_put h2 _ _ (by rw [hs]; omega)⟩
    have e : 256 ^ (i + j) * ((nth h i).toNat * (nth r j).toNat) = 256 ^ i * ((nth h i).toNat * (256 ^ j * (nth r j).toNat)) := by
      rw [Nat.pow_add, Nat.mul_assoc, Nat.mul_left_comm (256 ^ j)]
    rw [e] at hq
    rw [Nat.mul_add, Nat.mul_add]
    omega
theorem prodAll_val (h r : List (BitVec 32)) (i : Nat) (hi : i ≤ 17) (hh : under 256 h) (hr : under 256 r) :
    dN (prodAll h r i) = dN (h.take i) * dN (r.take 16) ∧ under (65026 * i + 1) (prodAll h r i) := by
  induction i with
  | zero => exact ⟨by show dN (zer32 64) = _; rw [dN_zer]; simp [dN], fun k => by show (nth (zer32 64) k).toNat < _; rw [nth_zer32]; show 0 < _; omega⟩
  | succ i ih =>
    obtain ⟨h1, h2⟩ := ih (by omega)
    obtain ⟨p1, p2⟩ := prodRow_val h r (prodAll h r i) i 16 _ (by rw [prodAll_length]; omega) hh hr h2 (by omega)
    rw [prodAll, dN_take, Nat.add_mul, p1, h1, Nat.mul_assoc]
    exact ⟨rfl, fun k => Nat.lt_of_lt_of_le (p2 k) (by omega)⟩
theorem addText_nth (t : List (BitVec 8)) (i : Nat) (h : List (BitVec 32)) (k : Nat) (hk : k ≤ h.length) : ∀ j, k ≤ j → nth (addText t i h k) j = nth h j := by
  induction k with
  | zero => intro j _; rfl
  | succ k ih =>
    intro j hj
    rw [addText, nth_put _ _ _ _ (by rw [addText_length]; omega), if_neg (by omega)]
    exact ih (by omega) j (by omega)
theorem bN_cut (t : List (BitVec 8)) (i k : Nat) : bN (cut t i (k + 1)) = bN (cut t i k) + 256 ^ k * (nth t (i + k)).toNat := by
  unfold cut
  have e : nth t (i + k) = nth (t.drop i) k := by unfold nth; simp [List.getD_eq_getElem?_getD]
  rw [e]
  clear e
  generalize t.drop i = l
  induction l generalizing k with
  | nil => simp [nth, bN]
  | cons x l ih =>
    cases k with
    | zero => show x.toNat + 256 * bN [] = bN [] + 256 ^ 0 * x.toNat; simp [bN]
    | succ k =>
      have := ih k
      show bN (x :: l.take (k + 1)) = bN (x :: l.take k) + 256 ^ (k + 1) * (nth l k).toNat
      rw [bN_cons, bN_cons, this, Nat.pow_succ, Nat.mul_comm (256 ^ k) 256, Nat.mul_add, Nat.mul_assoc]
      omega
theorem addText_val (t : List (BitVec 8)) (i : Nat) (h : List (BitVec 32)) (k : Nat) (hk : k ≤ h.length) (hh : under 256 h) : dN (addText t i h k) = dN h + bN (cut t i k) ∧ under 512 (addText t i h k) := by
  induction k with
  | zero => exact ⟨by simp [addText, cut, bN], fun j => Nat.lt_trans (hh j) (by decide)⟩
  | succ k ih =>
    obtain ⟨h1, h2⟩ := ih (by omega)
    have hn := addText_nth t i h k (by omega) k (Nat.le_refl _)
    have hx := hh k
    have hy := (nth t (i + k)).isLt
    have hw : ((nth t (i + k)).setWidth 32).toNat = (nth t (i + k)).toNat := by rw [BitVec.toNat_setWidth, Nat.mod_eq_of_lt (by omega)]
    have hs : (nth (addText t i h k) k + (nth t (i + k)).setWidth 32).toNat = (nth h k).toNat + (nth t (i + k)).toNat := by rw [hn, add_nat _ _ (by rw [hw]; omega), hw]
    rw [addText, bN_cut]
    generalize nth (addText t i h k) k + (nth t (i + k)).setWidth 32 = v at *
    have hq := dN_put (addText t i h k) k v (by rw [addText_length]; omega)
    rw [hs, hn, Nat.mul_add, h1] at hq
    exact ⟨by omega, under_put h2 _ _ (by rw [hs]; omega)⟩
theorem addPiece_val (t : List (BitVec 8)) (q : Nat) (h : List (BitVec 32)) (hl : h.length = 64) (hq : 16 * q ≤ t.length) (hh : under 256 h) : dN (addPiece t (16 * q) (min (t.length - 16 * q) 16) h) = dN h + pieceN t (16 * q) ∧ under 2147483648 (addPiece t (16 * q) (min (t.length - 16 * q) 16) h) ∧ (addPiece t (16 * q) (min (t.length - 16 * q) 16) h).length = 64 := by
  have hL : min (16 * q + 16) t.length - 16 * q = min (t.length - 16 * q) 16 := by omega
  unfold pieceN addPiece
  rw [hL]
  have hL2 : min (t.length - 16 * q) 16 ≤ 16 := by omega
  generalize min (t.length - 16 * q) 16 = L at *
  obtain ⟨a1, a2⟩ := addText_val t (16 * q) h L (by omega) hh
  have hn := addText_nth t (16 * q) h L (by omega) L (Nat.le_refl _)
  have hx := hh L
  have hs : (nth (addText t (16 * q) h L) L + 1#32).toNat = (nth h L).toNat + 1 := by rw [hn, add_nat _ _ (by show _ + 1 < _; omega)]; rfl
  generalize nth (addText t (16 * q) h L) L + 1#32 = v at *
  have hp := dN_put (addText t (16 * q) h L) L v (by rw [addText_length]; omega)
  rw [hs, hn, Nat.mul_add, a1] at hp
  exact ⟨by omega, under_put (fun k => Nat.lt_trans (a2 k) (by decide)) _ _ (by rw [hs]; omega), by rw [put_length, addText_length, hl]⟩
end Go.Proofs.Ytlphiohgehkjlaa
