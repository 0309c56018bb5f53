/- Tags by keys whose first half is a small number. No program in sight. -/
import Derived.Test.YtlphiohgehkjlaaPInts
namespace Go.Proofs.Ytlphiohgehkjlaa
open Go.RowKit
theorem key_small (K s : List (BitVec 8)) (r : BitVec 8) (hK : K.length = 32) (hs : s.length = 16) (h : ∀ i, nth K i = if i = 0 then r else if 16 ≤ i ∧ i < 16 + 16 then nth s (i - 16) else 0#8) : bN (rBytes K) = r.toNat ∧ sN K = bN s := by
  constructor
  · rw [rBytes_cut (b := [r, 0#8, 0#8, 0#8, 0#8, 0#8, 0#8, 0#8, 0#8, 0#8, 0#8, 0#8, 0#8, 0#8, 0#8, 0#8, 0#8, 0#8, 0#8, 0#8, 0#8, 0#8, 0#8, 0#8, 0#8, 0#8, 0#8, 0#8, 0#8, 0#8, 0#8, 0#8]) (cut_eq 0 hK rfl (by omega) fun i hi => ?_), rBytes32]
    · simp [bN_cons, bN_nil]
    · rw [Nat.zero_add, h i]
      by_cases e : i = 0
      · subst e; rfl
      · rw [if_neg e, if_neg (by omega)]
        obtain ⟨k, rfl⟩ : ∃ k, i = k + 1 := ⟨i - 1, by omega⟩
        show 0#8 = nth (List.replicate 31 0#8) k
        unfold nth
        rw [List.getD_eq_getElem?_getD, List.getElem?_replicate]
        split <;> rfl
  · rw [← cut_sN K hK]
    congr 1
    refine ext_nth (by rw [cut_length, hK, hs]; rfl) fun i hi => ?_
    rw [cut_length, hK] at hi
    rw [nth_cut _ _ _ _ (by omega), h, if_neg (by omega), if_pos (by omega), show 16 + i - 16 = i by omega]
theorem sum_digit (K s t : List (BitVec 8)) (r : BitVec 8) (hK : K.length = 32) (hs : s.length = 16) (h : ∀ i, nth K i = if i = 0 then r else if 16 ≤ i ∧ i < 16 + 16 then nth s (i - 16) else 0#8) (v : Nat) (hv : accN r.toNat t ((t.length + 15) / 16) = v) (j : Nat) (hj : j < 16) :
    nth (polyTag K t) j = BitVec.ofNat 8 (carr v (bN s) j + v / 256 ^ j % 256 + (nth s j).toNat) := by
  obtain ⟨h1, h2⟩ := key_small K s r hK hs h
  have e := tag_digit K t v hK (by rw [tag_bN K t hK, h1, hv]) j hj
  rw [h2, h (16 + j), if_neg (by omega), if_pos (by omega), show 16 + j - 16 = j by omega] at e
  exact e
/-- The last sum's carries: f is what the program carries. -/
theorem carry_of {s : List (BitVec 8)} {J : List Nat} {v : Nat} {f : Nat → Nat} (h0 : f 0 = 0) (hs : ∀ j, j < 16 → f (j + 1) = ((f j + ntn J j) + (nth s j).toNat) / 256) (hJ : ∀ j, j < 16 → ntn J j = v / 256 ^ j % 256) : ∀ j, j ≤ 16 → f j = carr v (bN s) j := by
  intro j
  induction j with
  | zero => intro _; rw [h0, carr_zero]
  | succ j ih => intro hj; rw [hs j (by omega), ih (by omega), carr_succ, hJ j (by omega), nth_bN]
/-- Two rounds, or more, of a number that is not too great. -/
theorem fold_fine {l : List Nat} {k v : Nat} (hl : l.length = 20) (hk : 18 ≤ k ∧ k ≤ 20) (hlt : iN l < 5444517870735015415413993718908291383296) (hv : iN l % pP = v) : Fine (foldI (carrI 0 l k).2) v := by
  obtain ⟨h1, h2, h3⟩ := round_val l k hl hk (by omega)
  have hq : iN l / 1361129467683753853853498429727072845824 < 4 := Nat.div_lt_of_lt_mul (by omega)
  refine ⟨h2, h3, by omega, ?_⟩
  rw [h1, ← hv]
  have e : iN l = iN l % 1361129467683753853853498429727072845824 + 5 * (iN l / 1361129467683753853853498429727072845824) + pP * (iN l / 1361129467683753853853498429727072845824) := by unfold pP; omega
  rw [congrArg (· % pP) e]
  exact (Nat.add_mul_mod_self_left _ _ _).symm
theorem fold_down {l : List Nat} {k : Nat} (hl : l.length = 20) (hk : 18 ≤ k ∧ k ≤ 20) (hlt : iN l < 11150372599265311570767859136324180752990208) : (foldI (carrI 0 l k).2).length = 20 ∧ (∀ i, ntn (foldI (carrI 0 l k).2) i ≤ 100000) ∧ iN (foldI (carrI 0 l k).2) < 5444517870735015415413993718908291383296 ∧ iN (foldI (carrI 0 l k).2) % pP = iN l % pP := by
  obtain ⟨h1, h2, h3⟩ := round_val l k hl hk (by omega)
  have hq : iN l / 1361129467683753853853498429727072845824 < 8192 := Nat.div_lt_of_lt_mul (by omega)
  refine ⟨h2, h3, by omega, ?_⟩
  rw [h1]
  have e : iN l = iN l % 1361129467683753853853498429727072845824 + 5 * (iN l / 1361129467683753853853498429727072845824) + pP * (iN l / 1361129467683753853853498429727072845824) := by unfold pP; omega
  rw [congrArg (· % pP) e]
  exact (Nat.add_mul_mod_self_left _ _ _).symm
theorem iN_take : ∀ (l : List Nat) (k : Nat), iN (l.take (k + 1)) = iN (l.take k) + 256 ^ k * ntn l k
  | [], k => by simp [ntn]
  | x :: l, 0 => by show x + 256 * iN [] = iN [] + 256 ^ 0 * x; simp [iN]
  | x :: l, k + 1 => by
    have := iN_take l k
    show x + 256 * iN (l.take (k + 1)) = x + 256 * iN (l.take k) + 256 ^ (k + 1) * ntn l k
    rw [this, Nat.pow_succ, Nat.mul_comm (256 ^ k) 256, Nat.mul_assoc]
    omega
theorem piece_lt (t : List (BitVec 8)) (i : Nat) : pieceN t i < 680564733841876926926749214863536422912 + 1 := by
  unfold pieceN
  have h := bN_lt (cut t i (min (i + 16) t.length - i))
  have hl := cut_length t i (min (i + 16) t.length - i)
  have h2 : (256 : Nat) ^ (cut t i (min (i + 16) t.length - i)).length ≤ 256 ^ 16 := Nat.pow_le_pow_right (by decide) (by omega)
  have h3 : (256 : Nat) ^ (min (i + 16) t.length - i) ≤ 256 ^ 16 := Nat.pow_le_pow_right (by decide) (by omega)
  rw [show (256 : Nat) ^ 16 = 340282366920938463463374607431768211456 from rfl] at h2 h3
  omega
end Go.Proofs.Ytlphiohgehkjlaa
