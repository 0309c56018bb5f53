/- mac's sums and the reference's are one; which keys make like sums. No program in sight. -/
import Derived.Test.YtlnekohkbhidnaaMExpand
import Derived.Test.YtlnekohkbhidnaaMRfExp
namespace Go.Proofs.Ytlnekohkbhidnaa
open Go.RowKit
theorem nth_z8 (n j : Nat) : nth (zer8 n) j = 0#8 := by
  unfold nth zer8
  rw [List.getD_eq_getElem?_getD, List.getElem?_replicate]
  split <;> rfl
theorem nth_cut {n : Nat} (l : List (BitVec n)) (o k i : Nat) (h : i < k) : nth (cut l o k) i = nth l (o + i) := by
  unfold nth; exact cut_get l o k i 0 h
theorem nth_out {n : Nat} (l : List (BitVec n)) (i : Nat) (h : l.length ≤ i) : nth l i = 0 := by
  unfold nth; rw [List.getD_eq_getElem?_getD, List.getElem?_eq_none h]; rfl
theorem nth_app {n : Nat} (a b : List (BitVec n)) (i : Nat) : nth (a ++ b) i = if i < a.length then nth a i else nth b (i - a.length) := by
  unfold nth; exact app_getD a b i 0
theorem ext_nth {n : Nat} {a b : List (BitVec n)} (hl : a.length = b.length) (h : ∀ i, i < a.length → nth a i = nth b i) : a = b := by
  refine List.ext_getElem hl fun i h1 h2 => ?_
  have := h i h1
  rwa [nth_eq a i h1, nth_eq b i h2] at this
/-- A key's block, each byte turned. -/
def padX (k : List (BitVec 8)) (c : BitVec 8) : List (BitVec 8) := (List.range 64).map fun i => nth k i ^^^ c
theorem padX_len (k : List (BitVec 8)) (c : BitVec 8) : (padX k c).length = 64 := by simp [padX]
theorem padX_nth (k : List (BitVec 8)) (c : BitVec 8) (i : Nat) (h : i < 64) : nth (padX k c) i = nth k i ^^^ c := by
  rw [nth_eq _ _ (by rw [padX_len]; exact h)]
  simp [padX]
theorem padX_same {a b : List (BitVec 8)} (h : ∀ i, i < 64 → nth a i = nth b i) (c : BitVec 8) : padX a c = padX b c :=
  ext_nth (by rw [padX_len, padX_len]) fun i hi => by
    rw [padX_len] at hi
    rw [padX_nth _ _ _ hi, padX_nth _ _ _ hi, h i hi]
def mac1 (k b : List (BitVec 8)) : List (BitVec 8) := sha256 (padX k 92#8 ++ sha256 (padX k 54#8 ++ b))
theorem mac1_same {a b : List (BitVec 8)} (h : ∀ i, i < 64 → nth a i = nth b i) (t : List (BitVec 8)) : mac1 a t = mac1 b t := by
  unfold mac1; rw [padX_same h, padX_same h]
/-- Bytes turned, one after the other. -/
def xorTo (c : BitVec 8) (l : List (BitVec 8)) : Nat → List (BitVec 8)
  | 0 => l
  | j + 1 => put (xorTo c l j) j (nth (xorTo c l j) j ^^^ c)
theorem xorTo_len (c : BitVec 8) (l : List (BitVec 8)) (j : Nat) : (xorTo c l j).length = l.length := by
  induction j with
  | zero => rfl
  | succ j ih => rw [xorTo, put_length, ih]
theorem xorTo_nth (c : BitVec 8) (l : List (BitVec 8)) (i : Nat) : ∀ j, j ≤ l.length → nth (xorTo c l j) i = if i < j then nth l i ^^^ c else nth l i := by
  intro j
  induction j with
  | zero => intro _; rw [if_neg (by omega)]; rfl
  | succ j ih =>
    intro hj
    rw [xorTo, nth_put _ _ _ _ (by rw [xorTo_len]; omega)]
    by_cases e : j = i
    · subst e; rw [if_pos rfl, if_pos (by omega), ih (by omega), if_neg (by omega)]
    · rw [if_neg e, ih (by omega)]
      by_cases h : i < j
      · rw [if_pos h, if_pos (by omega)]
      · rw [if_neg h, if_neg (by omega)]
def setTo (c : BitVec 8) (k : List (BitVec 8)) (n : Nat) : Nat → List (BitVec 8)
  | 0 => zer8 64
  | j + 1 => put (setTo c k n j) j ((if j < n then nth k j else 0#8) ^^^ c)
theorem setTo_len (c : BitVec 8) (k : List (BitVec 8)) (n j : Nat) : (setTo c k n j).length = 64 := by
  induction j with
  | zero => simp [setTo]
  | succ j ih => rw [setTo, put_length, ih]
theorem setTo_nth (c : BitVec 8) (k : List (BitVec 8)) (n i : Nat) : ∀ j, j ≤ 64 → i < j → nth (setTo c k n j) i = (if i < n then nth k i else 0#8) ^^^ c := by
  intro j
  induction j with
  | zero => intro _ h; omega
  | succ j ih =>
    intro hj hi
    rw [setTo, nth_put _ _ _ _ (by rw [setTo_len]; omega)]
    by_cases e : j = i
    · subst e; rw [if_pos rfl]
    · rw [if_neg e, ih (by omega) (by omega)]
theorem set_pad (c : BitVec 8) (k : List (BitVec 8)) (n : Nat) (h : k.length = n) : setTo c k n 64 = padX k c :=
  ext_nth (by rw [setTo_len, padX_len]) fun i hi => by
    rw [setTo_len] at hi
    rw [setTo_nth _ _ _ _ 64 (by omega) hi, padX_nth _ _ _ hi]
    split
    · rfl
    · rw [nth_out k i (by omega)]; rfl
theorem nth_over0 (k : List (BitVec 8)) (i : Nat) (h : k.length ≤ 64) : nth (over (zer8 64) 0 k) i = nth k i := by
  unfold nth
  rw [over_get _ _ _ _ _ (by simp; exact h)]
  by_cases hi : i < k.length
  · rw [if_pos (by omega)]; rfl
  · rw [if_neg (by omega)]
    have h1 := nth_z8 64 i
    have h2 := nth_out k i (by omega)
    unfold nth at h1 h2
    rw [h1, h2]; rfl
theorem xor_pad (c : BitVec 8) (k : List (BitVec 8)) (h : k.length ≤ 64) : xorTo c (over (zer8 64) 0 k) 64 = padX k c := by
  have hl : (over (zer8 64) 0 k).length = 64 := by rw [over_len]; simp; omega
  refine ext_nth (by rw [xorTo_len, padX_len, hl]) fun i hi => ?_
  rw [xorTo_len, hl] at hi
  rw [xorTo_nth _ _ _ 64 (by rw [hl]; omega), if_pos hi, padX_nth _ _ _ hi, nth_over0 k i h]
theorem s8 (key : List (BitVec 8)) (j : Nat) : macSumS_L8 key j = (xorTo 54#8 (over (zer8 64) 0 (cut key 0 (min key.length 64))) j, xorTo 92#8 (over (zer8 64) 0 (cut key 0 (min key.length 64))) j) := by
  induction j with
  | zero => rfl
  | succ j ih => rw [macSumS_L8.eq_2, ih]; rfl
theorem l8 (key : List (BitVec 8)) (j : Nat) : macSumL_L8 key j = (xorTo 54#8 (over (zer8 64) 0 (sha256 key)) j, xorTo 92#8 (over (zer8 64) 0 (sha256 key)) j) := by
  induction j with
  | zero => rfl
  | succ j ih => rw [macSumL_L8.eq_2, ih]; rfl
theorem s6 (key : List (BitVec 8)) (j : Nat) : rfMacS_L6 key j = (setTo 54#8 key key.length j, setTo 92#8 key key.length j) := by
  induction j with
  | zero => rfl
  | succ j ih => rw [rfMacS_L6.eq_2, ih]; rfl
theorem l6 (key : List (BitVec 8)) (j : Nat) : rfMacL_L6 key j = (setTo 54#8 (rf256 key) 32 j, setTo 92#8 (rf256 key) 32 j) := by
  induction j with
  | zero => rfl
  | succ j ih => rw [rfMacL_L6.eq_2, ih]; rfl
/-- A key that is more than a block is as its sum. -/
def keyOf (key : List (BitVec 8)) : List (BitVec 8) := if 64 < key.length then sha256 key else key
theorem macSum_mac1 (key b : List (BitVec 8)) : macSum key b = mac1 (keyOf key) b := by
  unfold macSum keyOf
  split
  · unfold macSumL mac1
    rw [l8, xor_pad _ _ (by simp), xor_pad _ _ (by simp)]
  · unfold macSumS mac1
    rename_i h
    rw [s8, show min key.length 64 = key.length by omega, cut_all rfl, xor_pad _ _ (by omega), xor_pad _ _ (by omega)]
theorem rfMac_mac1 (key b : List (BitVec 8)) : rfMac key b = mac1 (keyOf key) b := by
  unfold rfMac keyOf
  split
  · unfold rfMacL mac1
    rw [l6, set_pad _ _ _ (by simp), set_pad _ _ _ (by simp), sha256_same, sha256_same, sha256_same]
  · unfold rfMacS mac1
    rw [s6, set_pad _ _ _ rfl, set_pad _ _ _ rfl, sha256_same, sha256_same]
theorem mac_same (key b : List (BitVec 8)) : rfMac key b = macSum key b := by rw [macSum_mac1, rfMac_mac1]
theorem exp_same (key info : List (BitVec 8)) (j : Nat) : rfExp_L3 key info j = macExp_L5 key info j := by
  induction j with
  | zero => rfl
  | succ j ih => rw [rfExp_L3.eq_2, macExp_L5.eq_2, ih, rfExp_L3_S, macExp_L5_S, mac_same]
/-- All that may be expanded. -/
def expAll (key info : List (BitVec 8)) (q : Nat) : List (BitVec 8) := (macExp_L5 key info q).1
theorem rfExp_all (key info : List (BitVec 8)) (n : Nat) : rfExp key info n = expAll key info ((n + 31) / 32) := by
  unfold rfExp expAll; rw [exp_same]
theorem macExp_all (key info : List (BitVec 8)) (n : Nat) : macExp0 key info n = cut (expAll key info ((n + 31) / 32)) 0 n := by
  unfold macExp0 expAll; rfl
@[simp] theorem expAll_len (key info : List (BitVec 8)) (q : Nat) : (expAll key info q).length = 32 * q := by unfold expAll; rw [macExp_L5_len0]
theorem expAll_succ (key info : List (BitVec 8)) (q : Nat) : expAll key info (q + 1) = expAll key info q ++ (macExp_L5 key info (q + 1)).2 := by
  unfold expAll; rw [macExp_L5.eq_2, macExp_L5_S]
theorem expAll_le (key info : List (BitVec 8)) (q i : Nat) (hi : i < 32 * q) : ∀ k, nth (expAll key info (q + k)) i = nth (expAll key info q) i := by
  intro k
  induction k with
  | zero => rfl
  | succ k ih => rw [show q + (k + 1) = (q + k) + 1 from rfl, expAll_succ, nth_app, if_pos (by rw [expAll_len]; omega), ih]
/-- A byte of what is expanded hangs on its place alone. -/
theorem exp_nth (key info : List (BitVec 8)) (n i : Nat) (hi : i < n) : nth (macExp0 key info n) i = nth (expAll key info (i / 32 + 1)) i := by
  rw [macExp_all, nth_cut _ _ _ _ hi, Nat.zero_add]
  have h := expAll_le key info (i / 32 + 1) i (by omega) ((n + 31) / 32 - (i / 32 + 1))
  rwa [show i / 32 + 1 + ((n + 31) / 32 - (i / 32 + 1)) = (n + 31) / 32 by omega] at h
theorem keyOf_short (key : List (BitVec 8)) (h : key.length ≤ 64) : keyOf key = key := by unfold keyOf; rw [if_neg (by omega)]
theorem mac_long (key b : List (BitVec 8)) (h : 64 < key.length) : macSum (sha256 key) b = macSum key b := by
  rw [macSum_mac1, macSum_mac1, keyOf_short (sha256 key) (by simp)]
  unfold keyOf; rw [if_pos h]
theorem mac_padded (key k2 b : List (BitVec 8)) (h : key.length ≤ 64) (h2 : k2.length ≤ 64) (he : ∀ i, nth key i = nth k2 i) : macSum key b = macSum k2 b := by
  rw [macSum_mac1, macSum_mac1, keyOf_short key h, keyOf_short k2 h2]
  exact mac1_same (fun i _ => he i) b
theorem exp_padded (key k2 info : List (BitVec 8)) (h : key.length ≤ 64) (h2 : k2.length ≤ 64) (he : ∀ i, nth key i = nth k2 i) (j : Nat) : macExp_L5 key info j = macExp_L5 k2 info j := by
  induction j with
  | zero => rfl
  | succ j ih => rw [macExp_L5.eq_2, macExp_L5.eq_2, ih, macExp_L5_S, macExp_L5_S, mac_padded key k2 _ h h2 he]
end Go.Proofs.Ytlnekohkbhidnaa
