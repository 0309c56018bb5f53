/- The texts RfDecF, RfEncG, RfEnc, RfPlusG, RfPlus, RfMult, FRfRoot, RfDec, RfBaseG, RfBase, RfApi, RfSame8, GRSame, GRSign, GRVfyA, GRVfyB, GRVfyC, GRVfyD, GBoth, GWakesP, GWakes, PKeep, GExact, GLooks, GLawP, GTwice, GBack, GNeutP, GNeut, GAll, Slice, Open, merged into one. -/
import Derived.Test.YtcgncafhonlmlaaGT6
import Derived.Laws.AppendOwnNone
import Derived.Deep.RegionLaw
import Derived.WalkKit
import Derived.ProofKit
import Derived.OpenShut
import Derived.ShutString
import Derived.ChangeOld
import Derived.Below
namespace Go.Proofs.Ytcgncafhonlmlaa
open Go.RowKit
end Go.Proofs.Ytcgncafhonlmlaa
namespace Go.Proofs.Ytcgncafhonlmlaa
open Go.RowKit
end Go.Proofs.Ytcgncafhonlmlaa
namespace Go.Proofs.Ytcgncafhonlmlaa
open Go.RowKit
def rfEnc (p : List (BitVec 64)) : List (BitVec 8) := (if (((nth (wMul (cut p 0 4) (wInv (cut p 8 4))) 0) &&& 1#64) == 1#64) = true then put (rB (wMul (cut p 4 4) (wInv (cut p 8 4)))) 31 ((nth (rB (wMul (cut p 4 4) (wInv (cut p 8 4)))) 31) ||| 128#8) else rB (wMul (cut p 4 4) (wInv (cut p 8 4))))
@[simp] theorem rfEnc_len (p : List (BitVec 64)) (hp : p.length = 16) : (rfEnc p).length = 32 := by
  unfold rfEnc
  first | (simp [*]; done) | (split <;> simp [*])
attribute [irreducible] rfEnc
end Go.Proofs.Ytcgncafhonlmlaa
namespace Go.Proofs.Ytcgncafhonlmlaa
open Go.RowKit
end Go.Proofs.Ytcgncafhonlmlaa
namespace Go.Proofs.Ytcgncafhonlmlaa
open Go.RowKit
def rfPlus (p : List (BitVec 64)) (q : List (BitVec 64)) (k : List (BitVec 64)) : List (BitVec 64) := (wMul (wSub (wMul (wAdd (cut p 4 4) (cut p 0 4)) (wAdd (cut q 4 4) (cut q 0 4))) (wMul (wSub (cut p 4 4) (cut p 0 4)) (wSub (cut q 4 4) (cut q 0 4)))) (wSub (wAdd (wMul (cut p 8 4) (cut q 8 4)) (wMul (cut p 8 4) (cut q 8 4))) (wAdd (wMul (wMul (cut p 12 4) k) (cut q 12 4)) (wMul (wMul (cut p 12 4) k) (cut q 12 4))))) ++ (wMul (wAdd (wAdd (wMul (cut p 8 4) (cut q 8 4)) (wMul (cut p 8 4) (cut q 8 4))) (wAdd (wMul (wMul (cut p 12 4) k) (cut q 12 4)) (wMul (wMul (cut p 12 4) k) (cut q 12 4)))) (wAdd (wMul (wAdd (cut p 4 4) (cut p 0 4)) (wAdd (cut q 4 4) (cut q 0 4))) (wMul (wSub (cut p 4 4) (cut p 0 4)) (wSub (cut q 4 4) (cut q 0 4))))) ++ (wMul (wSub (wAdd (wMul (cut p 8 4) (cut q 8 4)) (wMul (cut p 8 4) (cut q 8 4))) (wAdd (wMul (wMul (cut p 12 4) k) (cut q 12 4)) (wMul (wMul (cut p 12 4) k) (cut q 12 4)))) (wAdd (wAdd (wMul (cut p 8 4) (cut q 8 4)) (wMul (cut p 8 4) (cut q 8 4))) (wAdd (wMul (wMul (cut p 12 4) k) (cut q 12 4)) (wMul (wMul (cut p 12 4) k) (cut q 12 4))))) ++ (wMul (wSub (wMul (wAdd (cut p 4 4) (cut p 0 4)) (wAdd (cut q 4 4) (cut q 0 4))) (wMul (wSub (cut p 4 4) (cut p 0 4)) (wSub (cut q 4 4) (cut q 0 4)))) (wAdd (wMul (wAdd (cut p 4 4) (cut p 0 4)) (wAdd (cut q 4 4) (cut q 0 4))) (wMul (wSub (cut p 4 4) (cut p 0 4)) (wSub (cut q 4 4) (cut q 0 4)))))
@[simp] theorem rfPlus_len (p : List (BitVec 64)) (q : List (BitVec 64)) (k : List (BitVec 64)) (hp : p.length = 16) (hq : q.length = 16) (hk : k.length = 4) : (rfPlus p q k).length = 16 := by
  unfold rfPlus
  first | (simp [*]; done) | (split <;> simp [*])
attribute [irreducible] rfPlus
end Go.Proofs.Ytcgncafhonlmlaa
namespace Go.Proofs.Ytcgncafhonlmlaa
open Go.RowKit
def rfMlt_L4_S (n : List (BitVec 64)) (p : List (BitVec 64)) (X3 : List (BitVec 64)) (j4 : Nat) : List (BitVec 64) := (if ((((nth n ((255 - j4) / 64)) >>> (BitVec.ofNat 64 ((255 - j4) % 64)).toNat) &&& 1#64) == 1#64) = true then rfPlus (rfPlus X3 X3 rfD) p rfD else rfPlus X3 X3 rfD)
def rfMlt_L4 (n : List (BitVec 64)) (p : List (BitVec 64)) : Nat → List (BitVec 64)
  | 0 => rfZero
  | j4 + 1 => rfMlt_L4_S n p (rfMlt_L4 n p j4) j4
theorem rfMlt_L4_len (n : List (BitVec 64)) (p : List (BitVec 64)) (hn : n.length = 4) (hp : p.length = 16) (j4 : Nat) : (rfMlt_L4 n p j4).length = 16 := by
  induction j4 with
  | zero => first | (simp (maxDischargeDepth := 9) [rfMlt_L4, *]; done) | (simp (maxDischargeDepth := 9) [rfMlt_L4, *]; omega)
  | succ j4 ih => rw [rfMlt_L4.eq_2, rfMlt_L4_S]; first | (simp (maxDischargeDepth := 9) [ih]; done) | (simp (maxDischargeDepth := 9) [ih]; omega) | (simp (maxDischargeDepth := 9) [*]; done) | (simp (maxDischargeDepth := 9) [*]; omega) | (split <;> first | (simp (maxDischargeDepth := 9) [ih]; done) | (simp (maxDischargeDepth := 9) [ih]; omega) | (simp (maxDischargeDepth := 9) [*]; done))
def rfMlt (n : List (BitVec 64)) (p : List (BitVec 64)) : List (BitVec 64) := (rfMlt_L4 n p 256)
@[simp] theorem rfMlt_len (n : List (BitVec 64)) (p : List (BitVec 64)) (hn : n.length = 4) (hp : p.length = 16) : (rfMlt n p).length = 16 := by
  unfold rfMlt
  first | (simp (maxDischargeDepth := 9) [rfMlt_L4_len, *]; done) | (simp (maxDischargeDepth := 9) [rfMlt_L4_len, *]; omega) | (split <;> (simp (maxDischargeDepth := 9) [rfMlt_L4_len, *]; done))
attribute [irreducible] rfMlt
end Go.Proofs.Ytcgncafhonlmlaa
namespace Go.Proofs.Ytcgncafhonlmlaa
open Go.RowKit
def rfRootA0 (a : List (BitVec 64)) : List (BitVec 64) := (if (((nth (wPow (wMod a) (rfHalf (rfHalf (rfHalf (rfadd0 rfP (put (zer64 4) 0 3#64)))))) 0) &&& 1#64) == 1#64) = true then wSub (zer64 4) (wPow (wMod a) (rfHalf (rfHalf (rfHalf (rfadd0 rfP (put (zer64 4) 0 3#64)))))) else wPow (wMod a) (rfHalf (rfHalf (rfHalf (rfadd0 rfP (put (zer64 4) 0 3#64))))))
@[simp] theorem rfRootA0_len (a : List (BitVec 64)) (ha : a.length = 4) : (rfRootA0 a).length = 4 := by
  unfold rfRootA0
  first | (simp (maxDischargeDepth := 9) [*]; done) | (simp (maxDischargeDepth := 9) [*]; omega) | (split <;> (simp (maxDischargeDepth := 9) [*]; done))
attribute [irreducible] rfRootA0
def rfRootB0 (a : List (BitVec 64)) : List (BitVec 64) := (if (((nth (wMul (wPow (wMod a) (rfHalf (rfHalf (rfHalf (rfadd0 rfP (put (zer64 4) 0 3#64)))))) (wPow (put (zer64 4) 0 2#64) (rfHalf (rfHalf (rfsub0 rfP (put (zer64 4) 0 1#64)))))) 0) &&& 1#64) == 1#64) = true then wSub (zer64 4) (wMul (wPow (wMod a) (rfHalf (rfHalf (rfHalf (rfadd0 rfP (put (zer64 4) 0 3#64)))))) (wPow (put (zer64 4) 0 2#64) (rfHalf (rfHalf (rfsub0 rfP (put (zer64 4) 0 1#64)))))) else wMul (wPow (wMod a) (rfHalf (rfHalf (rfHalf (rfadd0 rfP (put (zer64 4) 0 3#64)))))) (wPow (put (zer64 4) 0 2#64) (rfHalf (rfHalf (rfsub0 rfP (put (zer64 4) 0 1#64))))))
@[simp] theorem rfRootB0_len (a : List (BitVec 64)) (ha : a.length = 4) : (rfRootB0 a).length = 4 := by
  unfold rfRootB0
  first | (simp (maxDischargeDepth := 9) [*]; done) | (simp (maxDischargeDepth := 9) [*]; omega) | (split <;> (simp (maxDischargeDepth := 9) [*]; done))
attribute [irreducible] rfRootB0
def rfRootC0  : List (BitVec 64) := zer64 4
@[simp] theorem rfRootC0_len  : (rfRootC0).length = 4 := by
  unfold rfRootC0
  first | (simp (maxDischargeDepth := 9) [*]; done) | (simp (maxDischargeDepth := 9) [*]; omega) | (split <;> (simp (maxDischargeDepth := 9) [*]; done))
attribute [irreducible] rfRootC0
end Go.Proofs.Ytcgncafhonlmlaa
namespace Go.Proofs.Ytcgncafhonlmlaa
open Go.RowKit
def RQ (p : List (BitVec 64)) : Qt := ⟨ZW (cut p 0 4), ZW (cut p 4 4), ZW (cut p 8 4), ZW (cut p 12 4)⟩
def rdY (b : List (BitVec 8)) : List (BitVec 64) := rfOf (put b 31 ((nth b 31) &&& 127#8))
def rdXX (b : List (BitVec 8)) : List (BitVec 64) := wMul (wSub (wMul (rdY b) (rdY b)) (put (zer64 4) 0 1#64)) (wInv (wAdd (wMul rfD (wMul (rdY b) (rdY b))) (put (zer64 4) 0 1#64)))
def rdX (b : List (BitVec 8)) : List (BitVec 64) := if unO b = true then wSub (zer64 4) (wRoot (rdXX b)) else wRoot (rdXX b)
def rdP (b : List (BitVec 8)) : List (BitVec 64) := if unOk b = true then rdX b ++ rdY b ++ (put (zer64 4) 0 1#64) ++ (wMul (rdX b) (rdY b)) else zer64 16
theorem rdY_len {b : List (BitVec 8)} (hb : b.length = 32) : (rdY b).length = 4 := by
  unfold rdY
  exact rfOf_len _ (by rw [put_length, hb])
theorem rdX_len (b : List (BitVec 8)) : (rdX b).length = 4 := by
  unfold rdX
  split
  · exact wSub_len _ _
  · unfold wRoot; rfl
@[simp] theorem rdP_len (b : List (BitVec 8)) (hb : b.length = 32) : (rdP b).length = 16 := by
  unfold rdP
  split
  · simp [rdX_len, rdY_len hb]
  · simp
attribute [irreducible] rdP
end Go.Proofs.Ytcgncafhonlmlaa
namespace Go.Proofs.Ytcgncafhonlmlaa
open Go.RowKit
end Go.Proofs.Ytcgncafhonlmlaa
namespace Go.Proofs.Ytcgncafhonlmlaa
open Go.RowKit
def rfBs0  : List (BitVec 64) := rdP (rB (wMul (put (zer64 4) 0 4#64) (wInv (put (zer64 4) 0 5#64))))
@[simp] theorem rfBs0_len   : (rfBs0 ).length = 16 := by
  unfold rfBs0
  first | (simp [*]; done) | (split <;> simp [*])
attribute [irreducible] rfBs0
end Go.Proofs.Ytcgncafhonlmlaa
namespace Go.Proofs.Ytcgncafhonlmlaa
open Go.RowKit
def rfSumT0 (p : List (BitVec 8)) (q : List (BitVec 8)) : List (BitVec 8) := rfEnc (rfPlus (rdP p) (rdP q) rfD)
@[simp] theorem rfSumT0_len (p : List (BitVec 8)) (q : List (BitVec 8)) (hp : p.length = 32) (hq : q.length = 32) : (rfSumT0 p q).length = 32 := by
  unfold rfSumT0
  first | (simp (maxDischargeDepth := 9) [*]; done) | (simp (maxDischargeDepth := 9) [*]; omega) | (split <;> (simp (maxDischargeDepth := 9) [*]; done))
attribute [irreducible] rfSumT0
def rfSumF0  : List (BitVec 8) := zer8 32
@[simp] theorem rfSumF0_len  : (rfSumF0).length = 32 := by
  unfold rfSumF0
  first | (simp (maxDischargeDepth := 9) [*]; done) | (simp (maxDischargeDepth := 9) [*]; omega) | (split <;> (simp (maxDischargeDepth := 9) [*]; done))
attribute [irreducible] rfSumF0
def rfSumN0  : List (BitVec 8) := zer8 32
@[simp] theorem rfSumN0_len  : (rfSumN0).length = 32 := by
  unfold rfSumN0
  first | (simp (maxDischargeDepth := 9) [*]; done) | (simp (maxDischargeDepth := 9) [*]; omega) | (split <;> (simp (maxDischargeDepth := 9) [*]; done))
attribute [irreducible] rfSumN0
def rfTmsT0 (n : List (BitVec 8)) (p : List (BitVec 8)) : List (BitVec 8) := rfEnc (rfMlt (rfOf n) (rdP p))
@[simp] theorem rfTmsT0_len (n : List (BitVec 8)) (p : List (BitVec 8)) (hn : n.length = 32) (hp : p.length = 32) : (rfTmsT0 n p).length = 32 := by
  unfold rfTmsT0
  first | (simp (maxDischargeDepth := 9) [*]; done) | (simp (maxDischargeDepth := 9) [*]; omega) | (split <;> (simp (maxDischargeDepth := 9) [*]; done))
attribute [irreducible] rfTmsT0
def rfTmsF0  : List (BitVec 8) := zer8 32
@[simp] theorem rfTmsF0_len  : (rfTmsF0).length = 32 := by
  unfold rfTmsF0
  first | (simp (maxDischargeDepth := 9) [*]; done) | (simp (maxDischargeDepth := 9) [*]; omega) | (split <;> (simp (maxDischargeDepth := 9) [*]; done))
attribute [irreducible] rfTmsF0
def rfBs (n : List (BitVec 8)) : List (BitVec 8) := rfEnc (rfMlt (rfOf n) rfBs0)
@[simp] theorem rfBs_len (n : List (BitVec 8)) (hn : n.length = 32) : (rfBs n).length = 32 := by
  unfold rfBs
  first | (simp (maxDischargeDepth := 9) [*]; done) | (simp (maxDischargeDepth := 9) [*]; omega) | (split <;> (simp (maxDischargeDepth := 9) [*]; done))
attribute [irreducible] rfBs
end Go.Proofs.Ytcgncafhonlmlaa
namespace Go.Proofs.Ytcgncafhonlmlaa
open Go.RowKit
end Go.Proofs.Ytcgncafhonlmlaa
namespace Go.Proofs.Ytcgncafhonlmlaa
open Go.RowKit
end Go.Proofs.Ytcgncafhonlmlaa
namespace Go.Proofs.Ytcgncafhonlmlaa
open Go.RowKit
def rkPub (seed : List (BitVec 8)) : List (BitVec 8) := enc (oB (sgHalf0 seed))
@[simp] theorem rkPub_len (seed : List (BitVec 8)) (hseed : seed.length = 32) : (rkPub seed).length = 32 := by
  unfold rkPub
  first | (simp [*]; done) | (simp [*]; omega)
attribute [irreducible] rkPub
def rkSign (seed : List (BitVec 8)) (text : List (BitVec 8)) : List (BitVec 8) := over (over (zer8 64) 0 (enc (oB (sMod (sha512 ((rkSeed1 seed) ++ text)))))) 32 (sMA (sgAns3 (enc (oB (sMod (sha512 ((rkSeed1 seed) ++ text))))) (enc (oB (sgHalf0 seed))) text) (sgHalf0 seed) (sMod (sha512 ((rkSeed1 seed) ++ text))))
@[simp] theorem rkSign_len (seed : List (BitVec 8)) (text : List (BitVec 8)) (hseed : seed.length = 32) : (rkSign seed text).length = 64 := by
  unfold rkSign
  first | (simp [*]; done) | (simp [*]; omega)
attribute [irreducible] rkSign
end Go.Proofs.Ytcgncafhonlmlaa
namespace Go.Proofs.Ytcgncafhonlmlaa
open Go.RowKit
end Go.Proofs.Ytcgncafhonlmlaa
namespace Go.Proofs.Ytcgncafhonlmlaa
open Go.RowKit
end Go.Proofs.Ytcgncafhonlmlaa
namespace Go.Proofs.Ytcgncafhonlmlaa
open Go.RowKit
end Go.Proofs.Ytcgncafhonlmlaa
namespace Go.Proofs.Ytcgncafhonlmlaa
open Go.RowKit
end Go.Proofs.Ytcgncafhonlmlaa
namespace Go.Proofs.Ytcgncafhonlmlaa
open Go.RowKit
theorem over2 (a b : List (BitVec 8)) (ha : a.length = 32) (hb : b.length = 32) : over (over (zer8 64) 0 a) 32 b = a ++ b := by
  have hz : (zer8 64).length = 64 := by simp
  apply List.ext_getElem?
  intro i
  unfold over
  simp only [List.take_zero, List.nil_append, Nat.zero_add, ha, hb]
  have h1 : (a ++ List.drop 32 (zer8 64)).take 32 = a := by rw [List.take_append_of_le_length (by omega), List.take_of_length_le (by omega)]
  have h2 : (a ++ List.drop 32 (zer8 64)).drop (32 + 32) = [] := by rw [List.drop_eq_nil_iff]; simp [ha]
  rw [h1, h2, List.append_nil]
end Go.Proofs.Ytcgncafhonlmlaa
namespace Go.Proofs.Ytcgncafhonlmlaa
open Go.RowKit
theorem quot_num {X Z p : Fp} {x : Nat} (hZ : Z ≠ 0) (h1 : X = p * Z) (h2 : zf x * Z = X) : p = zf x := by
  have e := inv_mulF hZ
  have h3 : zf x * Z = p * Z := by rw [h2, h1]
  generalize zf x = u at *
  generalize invF Z = i at *
  clear h1 h2
  grobner
theorem enc_num (n x y : Nat) (hn : n < 2 ^ 256) (hx : x < PP) (hy : y < PP) (h1 : x * (nmul nB n 256).2.2.1 % PP = (nmul nB n 256).1) (h2 : y * (nmul nB n 256).2.2.1 % PP = (nmul nB n 256).2.1) {b : List (BitVec 8)} (hb : b.length = 32) (hv : y + x % 2 * MM = leS b 32) : enc (omul obase n) = b := by
  have h := rep_times On_base nB_rep n hn
  have e := (nmul_Q nB_ok n 256).1
  rw [← e] at h
  obtain ⟨hZ, hX, hY, _⟩ := h
  unfold nQ at hZ hX hY
  simp only at hZ hX hY
  have ex := quot_num (x := x) hZ hX (by rw [← zf_mul, ← zf_mod (x * _), h1])
  have ey := quot_num (x := y) hZ hY (by rw [← zf_mul, ← zf_mod (y * _), h2])
  refine enc_of hb ?_
  rw [← hv]
  unfold encN omul obase
  show (pmul pB_ n).y.val + (pmul pB_ n).x.val % 2 * MM = _
  rw [ex, ey, zf_val, zf_val, Nat.mod_eq_of_lt hx, Nat.mod_eq_of_lt hy]
def wkP : List (BitVec 8) := [215#8, 90#8, 152#8, 1#8, 130#8, 177#8, 10#8, 183#8, 213#8, 75#8, 254#8, 211#8, 201#8, 100#8, 7#8, 58#8, 14#8, 225#8, 114#8, 243#8, 218#8, 166#8, 35#8, 37#8, 175#8, 2#8, 26#8, 104#8, 247#8, 7#8, 81#8, 26#8]
def wkS : List (BitVec 8) := [229#8, 86#8, 67#8, 0#8, 195#8, 96#8, 172#8, 114#8, 144#8, 134#8, 226#8, 204#8, 128#8, 110#8, 130#8, 138#8, 132#8, 135#8, 127#8, 30#8, 184#8, 229#8, 217#8, 116#8, 216#8, 115#8, 224#8, 101#8, 34#8, 73#8, 1#8, 85#8, 95#8, 184#8, 130#8, 21#8, 144#8, 163#8, 59#8, 172#8, 198#8, 30#8, 57#8, 112#8, 28#8, 249#8, 180#8, 107#8, 210#8, 91#8, 245#8, 240#8, 89#8, 91#8, 190#8, 36#8, 101#8, 81#8, 65#8, 67#8, 142#8, 122#8, 16#8, 11#8]
theorem wk_half : leS (sgHalf0 [157#8, 97#8, 177#8, 157#8, 239#8, 253#8, 90#8, 96#8, 186#8, 132#8, 74#8, 244#8, 146#8, 236#8, 44#8, 196#8, 68#8, 73#8, 197#8, 105#8, 123#8, 50#8, 105#8, 25#8, 112#8, 59#8, 172#8, 3#8, 28#8, 174#8, 127#8, 96#8]) 32 = 36144925721603087658594284515452164870581325872720374094707712194495455132720 := by decide +kernel
theorem wk_pub : enc (omul obase 36144925721603087658594284515452164870581325872720374094707712194495455132720) = wkP := enc_num 36144925721603087658594284515452164870581325872720374094707712194495455132720 38815646466658113194383306759739515082307681141926459231621296960732224964046 11903303657706407974989296177215005343713679411332034699907763981919547054807 (by decide +kernel) (by decide +kernel) (by decide +kernel) (by decide +kernel) (by decide +kernel) rfl (by decide +kernel)
theorem wkP_eq : sgPub [157#8, 97#8, 177#8, 157#8, 239#8, 253#8, 90#8, 96#8, 186#8, 132#8, 74#8, 244#8, 146#8, 236#8, 44#8, 196#8, 68#8, 73#8, 197#8, 105#8, 123#8, 50#8, 105#8, 25#8, 112#8, 59#8, 172#8, 3#8, 28#8, 174#8, 127#8, 96#8] = wkP := by
  unfold sgPub oB
  rw [wk_half]
  exact wk_pub
theorem wk_r : leS (sgAns2 (cut (sgHalf1 [157#8, 97#8, 177#8, 157#8, 239#8, 253#8, 90#8, 96#8, 186#8, 132#8, 74#8, 244#8, 146#8, 236#8, 44#8, 196#8, 68#8, 73#8, 197#8, 105#8, 123#8, 50#8, 105#8, 25#8, 112#8, 59#8, 172#8, 3#8, 28#8, 174#8, 127#8, 96#8]) 32 32) []) 32 = 2015312323900227545039973048451112962192803170366412514267238242679089760755 := by decide +kernel
theorem wk_first : enc (omul obase 2015312323900227545039973048451112962192803170366412514267238242679089760755) = cut wkS 0 32 := enc_num 2015312323900227545039973048451112962192803170366412514267238242679089760755 44370630452101398467924320556439323233869374150616132215183787387252341590058 38448863731492799660668882834560725606410712239157980760146247592118262650597 (by decide +kernel) (by decide +kernel) (by decide +kernel) (by decide +kernel) (by decide +kernel) rfl (by decide +kernel)
theorem wk_k : leS (sgAns3 (cut wkS 0 32) wkP []) 32 = 1958233733501237659471134851339390337284068724042047466985993338226439154310 := by decide +kernel
theorem wkS_eq : sgSign0 [157#8, 97#8, 177#8, 157#8, 239#8, 253#8, 90#8, 96#8, 186#8, 132#8, 74#8, 244#8, 146#8, 236#8, 44#8, 196#8, 68#8, 73#8, 197#8, 105#8, 123#8, 50#8, 105#8, 25#8, 112#8, 59#8, 172#8, 3#8, 28#8, 174#8, 127#8, 96#8] [] = wkS := by
  have h1 : enc (oB (sgAns2 (cut (sgHalf1 [157#8, 97#8, 177#8, 157#8, 239#8, 253#8, 90#8, 96#8, 186#8, 132#8, 74#8, 244#8, 146#8, 236#8, 44#8, 196#8, 68#8, 73#8, 197#8, 105#8, 123#8, 50#8, 105#8, 25#8, 112#8, 59#8, 172#8, 3#8, 28#8, 174#8, 127#8, 96#8]) 32 32) [])) = cut wkS 0 32 := by
    unfold oB
    rw [wk_r]
    exact wk_first
  have h2 : enc (oB (sgHalf0 [157#8, 97#8, 177#8, 157#8, 239#8, 253#8, 90#8, 96#8, 186#8, 132#8, 74#8, 244#8, 146#8, 236#8, 44#8, 196#8, 68#8, 73#8, 197#8, 105#8, 123#8, 50#8, 105#8, 25#8, 112#8, 59#8, 172#8, 3#8, 28#8, 174#8, 127#8, 96#8])) = wkP := by
    unfold oB
    rw [wk_half]
    exact wk_pub
  unfold sgSign0
  rw [h1, h2]
  unfold sMA
  rw [wk_k, wk_half, wk_r]
  decide +kernel
theorem sgSign_evN (seed : List (BitVec 8)) (hseed : seed.length = 32) : Ev Try.prog (.call 10 [.agg (.a8 (seed)), .c .nsl] []) (.val (.tup [.agg (.a8 (sgSign0 seed [])), .c (.val (.int .i64 ((0 : Nat) : Int)))]) []) :=
  Ev.parts (m := []) (m' := [.row false (.a8 ([]))]) (N := []) (N' := []) [none] (.no .nil) (.agg rfl (.c .nil .nil)) (sgSign_ev seed [] 0 0 hseed rfl (by decide) (by decide)) rfl rfl
theorem wkP_ev : Ev Try.prog (.call 11 [.agg (.a8 [157#8, 97#8, 177#8, 157#8, 239#8, 253#8, 90#8, 96#8, 186#8, 132#8, 74#8, 244#8, 146#8, 236#8, 44#8, 196#8, 68#8, 73#8, 197#8, 105#8, 123#8, 50#8, 105#8, 25#8, 112#8, 59#8, 172#8, 3#8, 28#8, 174#8, 127#8, 96#8])] []) (.val (.agg (.a8 wkP)) []) := by
  rw [← wkP_eq]; exact sgPub_ev [157#8, 97#8, 177#8, 157#8, 239#8, 253#8, 90#8, 96#8, 186#8, 132#8, 74#8, 244#8, 146#8, 236#8, 44#8, 196#8, 68#8, 73#8, 197#8, 105#8, 123#8, 50#8, 105#8, 25#8, 112#8, 59#8, 172#8, 3#8, 28#8, 174#8, 127#8, 96#8] rfl
theorem wkS_ev : Ev Try.prog (.call 10 [.agg (.a8 [157#8, 97#8, 177#8, 157#8, 239#8, 253#8, 90#8, 96#8, 186#8, 132#8, 74#8, 244#8, 146#8, 236#8, 44#8, 196#8, 68#8, 73#8, 197#8, 105#8, 123#8, 50#8, 105#8, 25#8, 112#8, 59#8, 172#8, 3#8, 28#8, 174#8, 127#8, 96#8]), .c .nsl] []) (.val (.tup [.agg (.a8 wkS), .c (.val (.int .i64 ((0 : Nat) : Int)))]) []) := by
  rw [← wkS_eq]; exact sgSign_evN [157#8, 97#8, 177#8, 157#8, 239#8, 253#8, 90#8, 96#8, 186#8, 132#8, 74#8, 244#8, 146#8, 236#8, 44#8, 196#8, 68#8, 73#8, 197#8, 105#8, 123#8, 50#8, 105#8, 25#8, 112#8, 59#8, 172#8, 3#8, 28#8, 174#8, 127#8, 96#8] rfl
end Go.Proofs.Ytcgncafhonlmlaa
namespace Go.Proofs.Ytcgncafhonlmlaa
open Go.RowKit
set_option maxRecDepth 100000 in
set_option maxHeartbeats 2000000 in
theorem wakes_ev   : Ev Try.prog (.call 15 [] []) (.val (.c (.val (.bool (true)))) []) := by
  refine c_call Try.func15 rfl Try.ntmps15 rfl LEN_ ?_
  refine S_ ?_
  refine c_region ?_
  refine s_val (v_assignC rfl) rfl ?_
  refine s_nil ?_
  refine S_ ?_
  refine c_region ?_
  refine s_val (v_bld8 (l := [157#8, 97#8, 177#8, 157#8, 239#8, 253#8, 90#8, 96#8, 186#8, 132#8, 74#8, 244#8, 146#8, 236#8, 44#8, 196#8, 68#8, 73#8, 197#8, 105#8, 123#8, 50#8, 105#8, 25#8, 112#8, 59#8, 172#8, 3#8, 28#8, 174#8, 127#8, 96#8]) zc_22 Try.underlying22 sz_5 rfl rfl (by decide)) rfl ?_
  refine s_memN (m_alloc al_22 LEN_) APP_ rfl ?_
  refine s_storeR rfl rfl rfl rfl sz_22 EQ_ EQ_ SET_ ?_
  refine s_nil ?_
  have hQ1 : (wkP).length = 32 := LQ_
  refine S_ ?_
  refine c_region ?_
  refine s_val (v_loadR rfl rfl row_22 sz_22 EQ_ (by decide)) rfl ?_
  refine s_evN (e_callR (wkP_ev) ok_11 rfl rfl rfl VAL_) APP_ rfl ?_
  refine s_memN (m_alloc al_22 LEN_) APP_ rfl ?_
  refine s_storeR rfl rfl rfl rfl sz_22 EQ_ EQ_ SET_ ?_
  refine s_nil ?_
  have hQ2 : (wkS).length = 64 := LQ_
  refine S_ ?_
  refine c_region ?_
  refine s_val (v_loadR rfl rfl row_22 sz_22 EQ_ (by decide)) rfl ?_
  refine s_evN (e_callR (bs := []) (wkS_ev) ok_10 (by kernel_rfl) (by kernel_rfl) rfl VAL_) APP_ rfl ?_
  refine s_val (v_moveT rfl) rfl ?_
  refine s_val (v_extract rfl rfl) rfl ?_
  refine s_val (v_extract rfl rfl) rfl ?_
  refine s_memN (m_alloc al_25 LEN_) APP_ rfl ?_
  refine s_storeR rfl rfl rfl rfl sz_25 EQ_ EQ_ SET_ ?_
  refine s_val (v_assignC rfl) rfl ?_
  refine s_nil ?_
  refine S_ ?_
  refine c_region ?_
  refine s_val (v_moveC rfl) rfl ?_
  refine s_val (v_eqlN (a := 0) (b := 0) rfl rfl) rfl ?_
  refine s_val (v_moveC rfl) rfl ?_
  refine s_go GO_ ?_
  refine s_val (v_idxA1 (j := 0) rfl rfl Try.underlying22 sz_5 (by omega)) rfl ?_
  refine s_go GO_ ?_
  refine s_val (v_load8 rfl rfl row_5 LT_) rfl ?_
  refine s_go GO_ ?_
  refine s_val (v_eql8 (b := 215#8) rfl rfl) rfl ?_
  refine s_val (v_pickT rfl PK_ rfl) rfl ?_
  refine s_val (v_moveC rfl) rfl ?_
  refine s_go GO_ ?_
  refine s_val (v_idxA1 (j := 1) rfl rfl Try.underlying22 sz_5 (by omega)) rfl ?_
  refine s_go GO_ ?_
  refine s_val (v_load8 rfl rfl row_5 LT_) rfl ?_
  refine s_go GO_ ?_
  refine s_val (v_eql8 (b := 90#8) rfl rfl) rfl ?_
  refine s_val (v_pickT rfl PK_ rfl) rfl ?_
  refine s_val (v_moveC rfl) rfl ?_
  refine s_go GO_ ?_
  refine s_val (v_idxA1 (j := 31) rfl rfl Try.underlying22 sz_5 (by omega)) rfl ?_
  refine s_go GO_ ?_
  refine s_val (v_load8 rfl rfl row_5 LT_) rfl ?_
  refine s_go GO_ ?_
  refine s_val (v_eql8 (b := 26#8) rfl rfl) rfl ?_
  refine s_val (v_pickT rfl PK_ rfl) rfl ?_
  refine s_val (v_moveC rfl) rfl ?_
  refine s_go GO_ ?_
  refine s_val (v_idxA1 (j := 0) rfl rfl Try.underlying25 sz_5 (by omega)) rfl ?_
  refine s_go GO_ ?_
  refine s_val (v_load8 rfl rfl row_5 LT_) rfl ?_
  refine s_go GO_ ?_
  refine s_val (v_eql8 (b := 229#8) rfl rfl) rfl ?_
  refine s_val (v_pickT rfl PK_ rfl) rfl ?_
  refine s_val (v_moveC rfl) rfl ?_
  refine s_go GO_ ?_
  refine s_val (v_idxA1 (j := 1) rfl rfl Try.underlying25 sz_5 (by omega)) rfl ?_
  refine s_go GO_ ?_
  refine s_val (v_load8 rfl rfl row_5 LT_) rfl ?_
  refine s_go GO_ ?_
  refine s_val (v_eql8 (b := 86#8) rfl rfl) rfl ?_
  refine s_val (v_pickT rfl PK_ rfl) rfl ?_
  refine s_val (v_moveC rfl) rfl ?_
  refine s_go GO_ ?_
  refine s_val (v_idxA1 (j := 63) rfl rfl Try.underlying25 sz_5 (by omega)) rfl ?_
  refine s_go GO_ ?_
  refine s_val (v_load8 rfl rfl row_5 LT_) rfl ?_
  refine s_go GO_ ?_
  refine s_val (v_eql8 (b := 11#8) rfl rfl) rfl ?_
  refine s_val (v_pickT rfl PK_ rfl) rfl ?_
  refine s_val (v_assignC rfl) rfl ?_
  refine s_nil ?_
  refine S_ ?_
  exact k_1 (by first | exact r_tmpC rfl | exact r_tmpA rfl) (by first | kernel_rfl | rfl)
end Go.Proofs.Ytcgncafhonlmlaa
namespace Go.Proofs.Ytcgncafhonlmlaa
open Go.RowKit
set_option maxRecDepth 100000 in
theorem twin_ev (r : List (BitVec 8)) (n c : Nat) (hr : r.length = n) (hn : n ≤ 1099511627776) :
    Ev Try.prog (.call 9 [.c (.sl 0 0 n c 1)] [.row false (.a8 r)]) (.val (.c (.sl 1 0 n n 1)) [.row false (.a8 r), .row true (.a8 r)]) := by
  refine c_call Try.func9 rfl Try.ntmps9 rfl LEN_ ?_
  refine S_ ?_
  refine c_region ?_
  refine s_val (v_assignC rfl) rfl ?_
  refine s_nil ?_
  refine S_ ?_
  refine c_region ?_
  refine s_val (v_assignC rfl) rfl ?_
  refine s_nil ?_
  refine S_ ?_
  refine c_region ?_
  first
    | refine s_val (v_moveC rfl) rfl ?_
    | refine s_val (v_moveA rfl) rfl ?_
    | refine s_val (v_moveT rfl) rfl ?_
  first
    | refine s_val (v_moveC rfl) rfl ?_
    | refine s_val (v_moveA rfl) rfl ?_
    | refine s_val (v_moveT rfl) rfl ?_
  first
    | refine s_memN (m_appE8 rfl rfl rfl Try.underlying23 Try.underlying23 el_5 EQL_ (by omega) LEN_) APP_ rfl ?_
    | refine s_memN (m_appN8 rfl rfl rfl Try.underlying23 Try.underlying23 el_5 EQL_ (by omega) LEN_) APP_ rfl ?_
    | refine s_app8 rfl rfl rfl rfl Try.underlying23 Try.underlying23 el_5 EQL_ EQL_ (by omega) LEN_ KILL_ rfl ?_
    | refine s_memN (m_appE8c rfl rfl rfl Try.underlying23 Try.underlying23 el_5 LE_ (by omega) LEN_) APP_ rfl ?_
    | refine s_memN (m_appN8c rfl rfl rfl Try.underlying23 Try.underlying23 el_5 LE_ (by omega) LEN_) APP_ rfl ?_
    | refine s_app8c rfl rfl rfl rfl Try.underlying23 Try.underlying23 el_5 EQL_ LE_ (by omega) LEN_ KILL_ rfl ?_
    | refine s_memN (m_appZ rfl rfl Try.underlying23 Try.underlying23 el_5 rfl) APP_ rfl ?_
    | refine s_memN (m_appZe rfl rfl Try.underlying23 Try.underlying23 el_5 rfl) APP_ rfl ?_
  first
    | refine s_val (v_assignC rfl) rfl ?_
    | refine s_val (v_assignA rfl) rfl ?_
    | refine s_val (v_assignT rfl) rfl ?_
  refine s_nil ?_
  refine S_ ?_
  exact k_1 (by first | exact r_tmpC rfl | exact r_tmpA rfl) (by first | kernel_rfl | rfl)
end Go.Proofs.Ytcgncafhonlmlaa
namespace Go.Proofs.Ytcgncafhonlmlaa
open Go.RowKit
end Go.Proofs.Ytcgncafhonlmlaa
namespace Go.Proofs.Ytcgncafhonlmlaa
open Go.RowKit
end Go.Proofs.Ytcgncafhonlmlaa
namespace Go.Proofs.Ytcgncafhonlmlaa
open Go.RowKit
theorem cut_left {a b : List (BitVec 8)} {n : Nat} (h : a.length = n) : cut (a ++ b) 0 n = a := by subst h; simp [cut]
theorem cut_right {a b : List (BitVec 8)} {n m : Nat} (h : a.length = n) (hb : b.length = m) : cut (a ++ b) n m = b := by subst h hb; simp [cut]
theorem sign_parts (seed text : List (BitVec 8)) : cut (sgSign0 seed text) 0 32 = enc (oB (sgAns2 (cut (sgHalf1 seed) 32 32) text)) ∧ cut (sgSign0 seed text) 32 32 = sMA (sgAns3 (enc (oB (sgAns2 (cut (sgHalf1 seed) 32 32) text))) (enc (oB (sgHalf0 seed))) text) (sgHalf0 seed) (sgAns2 (cut (sgHalf1 seed) 32 32) text) := by
  unfold sgSign0
  exact ⟨cut_left (enc_len _), cut_right (enc_len _) (sMA_len _ _ _)⟩
theorem oB_sMA (a b c : List (BitVec 8)) : oB (sMA a b c) = oadd (oB c) (omul (oB b) (leS a 32)) := by
  unfold oB
  rw [leS_sMA, obase_mod, omul_add, Nat.mul_comm, omul_mul, oadd_comm]
theorem vfy_sign (seed text : List (BitVec 8)) : vfy (sgPub seed) text (sgSign0 seed text) = true := by
  obtain ⟨h1, h2⟩ := sign_parts seed text
  unfold vfy sgPub
  rw [h1, h2, below_sMA, unOk_enc, unOk_enc, Bool.true_and, Bool.true_and, Bool.true_and, tms_enc, add_enc, oB_sMA]
  exact decide_eq_true rfl
theorem vfy_below {pub text sig : List (BitVec 8)} (h : sBelow (cut sig 32 32) = false) : vfy pub text sig = false := by
  unfold vfy
  rw [h, Bool.false_and]
theorem vfy_first {pub text sig : List (BitVec 8)} (h : unOk (cut sig 0 32) = false) : vfy pub text sig = false := by
  unfold vfy
  rw [h, Bool.false_and, Bool.and_false, Bool.and_false]
theorem vfy_zero {text r s : List (BitVec 8)} {R : OPt} (hr : r = enc R) (hs : s.length = 32) (hb : sBelow s = true) : vfy (fSmall 1#64) text (r ++ s) = decide (enc R = enc (oB s)) := by
  have h1 : cut (r ++ s) 0 32 = r := cut_left (by rw [hr]; exact enc_len _)
  have h2 : cut (r ++ s) 32 32 = s := cut_right (by rw [hr]; exact enc_len _) hs
  unfold vfy
  rw [h1, h2, hb, hr, ← enc_zero, unOk_enc, unOk_enc, Bool.true_and, Bool.true_and, Bool.true_and, tms_enc, add_enc, ozero_mul, oadd_zero]
theorem ckS_ev (seed text : List (BitVec 8)) : Ev Try.prog (.call 16 [.agg (.a8 (cut (sgSign0 seed text) 0 32))] []) (.val (.c (.val (.int .i64 ((0 : Nat) : Int)))) []) := by
  rw [(sign_parts seed text).1]; exact ckE_ev _
theorem ckP_ev (seed : List (BitVec 8)) : Ev Try.prog (.call 16 [.agg (.a8 (sgPub seed))] []) (.val (.c (.val (.int .i64 ((0 : Nat) : Int)))) []) := by
  unfold sgPub; exact ckE_ev _
theorem blS_ev (seed text : List (BitVec 8)) : Ev Try.prog (.call 17 [.agg (.a8 (cut (sgSign0 seed text) 32 32))] []) (.val (.c (.val (.bool true))) []) := by
  rw [(sign_parts seed text).2]; exact sMA_below_ev _ _ _
theorem vfyV_ev (pub text : List (BitVec 8)) (tn tcap : Nat) (sig : List (BitVec 8)) (v : Bool) (hpub : pub.length = 32) (htext : text.length = tn) (hsig : sig.length = 64) (htn : tn ≤ 65536) (h : vfy pub text sig = v) : Ev Try.prog (.call 18 [.agg (.a8 pub), .c (.sl 0 0 tn tcap 1), .agg (.a8 sig)] [.row false (.a8 text)]) (.val (.c (.val (.bool v))) [.row false (.a8 text)]) := by
  rw [← h]; exact vfyE_ev pub text tn tcap sig hpub htext hsig htn
end Go.Proofs.Ytcgncafhonlmlaa
namespace Go.Proofs.Ytcgncafhonlmlaa
open Go.RowKit
set_option maxRecDepth 100000 in
set_option maxHeartbeats 2000000 in
theorem signTwice_ev (seed : List (BitVec 8)) (text : List (BitVec 8)) (cap : Nat) (hseed : seed.length = 32) (hT : text.length ≤ 500) : Ev Try.prog (.call 4 [.agg (.a8 (seed)), .c (.sl 0 0 text.length cap 1)] [.row false (.a8 (text))]) (.val (.c (.val (.bool (true)))) [.row false (.a8 (text))]) := by
  refine c_call Try.func4 rfl Try.ntmps4 rfl LEN_ ?_
  refine S_ ?_
  refine c_region ?_
  refine s_memN (m_box BX_ LEN_) APP_ rfl ?_
  refine s_val (v_assignC rfl) rfl ?_
  refine s_nil ?_
  refine S_ ?_
  refine c_region ?_
  refine s_val (v_moveC rfl) rfl ?_
  refine s_val (v_lenS rfl Try.underlying23) rfl ?_
  refine s_val (v_gtrN (b := 500) rfl rfl) rfl ?_
  refine s_nil ?_
  have hQ1 : (sgSign0 seed text).length = 64 := LQ_
  refine S_ ?_
  refine c_region ?_
  refine s_val (v_loadR rfl rfl row_22 sz_22 EQ_ (by decide)) rfl ?_
  refine s_val (v_moveC rfl) rfl ?_
  refine s_evN (e_callR (bs := [0]) (sgSign_ev seed text text.length cap HYP_ HYP_ HYP_ HYP_) ok_10 (by kernel_rfl) (by kernel_rfl) rfl VAL_) APP_ rfl ?_
  refine s_val (v_moveT rfl) rfl ?_
  refine s_val (v_extract rfl rfl) rfl ?_
  refine s_val (v_extract rfl rfl) rfl ?_
  refine s_memN (m_alloc al_25 LEN_) APP_ rfl ?_
  refine s_storeR rfl rfl rfl rfl sz_25 EQ_ EQ_ SET_ ?_
  refine s_val (v_assignC rfl) rfl ?_
  refine s_nil ?_
  have hQ2 : (sgSign0 seed text).length = 64 := LQ_
  refine S_ ?_
  refine c_late 8 6 mixed (by kernel_rfl) (by kernel_rfl) rfl rfl rfl ?_
  refine h_val (v_loadR rfl rfl row_22 sz_22 EQ_ (by decide)) rfl ?_
  refine h_val (v_moveC rfl) rfl ?_
  refine h_evN (e_callR (bs := [0]) (twin_ev text text.length cap HYP_ HYP_) ok_9 (by kernel_rfl) (by kernel_rfl) rfl VAL_) APP_ rfl ?_
  refine h_evN (e_callR (bs := [3]) (sgSign_ev seed text text.length text.length HYP_ HYP_ HYP_ HYP_) ok_10 (by kernel_rfl) (by kernel_rfl) rfl VAL_) APP_ rfl ?_
  refine h_val (v_moveT rfl) rfl ?_
  refine h_val (v_extract rfl rfl) rfl ?_
  refine h_val (v_extract rfl rfl) rfl ?_
  refine h_memN (m_alloc al_25 LEN_) APP_ rfl ?_
  refine h_nil ?_
  refine s_storeR rfl rfl rfl rfl sz_25 EQ_ EQ_ SET_ ?_
  refine s_val (v_assignC rfl) rfl ?_
  refine s_nil ?_
  refine S_ ?_
  refine c_region ?_
  refine s_memN (m_alloc al_22 LEN_) APP_ rfl ?_
  refine s_memN (m_alloc al_22 LEN_) APP_ rfl ?_
  refine s_nil ?_
  have hQ3 : (cut (sgSign0 seed text) 0 32).length = 32 := LQ_
  refine S_ ?_
  refine c_draw 2 mixed (by kernel_rfl) rfl rfl rfl ?_
  refine h_val (v_slA1 (l := 0) (h := 32) (len := 32) (cp := 32) rfl Try.underlying22 sz_5 rfl rfl rfl (by omega) (by omega) FIT_ rfl rfl) rfl ?_
  refine h_val (v_slA1 (l := 0) (h := 32) (len := 32) (cp := 64) rfl Try.underlying25 sz_5 rfl rfl rfl (by omega) (by omega) FIT_ rfl rfl) rfl ?_
  refine h_nil ?_
  refine s_copy8w rfl rfl rfl rfl Try.underlying23 sz_5 EQL_ LE_ MN_ rfl SET_ rfl ?_
  refine s_nil ?_
  have hQ4 : (cut (sgSign0 seed text) 32 32).length = 32 := LQ_
  refine S_ ?_
  refine c_draw 2 mixed (by kernel_rfl) rfl rfl rfl ?_
  refine h_val (v_slA1 (l := 0) (h := 32) (len := 32) (cp := 32) rfl Try.underlying22 sz_5 rfl rfl rfl (by omega) (by omega) FIT_ rfl rfl) rfl ?_
  refine h_val (v_slA1 (l := 32) (h := 64) (len := 32) (cp := 32) rfl Try.underlying25 sz_5 rfl rfl rfl (by omega) (by omega) FIT_ rfl rfl) rfl ?_
  refine h_nil ?_
  refine s_copy8w rfl rfl rfl rfl Try.underlying23 sz_5 EQL_ LE_ MN_ rfl SET_ rfl ?_
  refine s_nil ?_
  have hQ6 : (sgPub seed).length = 32 := LQ_
  have hE5 : (decide (sgSign0 seed text = sgSign0 seed text)) = true := decide_eq_true rfl
  refine S_ ?_
  refine c_region ?_
  refine s_val (v_moveC rfl) rfl ?_
  refine s_val (v_eqlN (a := 0) (b := 0) rfl rfl) rfl ?_
  refine s_val (v_moveC rfl) rfl ?_
  refine s_go GO_ ?_
  refine s_val (v_moveC rfl) rfl ?_
  refine s_go GO_ ?_
  refine s_val (v_eqlN (a := 0) (b := 0) rfl rfl) rfl ?_
  refine s_val (v_pickT rfl PK_ rfl) rfl ?_
  refine s_val (v_moveC rfl) rfl ?_
  refine s_go GO_ ?_
  refine s_val (v_loadR rfl rfl row_25 sz_25 EQ_ (by decide)) rfl ?_
  refine s_go GO_ ?_
  refine s_val (v_loadR rfl rfl row_25 sz_25 EQ_ (by decide)) rfl ?_
  refine s_go GO_ ?_
  refine s_val (v_bool (v_eqlR8 rfl rfl Try.underlying25 Try.underlying5 sz_5 EQ_ EQ_) hE5) rfl ?_
  refine s_val (v_pickT rfl PK_ rfl) rfl ?_
  refine s_val (v_moveC rfl) rfl ?_
  refine s_go GO_ ?_
  refine s_val (v_loadR rfl rfl row_22 sz_22 EQ_ (by decide)) rfl ?_
  refine s_go GO_ ?_
  refine s_evN (e_callR (bs := []) (ckS_ev seed text) ok_16 (by kernel_rfl) (by kernel_rfl) rfl VAL_) APP_ rfl ?_
  refine s_go GO_ ?_
  refine s_val (v_eqlN (a := 0) (b := 0) rfl rfl) rfl ?_
  refine s_val (v_pickT rfl PK_ rfl) rfl ?_
  refine s_val (v_moveC rfl) rfl ?_
  refine s_go GO_ ?_
  refine s_val (v_loadR rfl rfl row_22 sz_22 EQ_ (by decide)) rfl ?_
  refine s_go GO_ ?_
  refine s_evN (e_callR (bs := []) (blS_ev seed text) ok_17 (by kernel_rfl) (by kernel_rfl) rfl VAL_) APP_ rfl ?_
  refine s_val (v_pickT rfl PK_ rfl) rfl ?_
  refine s_val (v_moveC rfl) rfl ?_
  refine s_go GO_ ?_
  refine s_val (v_loadR rfl rfl row_22 sz_22 EQ_ (by decide)) rfl ?_
  refine s_go GO_ ?_
  refine s_evN (e_callR (bs := []) (sgPub_ev seed HYP_) ok_11 (by kernel_rfl) (by kernel_rfl) rfl VAL_) APP_ rfl ?_
  refine s_go GO_ ?_
  refine s_evN (e_callR (bs := []) (ckP_ev seed) ok_16 (by kernel_rfl) (by kernel_rfl) rfl VAL_) APP_ rfl ?_
  refine s_go GO_ ?_
  refine s_val (v_eqlN (a := 0) (b := 0) rfl rfl) rfl ?_
  refine s_val (v_pickT rfl PK_ rfl) rfl ?_
  refine s_val (v_moveC rfl) rfl ?_
  refine s_go GO_ ?_
  refine s_evN (e_callR (wakes_ev) ok_15 rfl rfl rfl VAL_) APP_ rfl ?_
  refine s_val (v_pickT rfl PK_ rfl) rfl ?_
  refine s_val (v_assignC rfl) rfl ?_
  refine s_nil ?_
  refine S_ ?_
  exact k_1 (by first | exact r_tmpC rfl | exact r_tmpA rfl) (by first | kernel_rfl | rfl)
set_option maxRecDepth 100000 in
set_option maxHeartbeats 2000000 in
theorem signTwiceB_ev (seed : List (BitVec 8)) (text : List (BitVec 8)) (cap : Nat) (hseed : seed.length = 32) (hT : 500 < text.length) : Ev Try.prog (.call 4 [.agg (.a8 (seed)), .c (.sl 0 0 text.length cap 1)] [.row false (.a8 (text))]) (.val (.c (.val (.bool (true)))) [.row false (.a8 (text))]) := by
  refine c_call Try.func4 rfl Try.ntmps4 rfl LEN_ ?_
  refine S_ ?_
  refine c_region ?_
  refine s_memN (m_box BX_ LEN_) APP_ rfl ?_
  refine s_val (v_assignC rfl) rfl ?_
  refine s_nil ?_
  refine S_ ?_
  refine c_region ?_
  refine s_val (v_moveC rfl) rfl ?_
  refine s_val (v_lenS rfl Try.underlying23) rfl ?_
  refine s_val (v_gtrN (b := 500) rfl rfl) rfl ?_
  refine s_nil ?_
  refine S_ ?_
  refine c_region ?_
  refine s_val (v_assignC rfl) rfl ?_
  refine s_nil ?_
  refine S_ ?_
  exact k_1 (by first | exact r_tmpC rfl | exact r_tmpA rfl) (by first | kernel_rfl | rfl)
end Go.Proofs.Ytcgncafhonlmlaa
namespace Go.Proofs.Ytcgncafhonlmlaa
open Go.RowKit
def signBack_L11_S (seed : List (BitVec 8)) (text : List (BitVec 8)) (X5 : Nat) (X6 : List (BitVec 8)) (j11 : Nat) : Nat × List (BitVec 8) := (((X5 + ((nth (sgSign0 seed text) (32 + j11)).toNat)) + ((nth (rB rfL) j11).toNat)) / 256, put X6 (32 + j11) (BitVec.ofNat 8 ((X5 + ((nth (sgSign0 seed text) (32 + j11)).toNat)) + ((nth (rB rfL) j11).toNat))))
def signBack_L11 (seed : List (BitVec 8)) (text : List (BitVec 8)) : Nat → Nat × List (BitVec 8)
  | 0 => (0, sgSign0 seed text)
  | j11 + 1 => signBack_L11_S seed text (signBack_L11 seed text j11).1 (signBack_L11 seed text j11).2 j11
theorem signBack_L11_len1 (seed : List (BitVec 8)) (text : List (BitVec 8)) (hseed : seed.length = 32) (j11 : Nat) : (signBack_L11 seed text j11).2.length = 64 := by
  induction j11 with
  | zero => first | (simp [signBack_L11, *]; done) | (simp [signBack_L11, *]; omega)
  | succ j11 ih => rw [signBack_L11.eq_2, signBack_L11_S]; first | (simp [ih]; done) | (simp [ih]; omega) | (simp [*]; done) | (simp [*]; omega) | (split <;> first | (simp [ih]; done) | (simp [ih]; omega) | (simp [*]; done))
def signBack_L18_S (X11 : List (BitVec 8)) (j18 : Nat) : List (BitVec 8) := put X11 j18 255#8
def signBack_L18 (seed : List (BitVec 8)) (text : List (BitVec 8)) : Nat → List (BitVec 8)
  | 0 => sgSign0 seed text
  | j18 + 1 => signBack_L18_S (signBack_L18 seed text j18) j18
theorem signBack_L18_len (seed : List (BitVec 8)) (text : List (BitVec 8)) (hseed : seed.length = 32) (j18 : Nat) : (signBack_L18 seed text j18).length = 64 := by
  induction j18 with
  | zero => first | (simp [signBack_L18, *]; done) | (simp [signBack_L18, *]; omega)
  | succ j18 ih => rw [signBack_L18.eq_2, signBack_L18_S]; first | (simp [ih]; done) | (simp [ih]; omega) | (simp [signBack_L11_len1, *]; done) | (simp [signBack_L11_len1, *]; omega) | (split <;> first | (simp [ih]; done) | (simp [ih]; omega) | (simp [signBack_L11_len1, *]; done))
theorem cut_put32 {X : List (BitVec 8)} (hX : X.length = 64) {j : Nat} (hj : j < 32) (v : BitVec 8) : cut (put X (32 + j) v) 32 32 = put (cut X 32 32) j v := by
  unfold cut put
  apply List.ext_getElem?
  intro i
  simp only [List.getElem?_take, List.getElem?_drop, List.getElem?_set, List.length_take, List.length_drop, hX]
  by_cases h1 : i < 32
  · by_cases h2 : j = i
    · subst h2; simp [h1, hX]; try omega
    · simp [h1, h2]
  · by_cases h2 : j = i
    · omega
    · simp [h1, h2]
theorem nth_cut32 (S : List (BitVec 8)) {j : Nat} (hj : j < 32) : nth (cut S 32 32) j = nth S (32 + j) := cut_get S 32 32 j _ hj
theorem carry_one (w t : Nat) : t % 256 * w + t / 256 * (w * 256) = t * w := by
  have h := Nat.mod_add_div t 256
  calc t % 256 * w + t / 256 * (w * 256) = (t % 256 + 256 * (t / 256)) * w := by rw [Nat.add_mul, Nat.mul_comm 256, Nat.mul_assoc, Nat.mul_comm 256 w]
    _ = t * w := by rw [h]
theorem back_run (seed text : List (BitVec 8)) (hs : seed.length = 32) : ∀ j, j ≤ 32 → (signBack_L11 seed text j).1 ≤ 1 ∧ leS (cut (signBack_L11 seed text j).2 32 32) j + (signBack_L11 seed text j).1 * 256 ^ j = leS (cut (sgSign0 seed text) 32 32) j + leS (rB rfL) j := by
  intro j
  induction j with
  | zero => intro _; exact ⟨Nat.zero_le _, rfl⟩
  | succ j ih =>
    intro hj
    obtain ⟨h1, h2⟩ := ih (by omega)
    have hl := signBack_L11_len1 seed text hs j
    rw [signBack_L11.eq_2, signBack_L11_S]
    generalize signBack_L11 seed text j = Z at *
    obtain ⟨c, X⟩ := Z
    simp only at h1 h2 hl ⊢
    have b1 := (nth (sgSign0 seed text) (32 + j)).isLt
    have b2 := (nth (rB rfL) j).isLt
    refine ⟨by omega, ?_⟩
    rw [cut_put32 hl (by omega), leS, leS, leS, leS_put_low _ _ _ _ (Nat.le_refl _) (by rw [cut_length]; omega), nth_put_same _ _ _ (by rw [cut_length]; omega), nth_cut32 _ (by omega), BitVec.toNat_ofNat, show 256 ^ (j + 1) = 256 ^ j * 256 from Nat.pow_succ _ _]
    have e := carry_one (256 ^ j) (c + (nth (sgSign0 seed text) (32 + j)).toNat + (nth (rB rfL) j).toNat)
    rw [Nat.add_mul, Nat.add_mul] at e
    change _ + (_ % 256 * _) + _ = _
    change leS (cut X 32 32) j + c * 256 ^ j = _ at h2
    omega
theorem back_over (seed text : List (BitVec 8)) (hs : seed.length = 32) (j : Nat) (hj : j = 32) : sBelow (cut (signBack_L11 seed text j).2 32 32) = false := by
  subst hj
  obtain ⟨h1, h2⟩ := back_run seed text hs 32 (Nat.le_refl _)
  have h3 : leS (cut (sgSign0 seed text) 32 32) 32 < L25519 := by
    have h := below_sMA (sgAns3 (enc (oB (sgAns2 (cut (sgHalf1 seed) 32 32) text))) (enc (oB (sgHalf0 seed))) text) (sgHalf0 seed) (sgAns2 (cut (sgHalf1 seed) 32 32) text)
    rw [← (sign_parts seed text).2] at h
    unfold sBelow at h
    exact of_decide_eq_true h
  have h4 : leS (rB rfL) 32 = L25519 := by rw [leS_rB, rfL_val]
  rw [h4] at h2
  change _ < 7237005577332262213973186563042994240857116359379907606001950938285454250989 at h3
  change _ + _ * 115792089237316195423570985008687907853269984665640564039457584007913129639936 = _ + 7237005577332262213973186563042994240857116359379907606001950938285454250989 at h2
  unfold sBelow
  refine decide_eq_false ?_
  change ¬ _ < 7237005577332262213973186563042994240857116359379907606001950938285454250989
  omega
theorem eq_rep {b : List (BitVec 8)} {v : BitVec 8} {n : Nat} (hb : b.length = n) (h : ∀ i, i < n → nth b i = v) : b = List.replicate n v := by
  refine List.ext_getElem (by simp [hb]) fun i h1 h2 => ?_
  have h3 := h i (by omega)
  unfold nth at h3
  rw [List.getD_eq_getElem?_getD, List.getElem?_eq_getElem h1, Option.getD_some] at h3
  rw [h3, List.getElem_replicate]
theorem back_255 (seed text : List (BitVec 8)) (hs : seed.length = 32) : ∀ j, j ≤ 32 → ∀ i, i < j → nth (signBack_L18 seed text j) i = 255#8 := by
  intro j
  induction j with
  | zero => intro _ i hi; omega
  | succ j ih =>
    intro hj i hi
    rw [signBack_L18.eq_2, signBack_L18_S, nth_put' _ _ _ _ (by rw [signBack_L18_len seed text hs]; omega)]
    split
    · rfl
    · exact ih (by omega) i (by omega)
theorem bad_point : unOk (List.replicate 32 255#8) = false := by
  rw [unOk_dOk (by simp)]
  unfold dOk
  rw [show decide (leS (List.replicate 32 255#8) 32 % MM < PP) = false by decide +kernel, Bool.false_and]
theorem back_bad (seed text : List (BitVec 8)) (hs : seed.length = 32) (j : Nat) (hj : j = 32) : unOk (cut (signBack_L18 seed text j) 0 32) = false := by
  subst hj
  have hl := signBack_L18_len seed text hs 32
  rw [eq_rep (n := 32) (v := 255#8) (b := cut (signBack_L18 seed text 32) 0 32) (by rw [cut_length, hl]; rfl) fun i hi => ?_, bad_point]
  have := back_255 seed text hs 32 (Nat.le_refl _) i hi
  have e : nth (cut (signBack_L18 seed text 32) 0 32) i = nth (signBack_L18 seed text 32) (0 + i) := cut_get _ 0 32 i _ hi
  rw [e, Nat.zero_add]
  exact this
set_option maxRecDepth 100000 in
set_option maxHeartbeats 2000000 in
theorem signBack_ev (seed : List (BitVec 8)) (text : List (BitVec 8)) (cap : Nat) (hseed : seed.length = 32) (hT : text.length ≤ 500) : Ev Try.prog (.call 8 [.agg (.a8 (seed)), .c (.sl 0 0 text.length cap 1)] [.row false (.a8 (text))]) (.val (.c (.val (.bool (true)))) [.row false (.a8 (text))]) := by
  refine c_call Try.func8 rfl Try.ntmps8 rfl LEN_ ?_
  refine S_ ?_
  refine c_region ?_
  refine s_memN (m_box BX_ LEN_) APP_ rfl ?_
  refine s_val (v_assignC rfl) rfl ?_
  refine s_nil ?_
  refine S_ ?_
  refine c_region ?_
  refine s_val (v_moveC rfl) rfl ?_
  refine s_val (v_lenS rfl Try.underlying23) rfl ?_
  refine s_val (v_gtrN (b := 500) rfl rfl) rfl ?_
  refine s_nil ?_
  have hQ1 : (sgSign0 seed text).length = 64 := LQ_
  refine S_ ?_
  refine c_region ?_
  refine s_val (v_loadR rfl rfl row_22 sz_22 EQ_ (by decide)) rfl ?_
  refine s_val (v_moveC rfl) rfl ?_
  refine s_evN (e_callR (bs := [0]) (sgSign_ev seed text text.length cap HYP_ HYP_ HYP_ HYP_) ok_10 (by kernel_rfl) (by kernel_rfl) rfl VAL_) APP_ rfl ?_
  refine s_val (v_moveT rfl) rfl ?_
  refine s_val (v_extract rfl rfl) rfl ?_
  refine s_val (v_extract rfl rfl) rfl ?_
  refine s_memN (m_alloc al_25 LEN_) APP_ rfl ?_
  refine s_storeR rfl rfl rfl rfl sz_25 EQ_ EQ_ SET_ ?_
  refine s_val (v_assignC rfl) rfl ?_
  refine s_nil ?_
  have hQ2 : (sgPub seed).length = 32 := LQ_
  refine S_ ?_
  refine c_region ?_
  refine s_val (v_loadR rfl rfl row_22 sz_22 EQ_ (by decide)) rfl ?_
  refine s_evN (e_callR (bs := []) (sgPub_ev seed HYP_) ok_11 (by kernel_rfl) (by kernel_rfl) rfl VAL_) APP_ rfl ?_
  refine s_memN (m_alloc al_22 LEN_) APP_ rfl ?_
  refine s_storeR rfl rfl rfl rfl sz_22 EQ_ EQ_ SET_ ?_
  refine s_nil ?_
  refine S_ ?_
  refine c_region ?_
  refine s_val (v_moveC rfl) rfl ?_
  refine s_val (v_neqN (a := 0) (b := 0) rfl rfl) rfl ?_
  refine s_val (v_moveC rfl) rfl ?_
  refine s_go GO_ ?_
  refine s_val (v_loadR rfl rfl row_22 sz_22 EQ_ (by decide)) rfl ?_
  refine s_go GO_ ?_
  refine s_val (v_moveC rfl) rfl ?_
  refine s_go GO_ ?_
  refine s_val (v_loadR rfl rfl row_25 sz_25 EQ_ (by decide)) rfl ?_
  refine s_go GO_ ?_
  refine s_evN (e_callR (bs := [0]) (vfyV_ev (sgPub seed) text text.length cap (sgSign0 seed text) true HYP_ HYP_ HYP_ HYP_ (vfy_sign _ _)) ok_18 (by kernel_rfl) (by kernel_rfl) rfl VAL_) APP_ rfl ?_
  refine s_go GO_ ?_
  refine s_val (v_unnotB rfl) rfl ?_
  refine s_val (v_pickF rfl PK_ rfl) rfl ?_
  refine s_val (v_moveC rfl) rfl ?_
  refine s_go GO_ ?_
  refine s_val (v_loadR rfl rfl row_22 sz_22 EQ_ (by decide)) rfl ?_
  refine s_go GO_ ?_
  refine s_evN (e_callR (bs := []) (ckP_ev seed) ok_16 (by kernel_rfl) (by kernel_rfl) rfl VAL_) APP_ rfl ?_
  refine s_go GO_ ?_
  refine s_val (v_neqN (a := 0) (b := 0) rfl rfl) rfl ?_
  refine s_val (v_pickF rfl PK_ rfl) rfl ?_
  refine s_nil ?_
  have hQ3 : (rfL).length = 4 := LQ_
  have hQ4 : (rB rfL).length = 32 := LQ_
  refine S_ ?_
  refine c_region ?_
  refine s_evN (e_callR (bs := []) (rfL_ev) ok_23 (by kernel_rfl) (by kernel_rfl) rfl VAL_) APP_ rfl ?_
  refine s_evN (e_callR (bs := []) (rB_ev rfL HYP_) ok_21 (by kernel_rfl) (by kernel_rfl) rfl VAL_) APP_ rfl ?_
  refine s_memN (m_alloc al_22 LEN_) APP_ rfl ?_
  refine s_storeR rfl rfl rfl rfl sz_22 EQ_ EQ_ SET_ ?_
  refine s_nil ?_
  refine S_ ?_
  refine c_region ?_
  refine s_val (v_loadR rfl rfl row_25 sz_25 EQ_ (by decide)) rfl ?_
  refine s_memN (m_alloc al_25 LEN_) APP_ rfl ?_
  refine s_storeR rfl rfl rfl rfl sz_25 EQ_ EQ_ SET_ ?_
  refine s_nil ?_
  refine S_ ?_
  refine c_region ?_
  refine s_val (v_assignC rfl) rfl ?_
  refine s_nil ?_
  refine S_ ?_
  refine c_region ?_
  refine s_val (v_assignC rfl) rfl ?_
  refine s_nil ?_
  refine S_ ?_
  refine c_loopC [1, 5, 7, 8, 9, 10, 11] (fun (zz : Nat × Nat × List (BitVec 8)) => ⟨87, keepT [1, 5, 7, 8, 9, 10, 11] [.c (.sl 0 0 text.length cap 1), .c (.ptr 1 0), .c (.ptr 2 0), .c (.ptr 3 0), .c (.ptr 4 0), .c (.val (.int .i64 (((zz.2.1 : Nat) : Int)))), .c (.val (.int .i64 (((zz.1 : Nat) : Int))))], [.row false (.a8 (text)), .row true (.a8 (sgSign0 seed text)), .row true (.a8 (sgPub seed)), .row true (.a8 (rB rfL)), .row true (.a8 (zz.2.2))]⟩) (fun j11 => (j11, signBack_L11 seed text j11)) (32) (by kernel_rfl) ?_ ?_
  · intro j11 hj11
    try dsimp only
    have hX6 : (signBack_L11 seed text j11).2.length = 64 := by rw [signBack_L11_len1 seed text hseed _]; try omega
    have hcar : (signBack_L11 seed text j11).1 ≤ 1 := (back_run seed text hseed j11 (by omega)).1
    have hov : j11 = 32 → sBelow (cut (signBack_L11 seed text j11).2 32 32) = false := back_over seed text hseed j11
    rw [signBack_L11.eq_2, signBack_L11_S]
    generalize signBack_L11 seed text j11 = Z7 at *
    obtain ⟨X5, X6⟩ := Z7
    try dsimp only at *
    refine S_ ?_
    refine c_region ?_
    refine s_val (v_moveC rfl) rfl ?_
    refine s_val (v_lssN (b := 32) rfl rfl) rfl ?_
    refine s_nil ?_
    refine S_ ?_
    refine c_draw 13 mixed (by kernel_rfl) rfl rfl rfl ?_
    refine h_val (v_moveC rfl) rfl ?_
    refine h_val (v_moveC rfl) rfl ?_
    refine h_val (v_addN (a := 32) rfl rfl (by omega)) rfl ?_
    refine h_val (v_idxA1 rfl rfl Try.underlying25 sz_5 (by omega)) rfl ?_
    refine h_val (v_load8 rfl rfl row_5 LT_) rfl ?_
    refine h_val (v_conv rfl Try.underlying5 Try.underlying3 (w8_i _)) rfl ?_
    refine h_val (v_addN rfl rfl (by omega)) rfl ?_
    refine h_val (v_moveC rfl) rfl ?_
    refine h_val (v_idxA1 rfl rfl Try.underlying22 sz_5 (by omega)) rfl ?_
    refine h_val (v_load8 rfl rfl row_5 LT_) rfl ?_
    refine h_val (v_conv rfl Try.underlying5 Try.underlying3 (w8_i _)) rfl ?_
    refine h_val (v_addN rfl rfl (by omega)) rfl ?_
    refine h_val (v_assignC rfl) rfl ?_
    refine h_nil ?_
    refine s_nil ?_
    refine S_ ?_
    refine c_region ?_
    refine s_val (v_moveC rfl) rfl ?_
    refine s_val (v_addN (a := 32) rfl rfl (by omega)) rfl ?_
    refine s_val (v_moveC rfl) rfl ?_
    refine s_val (v_conv rfl Try.underlying3 Try.underlying5 (wi_8 _)) rfl ?_
    refine s_val (v_idxA1 rfl rfl Try.underlying25 sz_5 (by omega)) rfl ?_
    refine s_store8 rfl rfl rfl sz_5 LT_ SET_ ?_
    refine s_nil ?_
    refine S_ ?_
    refine c_region ?_
    refine s_val (v_moveC rfl) rfl ?_
    refine s_val (v_quoN (b := 256) rfl rfl (by omega) (by omega)) rfl ?_
    refine s_val (v_assignC rfl) rfl ?_
    refine s_nil ?_
    refine S_ ?_
    refine c_region ?_
    refine s_val (v_moveC rfl) rfl ?_
    refine s_val (v_addN (b := 1) rfl rfl (by omega)) rfl ?_
    refine s_val (v_assignC rfl) rfl ?_
    refine s_nil ?_
    exact ⟨(j11 + 1, _), by kernel_rfl, rfl⟩
  · try dsimp only
    have hY9 : (signBack_L11 seed text 32).2.length = 64 := by rw [signBack_L11_len1 seed text hseed _]; try omega
    have hcar : (signBack_L11 seed text 32).1 ≤ 1 := (back_run seed text hseed 32 (by omega)).1
    have hov : 32 = 32 → sBelow (cut (signBack_L11 seed text 32).2 32 32) = false := back_over seed text hseed 32
    generalize signBack_L11 seed text 32 = Z10 at *
    obtain ⟨Y8, Y9⟩ := Z10
    try dsimp only at *
    refine S_ ?_
    refine c_region ?_
    refine s_val (v_moveC rfl) rfl ?_
    refine s_val (v_lssN (a := 32) (b := 32) rfl rfl) rfl ?_
    refine s_nil ?_
    refine S_ ?_
    refine c_region ?_
    refine s_val (v_loadR rfl rfl row_25 sz_25 EQ_ (by decide)) rfl ?_
    refine s_memN (m_alloc al_25 LEN_) APP_ rfl ?_
    refine s_storeR rfl rfl rfl rfl sz_25 EQ_ EQ_ SET_ ?_
    refine s_nil ?_
    refine S_ ?_
    refine c_region ?_
    refine s_val (v_assignC rfl) rfl ?_
    refine s_nil ?_
    refine S_ ?_
    refine c_loopC [1, 7, 9, 12, 13] (fun (zz : Nat × List (BitVec 8)) => ⟨87, keepT [1, 7, 9, 12, 13] [.c (.sl 0 0 text.length cap 1), .c (.ptr 1 0), .c (.ptr 2 0), .c (.ptr 3 0), .c (.val (.int .i64 (((zz.1 : Nat) : Int))))], [.row false (.a8 (text)), .row true (.a8 (sgPub seed)), .row true (.a8 (Y9)), .row true (.a8 (zz.2))]⟩) (fun j18 => (j18, signBack_L18 seed text j18)) (32) (by kernel_rfl) ?_ ?_
    · intro j18 hj18
      try dsimp only
      have hX11 : (signBack_L18 seed text j18).length = 64 := by rw [signBack_L18_len seed text hseed _]; try omega
      have hbad : j18 = 32 → unOk (cut (signBack_L18 seed text j18) 0 32) = false := back_bad seed text hseed j18
      rw [signBack_L18.eq_2, signBack_L18_S]
      generalize signBack_L18 seed text j18 = X11 at *
      refine S_ ?_
      refine c_region ?_
      refine s_val (v_moveC rfl) rfl ?_
      refine s_val (v_lssN (b := 32) rfl rfl) rfl ?_
      refine s_nil ?_
      refine S_ ?_
      refine c_region ?_
      refine s_val (v_moveC rfl) rfl ?_
      refine s_val (v_idxA1 rfl rfl Try.underlying25 sz_5 (by omega)) rfl ?_
      refine s_store8 (w := 255#8) rfl rfl rfl sz_5 LT_ SET_ ?_
      refine s_nil ?_
      refine S_ ?_
      refine c_region ?_
      refine s_val (v_moveC rfl) rfl ?_
      refine s_val (v_addN (b := 1) rfl rfl (by omega)) rfl ?_
      refine s_val (v_assignC rfl) rfl ?_
      refine s_nil ?_
      exact ⟨(j18 + 1, _), by kernel_rfl, rfl⟩
    · try dsimp only
      have hY12 : (signBack_L18 seed text 32).length = 64 := by rw [signBack_L18_len seed text hseed _]; try omega
      have hbad : 32 = 32 → unOk (cut (signBack_L18 seed text 32) 0 32) = false := back_bad seed text hseed 32
      generalize signBack_L18 seed text 32 = Y12 at *
      refine S_ ?_
      refine c_region ?_
      refine s_val (v_moveC rfl) rfl ?_
      refine s_val (v_lssN (a := 32) (b := 32) rfl rfl) rfl ?_
      refine s_nil ?_
      refine S_ ?_
      refine c_region ?_
      refine s_val (v_loadR rfl rfl row_22 sz_22 EQ_ (by decide)) rfl ?_
      refine s_val (v_moveC rfl) rfl ?_
      refine s_val (v_loadR rfl rfl row_25 sz_25 EQ_ (by decide)) rfl ?_
      refine s_evN (e_callR (bs := [0]) (vfyV_ev (sgPub seed) text text.length cap Y9 false HYP_ HYP_ HYP_ HYP_ (vfy_below (hov rfl))) ok_18 (by kernel_rfl) (by kernel_rfl) rfl VAL_) APP_ rfl ?_
      refine s_val (v_unnotB rfl) rfl ?_
      refine s_val (v_moveC rfl) rfl ?_
      refine s_go GO_ ?_
      refine s_val (v_loadR rfl rfl row_22 sz_22 EQ_ (by decide)) rfl ?_
      refine s_go GO_ ?_
      refine s_val (v_moveC rfl) rfl ?_
      refine s_go GO_ ?_
      refine s_val (v_loadR rfl rfl row_25 sz_25 EQ_ (by decide)) rfl ?_
      refine s_go GO_ ?_
      refine s_evN (e_callR (bs := [0]) (vfyV_ev (sgPub seed) text text.length cap Y12 false HYP_ HYP_ HYP_ HYP_ (vfy_first (hbad rfl))) ok_18 (by kernel_rfl) (by kernel_rfl) rfl VAL_) APP_ rfl ?_
      refine s_go GO_ ?_
      refine s_val (v_unnotB rfl) rfl ?_
      refine s_val (v_pickT rfl PK_ rfl) rfl ?_
      refine s_val (v_moveC rfl) rfl ?_
      refine s_go GO_ ?_
      refine s_evN (e_callR (wakes_ev) ok_15 rfl rfl rfl VAL_) APP_ rfl ?_
      refine s_val (v_pickT rfl PK_ rfl) rfl ?_
      refine s_val (v_assignC rfl) rfl ?_
      refine s_nil ?_
      refine S_ ?_
      exact k_1 (by first | exact r_tmpC rfl | exact r_tmpA rfl) (by first | kernel_rfl | rfl)
set_option maxRecDepth 100000 in
set_option maxHeartbeats 2000000 in
theorem signBackB_ev (seed : List (BitVec 8)) (text : List (BitVec 8)) (cap : Nat) (hseed : seed.length = 32) (hT : 500 < text.length) : Ev Try.prog (.call 8 [.agg (.a8 (seed)), .c (.sl 0 0 text.length cap 1)] [.row false (.a8 (text))]) (.val (.c (.val (.bool (true)))) [.row false (.a8 (text))]) := by
  refine c_call Try.func8 rfl Try.ntmps8 rfl LEN_ ?_
  refine S_ ?_
  refine c_region ?_
  refine s_memN (m_box BX_ LEN_) APP_ rfl ?_
  refine s_val (v_assignC rfl) rfl ?_
  refine s_nil ?_
  refine S_ ?_
  refine c_region ?_
  refine s_val (v_moveC rfl) rfl ?_
  refine s_val (v_lenS rfl Try.underlying23) rfl ?_
  refine s_val (v_gtrN (b := 500) rfl rfl) rfl ?_
  refine s_nil ?_
  refine S_ ?_
  refine c_region ?_
  refine s_val (v_assignC rfl) rfl ?_
  refine s_nil ?_
  refine S_ ?_
  exact k_1 (by first | exact r_tmpC rfl | exact r_tmpA rfl) (by first | kernel_rfl | rfl)
end Go.Proofs.Ytcgncafhonlmlaa
namespace Go.Proofs.Ytcgncafhonlmlaa
open Go.RowKit
theorem rB1_ev : Ev Try.prog (.call 21 [.agg (.a64 (put (zer64 4) 0 1#64))] []) (.val (.agg (.a8 (fSmall 1#64))) []) := by
  rw [← small_same]; exact rB_ev _ (by simp)
def ntS (n : List (BitVec 8)) : List (BitVec 8) := sMA n (fSmall 1#64) (zer8 32)
def ntM (n : List (BitVec 8)) : List (BitVec 8) := sMA (ntS n) (fSmall 1#64) (fSmall 1#64)
@[simp] theorem ntS_len (n : List (BitVec 8)) : (ntS n).length = 32 := sMA_len _ _ _
@[simp] theorem ntM_len (n : List (BitVec 8)) : (ntM n).length = 32 := sMA_len _ _ _
theorem ntS_ev (n : List (BitVec 8)) (hn : n.length = 32) : Ev Try.prog (.call 20 [.agg (.a8 n), .agg (.a8 (fSmall 1#64)), .agg (.a8 (zer8 32))] []) (.val (.agg (.a8 (ntS n))) []) := sMA_ev _ _ _ hn (by simp) (by simp)
theorem ntM_ev (n : List (BitVec 8)) : Ev Try.prog (.call 20 [.agg (.a8 (ntS n)), .agg (.a8 (fSmall 1#64)), .agg (.a8 (fSmall 1#64))] []) (.val (.agg (.a8 (ntM n))) []) := sMA_ev _ _ _ (by simp) (by simp) (by simp)
theorem ntM_pt (n : List (BitVec 8)) : oB (ntM n) = oadd obase (oB (ntS n)) := by
  unfold ntM
  rw [oB_sMA, oB_one]
  unfold oB
  rfl
theorem base_none : obase ≠ ozero := fun h => absurd (congrArg (fun P : OPt => P.p.x) h) (by decide +kernel)
theorem nt_ne (n : List (BitVec 8)) : enc (oB (ntS n)) ≠ enc (oB (ntM n)) := fun h => base_none (by
  have e := enc_eq.1 h
  rw [ntM_pt] at e
  have e2 : oadd (oadd obase (oB (ntS n))) (oneg (oB (ntS n))) = obase := by rw [oadd_assoc, oadd_neg, oadd_zero]
  rw [← e, oadd_neg] at e2
  exact e2.symm)
theorem over3 (a b c : List (BitVec 8)) (ha : a.length = 32) (hb : b.length = 32) (hc : c.length = 32) : over (a ++ b) 0 c = c ++ b := by
  unfold over
  rw [List.take_zero, List.nil_append, hc, Nat.zero_add, List.drop_append_of_le_length (by omega), List.drop_of_length_le (by omega), List.nil_append]
theorem nt_sig (n : List (BitVec 8)) (text : List (BitVec 8)) : vfy (fSmall 1#64) text (over (over (zer8 64) 0 (enc (oB (ntS n)))) 32 (ntS n)) = true := by
  rw [over2 _ _ (enc_len _) (ntS_len n), vfy_zero rfl (ntS_len n) (below_sMA _ _ _)]
  exact decide_eq_true rfl
theorem nt_bad (n : List (BitVec 8)) (text : List (BitVec 8)) : vfy (fSmall 1#64) text (over (over (zer8 64) 0 (enc (oB (ntS n)))) 32 (ntM n)) = false := by
  rw [over2 _ _ (enc_len _) (ntM_len n), vfy_zero rfl (ntM_len n) (below_sMA _ _ _)]
  exact decide_eq_false (nt_ne n)
theorem nt_next (n : List (BitVec 8)) (text : List (BitVec 8)) : vfy (fSmall 1#64) text (over (over (over (zer8 64) 0 (enc (oB (ntS n)))) 32 (ntM n)) 0 (enc (oB (ntM n)))) = true := by
  rw [over2 _ _ (enc_len _) (ntM_len n), over3 _ _ _ (enc_len _) (ntM_len n) (enc_len _), vfy_zero rfl (ntM_len n) (below_sMA _ _ _)]
  exact decide_eq_true rfl
attribute [irreducible] ntS ntM
end Go.Proofs.Ytcgncafhonlmlaa
namespace Go.Proofs.Ytcgncafhonlmlaa
open Go.RowKit
set_option maxRecDepth 100000 in
set_option maxHeartbeats 2000000 in
theorem signNeutral_ev (n : List (BitVec 8)) (text : List (BitVec 8)) (cap : Nat) (hn : n.length = 32) (hT : text.length ≤ 500) : Ev Try.prog (.call 7 [.agg (.a8 (n)), .c (.sl 0 0 text.length cap 1)] [.row false (.a8 (text))]) (.val (.c (.val (.bool (true)))) [.row false (.a8 (text))]) := by
  refine c_call Try.func7 rfl Try.ntmps7 rfl LEN_ ?_
  refine S_ ?_
  refine c_region ?_
  refine s_memN (m_box BX_ LEN_) APP_ rfl ?_
  refine s_val (v_assignC rfl) rfl ?_
  refine s_nil ?_
  refine S_ ?_
  refine c_region ?_
  refine s_val (v_moveC rfl) rfl ?_
  refine s_val (v_lenS rfl Try.underlying23) rfl ?_
  refine s_val (v_gtrN (b := 500) rfl rfl) rfl ?_
  refine s_nil ?_
  have hQ1 : (fSmall 1#64).length = 32 := LQ_
  have hQ2 : (ntS n).length = 32 := LQ_
  refine S_ ?_
  refine c_draw 6 mixed (by kernel_rfl) rfl rfl rfl ?_
  refine h_val (v_loadR rfl rfl row_22 sz_22 EQ_ (by decide)) rfl ?_
  refine h_val (v_blf64 (l := (put (zer64 4) 0 (1#64))) za_42 Try.underlying42 sz_40 rfl rfl) rfl ?_
  refine h_evN (e_callR (bs := []) (rB1_ev) ok_21 (by kernel_rfl) (by kernel_rfl) rfl VAL_) APP_ rfl ?_
  refine h_val (v_blf8 (l := (zer8 32)) za_22 Try.underlying22 sz_5 rfl rfl) rfl ?_
  refine h_evN (e_callR (bs := []) (ntS_ev n HYP_) ok_20 (by kernel_rfl) (by kernel_rfl) rfl VAL_) APP_ rfl ?_
  refine h_memN (m_alloc al_22 LEN_) APP_ rfl ?_
  refine h_nil ?_
  refine s_storeR rfl rfl rfl rfl sz_22 EQ_ EQ_ SET_ ?_
  refine s_nil ?_
  have hQ3 : (fSmall 1#64).length = 32 := LQ_
  refine S_ ?_
  refine c_region ?_
  refine s_val (v_blf64 (l := (put (zer64 4) 0 (1#64))) za_42 Try.underlying42 sz_40 rfl rfl) rfl ?_
  refine s_evN (e_callR (bs := []) (rB1_ev) ok_21 (by kernel_rfl) (by kernel_rfl) rfl VAL_) APP_ rfl ?_
  refine s_memN (m_alloc al_22 LEN_) APP_ rfl ?_
  refine s_storeR rfl rfl rfl rfl sz_22 EQ_ EQ_ SET_ ?_
  refine s_nil ?_
  have hQ4 : (enc (oB (ntS n))).length = 32 := LQ_
  refine S_ ?_
  refine c_region ?_
  refine s_val (v_loadR rfl rfl row_22 sz_22 EQ_ (by decide)) rfl ?_
  refine s_evN (e_callR (bs := []) (bsE_ev (ntS n) HYP_) ok_22 (by kernel_rfl) (by kernel_rfl) rfl VAL_) APP_ rfl ?_
  refine s_memN (m_alloc al_22 LEN_) APP_ rfl ?_
  refine s_storeR rfl rfl rfl rfl sz_22 EQ_ EQ_ SET_ ?_
  refine s_nil ?_
  refine S_ ?_
  refine c_region ?_
  refine s_memN (m_alloc al_25 LEN_) APP_ rfl ?_
  refine s_memN (m_alloc al_25 LEN_) APP_ rfl ?_
  refine s_nil ?_
  have hQ5 : (over (zer8 64) 0 (enc (oB (ntS n)))).length = 64 := LQ_
  refine S_ ?_
  refine c_draw 2 mixed (by kernel_rfl) rfl rfl rfl ?_
  refine h_val (v_slA1 (l := 0) (h := 32) (len := 32) (cp := 64) rfl Try.underlying25 sz_5 rfl rfl rfl (by omega) (by omega) FIT_ rfl rfl) rfl ?_
  refine h_val (v_slA1 (l := 0) (h := 32) (len := 32) (cp := 32) rfl Try.underlying22 sz_5 rfl rfl rfl (by omega) (by omega) FIT_ rfl rfl) rfl ?_
  refine h_nil ?_
  refine s_copy8a rfl rfl rfl rfl Try.underlying23 sz_5 LE_ EQL_ MN_ rfl SET_ rfl ?_
  refine s_nil ?_
  have hQ6 : (over (over (zer8 64) 0 (enc (oB (ntS n)))) 32 (ntS n)).length = 64 := LQ_
  refine S_ ?_
  refine c_draw 2 mixed (by kernel_rfl) rfl rfl rfl ?_
  refine h_val (v_slA1 (l := 32) (h := 64) (len := 32) (cp := 32) rfl Try.underlying25 sz_5 rfl rfl rfl (by omega) (by omega) FIT_ rfl rfl) rfl ?_
  refine h_val (v_slA1 (l := 0) (h := 32) (len := 32) (cp := 32) rfl Try.underlying22 sz_5 rfl rfl rfl (by omega) (by omega) FIT_ rfl rfl) rfl ?_
  refine h_nil ?_
  refine s_copy8a rfl rfl rfl rfl Try.underlying23 sz_5 LE_ EQL_ MN_ rfl SET_ rfl ?_
  refine s_nil ?_
  have hQ7 : (fSmall 1#64).length = 32 := LQ_
  have hQ8 : (ntM n).length = 32 := LQ_
  refine S_ ?_
  refine c_draw 7 mixed (by kernel_rfl) rfl rfl rfl ?_
  refine h_val (v_loadR rfl rfl row_22 sz_22 EQ_ (by decide)) rfl ?_
  refine h_val (v_blf64 (l := (put (zer64 4) 0 (1#64))) za_42 Try.underlying42 sz_40 rfl rfl) rfl ?_
  refine h_evN (e_callR (bs := []) (rB1_ev) ok_21 (by kernel_rfl) (by kernel_rfl) rfl VAL_) APP_ rfl ?_
  refine h_val (v_blf64 (l := (put (zer64 4) 0 (1#64))) za_42 Try.underlying42 sz_40 rfl rfl) rfl ?_
  refine h_evN (e_callR (bs := []) (rB1_ev) ok_21 (by kernel_rfl) (by kernel_rfl) rfl VAL_) APP_ rfl ?_
  refine h_evN (e_callR (bs := []) (ntM_ev n) ok_20 (by kernel_rfl) (by kernel_rfl) rfl VAL_) APP_ rfl ?_
  refine h_memN (m_alloc al_22 LEN_) APP_ rfl ?_
  refine h_nil ?_
  refine s_storeR rfl rfl rfl rfl sz_22 EQ_ EQ_ SET_ ?_
  refine s_nil ?_
  have hQ9 : (over (zer8 64) 0 (enc (oB (ntS n)))).length = 64 := LQ_
  refine S_ ?_
  refine c_draw 2 mixed (by kernel_rfl) rfl rfl rfl ?_
  refine h_val (v_slA1 (l := 0) (h := 32) (len := 32) (cp := 64) rfl Try.underlying25 sz_5 rfl rfl rfl (by omega) (by omega) FIT_ rfl rfl) rfl ?_
  refine h_val (v_slA1 (l := 0) (h := 32) (len := 32) (cp := 32) rfl Try.underlying22 sz_5 rfl rfl rfl (by omega) (by omega) FIT_ rfl rfl) rfl ?_
  refine h_nil ?_
  refine s_copy8a rfl rfl rfl rfl Try.underlying23 sz_5 LE_ EQL_ MN_ rfl SET_ rfl ?_
  refine s_nil ?_
  have hQ10 : (over (over (zer8 64) 0 (enc (oB (ntS n)))) 32 (ntM n)).length = 64 := LQ_
  refine S_ ?_
  refine c_draw 2 mixed (by kernel_rfl) rfl rfl rfl ?_
  refine h_val (v_slA1 (l := 32) (h := 64) (len := 32) (cp := 32) rfl Try.underlying25 sz_5 rfl rfl rfl (by omega) (by omega) FIT_ rfl rfl) rfl ?_
  refine h_val (v_slA1 (l := 0) (h := 32) (len := 32) (cp := 32) rfl Try.underlying22 sz_5 rfl rfl rfl (by omega) (by omega) FIT_ rfl rfl) rfl ?_
  refine h_nil ?_
  refine s_copy8a rfl rfl rfl rfl Try.underlying23 sz_5 LE_ EQL_ MN_ rfl SET_ rfl ?_
  refine s_nil ?_
  refine S_ ?_
  refine c_region ?_
  refine s_val (v_loadR rfl rfl row_25 sz_25 EQ_ (by decide)) rfl ?_
  refine s_memN (m_alloc al_25 LEN_) APP_ rfl ?_
  refine s_storeR rfl rfl rfl rfl sz_25 EQ_ EQ_ SET_ ?_
  refine s_nil ?_
  have hQ11 : (enc (oB (ntM n))).length = 32 := LQ_
  refine S_ ?_
  refine c_region ?_
  refine s_val (v_loadR rfl rfl row_22 sz_22 EQ_ (by decide)) rfl ?_
  refine s_evN (e_callR (bs := []) (bsE_ev (ntM n) HYP_) ok_22 (by kernel_rfl) (by kernel_rfl) rfl VAL_) APP_ rfl ?_
  refine s_memN (m_alloc al_22 LEN_) APP_ rfl ?_
  refine s_storeR rfl rfl rfl rfl sz_22 EQ_ EQ_ SET_ ?_
  refine s_nil ?_
  have hQ12 : (over (over (over (zer8 64) 0 (enc (oB (ntS n)))) 32 (ntM n)) 0 (enc (oB (ntM n)))).length = 64 := LQ_
  refine S_ ?_
  refine c_draw 2 mixed (by kernel_rfl) rfl rfl rfl ?_
  refine h_val (v_slA1 (l := 0) (h := 32) (len := 32) (cp := 64) rfl Try.underlying25 sz_5 rfl rfl rfl (by omega) (by omega) FIT_ rfl rfl) rfl ?_
  refine h_val (v_slA1 (l := 0) (h := 32) (len := 32) (cp := 32) rfl Try.underlying22 sz_5 rfl rfl rfl (by omega) (by omega) FIT_ rfl rfl) rfl ?_
  refine h_nil ?_
  refine s_copy8a rfl rfl rfl rfl Try.underlying23 sz_5 LE_ EQL_ MN_ rfl SET_ rfl ?_
  refine s_nil ?_
  refine S_ ?_
  refine c_region ?_
  refine s_val (v_loadR rfl rfl row_22 sz_22 EQ_ (by decide)) rfl ?_
  refine s_val (v_moveC rfl) rfl ?_
  refine s_val (v_loadR rfl rfl row_25 sz_25 EQ_ (by decide)) rfl ?_
  refine s_evN (e_callR (bs := [0]) (vfyV_ev (fSmall 1#64) text text.length cap (over (over (zer8 64) 0 (enc (oB (ntS n)))) 32 (ntS n)) true HYP_ HYP_ HYP_ HYP_ (nt_sig _ _)) ok_18 (by kernel_rfl) (by kernel_rfl) rfl VAL_) APP_ rfl ?_
  refine s_val (v_moveC rfl) rfl ?_
  refine s_go GO_ ?_
  refine s_val (v_loadR rfl rfl row_22 sz_22 EQ_ (by decide)) rfl ?_
  refine s_go GO_ ?_
  refine s_val (v_moveC rfl) rfl ?_
  refine s_go GO_ ?_
  refine s_val (v_loadR rfl rfl row_25 sz_25 EQ_ (by decide)) rfl ?_
  refine s_go GO_ ?_
  refine s_evN (e_callR (bs := [0]) (vfyV_ev (fSmall 1#64) text text.length cap (over (over (zer8 64) 0 (enc (oB (ntS n)))) 32 (ntM n)) false HYP_ HYP_ HYP_ HYP_ (nt_bad _ _)) ok_18 (by kernel_rfl) (by kernel_rfl) rfl VAL_) APP_ rfl ?_
  refine s_go GO_ ?_
  refine s_val (v_unnotB rfl) rfl ?_
  refine s_val (v_pickT rfl PK_ rfl) rfl ?_
  refine s_val (v_moveC rfl) rfl ?_
  refine s_go GO_ ?_
  refine s_val (v_loadR rfl rfl row_22 sz_22 EQ_ (by decide)) rfl ?_
  refine s_go GO_ ?_
  refine s_val (v_moveC rfl) rfl ?_
  refine s_go GO_ ?_
  refine s_val (v_loadR rfl rfl row_25 sz_25 EQ_ (by decide)) rfl ?_
  refine s_go GO_ ?_
  refine s_evN (e_callR (bs := [0]) (vfyV_ev (fSmall 1#64) text text.length cap (over (over (over (zer8 64) 0 (enc (oB (ntS n)))) 32 (ntM n)) 0 (enc (oB (ntM n)))) true HYP_ HYP_ HYP_ HYP_ (nt_next _ _)) ok_18 (by kernel_rfl) (by kernel_rfl) rfl VAL_) APP_ rfl ?_
  refine s_val (v_pickT rfl PK_ rfl) rfl ?_
  refine s_val (v_moveC rfl) rfl ?_
  refine s_go GO_ ?_
  refine s_evN (e_callR (wakes_ev) ok_15 rfl rfl rfl VAL_) APP_ rfl ?_
  refine s_val (v_pickT rfl PK_ rfl) rfl ?_
  refine s_val (v_assignC rfl) rfl ?_
  refine s_nil ?_
  refine S_ ?_
  exact k_1 (by first | exact r_tmpC rfl | exact r_tmpA rfl) (by first | kernel_rfl | rfl)
set_option maxRecDepth 100000 in
set_option maxHeartbeats 2000000 in
theorem signNeutralB_ev (n : List (BitVec 8)) (text : List (BitVec 8)) (cap : Nat) (hn : n.length = 32) (hT : 500 < text.length) : Ev Try.prog (.call 7 [.agg (.a8 (n)), .c (.sl 0 0 text.length cap 1)] [.row false (.a8 (text))]) (.val (.c (.val (.bool (true)))) [.row false (.a8 (text))]) := by
  refine c_call Try.func7 rfl Try.ntmps7 rfl LEN_ ?_
  refine S_ ?_
  refine c_region ?_
  refine s_memN (m_box BX_ LEN_) APP_ rfl ?_
  refine s_val (v_assignC rfl) rfl ?_
  refine s_nil ?_
  refine S_ ?_
  refine c_region ?_
  refine s_val (v_moveC rfl) rfl ?_
  refine s_val (v_lenS rfl Try.underlying23) rfl ?_
  refine s_val (v_gtrN (b := 500) rfl rfl) rfl ?_
  refine s_nil ?_
  refine S_ ?_
  refine c_region ?_
  refine s_val (v_assignC rfl) rfl ?_
  refine s_nil ?_
  refine S_ ?_
  exact k_1 (by first | exact r_tmpC rfl | exact r_tmpA rfl) (by first | kernel_rfl | rfl)
end Go.Proofs.Ytcgncafhonlmlaa
namespace Go.Proofs.Ytcgncafhonlmlaa
open Go.RowKit
theorem signTwiceU_ev (seed : List (BitVec 8)) (text : List (BitVec 8)) (cap : Nat) (hseed : seed.length = 32) : Ev Try.prog (.call 4 [.agg (.a8 (seed)), .c (.sl 0 0 text.length cap 1)] [.row false (.a8 (text))]) (.val (.c (.val (.bool (true)))) [.row false (.a8 (text))]) := by
  rcases Nat.lt_or_ge 500 text.length with h | h
  · exact signTwiceB_ev seed text cap hseed h
  · exact signTwice_ev seed text cap hseed h
theorem signBackU_ev (seed : List (BitVec 8)) (text : List (BitVec 8)) (cap : Nat) (hseed : seed.length = 32) : Ev Try.prog (.call 8 [.agg (.a8 (seed)), .c (.sl 0 0 text.length cap 1)] [.row false (.a8 (text))]) (.val (.c (.val (.bool (true)))) [.row false (.a8 (text))]) := by
  rcases Nat.lt_or_ge 500 text.length with h | h
  · exact signBackB_ev seed text cap hseed h
  · exact signBack_ev seed text cap hseed h
theorem signNeutralU_ev (n : List (BitVec 8)) (text : List (BitVec 8)) (cap : Nat) (hn : n.length = 32) : Ev Try.prog (.call 7 [.agg (.a8 (n)), .c (.sl 0 0 text.length cap 1)] [.row false (.a8 (text))]) (.val (.c (.val (.bool (true)))) [.row false (.a8 (text))]) := by
  rcases Nat.lt_or_ge 500 text.length with h | h
  · exact signNeutralB_ev n text cap hn h
  · exact signNeutral_ev n text cap hn h
end Go.Proofs.Ytcgncafhonlmlaa
namespace Go.Proofs.Ytcgncafhonlmlaa
open Go.RowKit
def Sl (w : World) (v : Value) (l : List (BitVec 8)) : Prop :=
  ∃ a cap, v = .slice a l.length cap ∧ l.length ≤ cap ∧ cap ≤ maxLen ∧ (a = none → cap = 0) ∧ ∀ i, i < l.length → ∃ b off, a = some ⟨b, off, none⟩ ∧ w.cell? ⟨b, off + i, none⟩ = some (U8 (nth l i))
def Own (B : Nat) (w : World) (v : Value) (l : List (BitVec 8)) : Prop := w.ownsRow B 5 1 v l.length (l.map U8)
theorem Sl.nil (w : World) : Sl w (.slice none 0 0) [] := ⟨none, 0, rfl, Nat.le_refl _, by unfold maxLen; omega, fun _ => rfl, fun i h => absurd h (by simp)⟩
theorem addr_mid (b o j : Nat) : (⟨b, o, none⟩ : Addr).add j = ⟨b, o + j, none⟩ := Addr.add_mid b o j
theorem Own.sl {B : Nat} {w : World} {v : Value} {l : List (BitVec 8)} (h : Own B w v l) : Sl w v l := by
  obtain ⟨h1, h2⟩ := h
  rcases h2 with ⟨rfl, hn⟩ | ⟨g, cap, cur, rfl, hg, hh, hc, hm, hs, ht⟩
  · obtain rfl : l = [] := List.length_eq_zero_iff.1 hn
    exact Sl.nil w
  · refine ⟨some ⟨g, 0, none⟩, cap, rfl, hc, hm, (fun h => by cases h), fun i hi => ⟨g, 0, rfl, ?_⟩⟩
    rw [cell_of_row w g (0 + i) cur _ _ hh]
    have := congrArg (fun x => x[i]?) ht
    simp only [List.getElem?_take, Nat.mul_one, hi, if_true, List.getElem?_map] at this
    rw [Nat.zero_add, ← Array.getElem?_toList, this]
    simp [nth, hi]
theorem Own.nil (B : Nat) (w : World) : Own B w (.slice none 0 0) [] := World.ownsRow_nil w B _ 1
theorem Sl.shape {w : World} {v : Value} {l : List (BitVec 8)} (h : Sl w v l) (hl : l ≠ []) : ∃ b off cap, v = .slice (some ⟨b, off, none⟩) l.length cap ∧ l.length ≤ cap ∧ cap ≤ maxLen ∧ ∀ i, i < l.length → w.cell? ⟨b, off + i, none⟩ = some (U8 (nth l i)) := by
  obtain ⟨a, cap, rfl, hc, hm, _, hi⟩ := h
  have hp : 0 < l.length := List.length_pos_iff.2 hl
  obtain ⟨b, off, rfl, _⟩ := hi 0 hp
  refine ⟨b, off, cap, rfl, hc, hm, fun i h => ?_⟩
  obtain ⟨b', off', e, hcell⟩ := hi i h
  simp only [Option.some.injEq, Addr.mk.injEq] at e
  obtain ⟨rfl, rfl, _⟩ := e
  exact hcell
theorem Sl.len {w : World} {v : Value} {l : List (BitVec 8)} (h : Sl w v l) : ∃ a cap, v = .slice a l.length cap := by obtain ⟨a, cap, h, _⟩ := h; exact ⟨a, cap, h⟩
theorem Sl.mk {w : World} {b off len cap : Nat} {l : List (BitVec 8)} (hl : l.length = len) (hc : len ≤ cap) (hm : cap ≤ maxLen) (h : ∀ i, i < len → w.cell? ⟨b, off + i, none⟩ = some (U8 (nth l i))) : Sl w (.slice (some ⟨b, off, none⟩) len cap) l := by
  subst hl
  exact ⟨_, cap, rfl, hc, hm, fun h => (by cases h), fun i hi => ⟨b, off, rfl, h i hi⟩⟩
theorem Sl.below {w w' : World} {v : Value} {l : List (BitVec 8)} (h : Sl w v l) (hb : Below w.heap.size w w') : Sl w' v l := by
  obtain ⟨a, cap, rfl, hc, hm, hn, hi⟩ := h
  refine ⟨a, cap, rfl, hc, hm, hn, fun i h => ?_⟩
  obtain ⟨b, off, e, hcell⟩ := hi i h
  refine ⟨b, off, e, ?_⟩
  rw [hb.cell (World.block_lt_of_cell? w _ hcell)]; exact hcell
theorem Sl.same {w w' : World} {v : Value} {l : List (BitVec 8)} (h : Sl w v l) (hb : ∀ k, (l ≠ [] → v.ownBlock = some k) → w'.heap[k]? = w.heap[k]?) : Sl w' v l := by
  obtain ⟨a, cap, rfl, hc, hm, hn, hi⟩ := h
  refine ⟨a, cap, rfl, hc, hm, hn, fun i h => ?_⟩
  obtain ⟨b, off, rfl, hcell⟩ := hi i h
  refine ⟨b, off, rfl, ?_⟩
  rw [World.cell?_of_block (w := w) (w' := w') (hb b fun _ => rfl)]; exact hcell
theorem Sl.upto {w : World} {v : Value} {l : List (BitVec 8)} (h : Sl w v l) (hl : l ≠ []) : ∃ k, v.ownBlock = some k ∧ k < w.heap.size := by
  obtain ⟨b, off, cap, rfl, _, _, hi⟩ := h.shape hl
  exact ⟨b, rfl, World.block_lt_of_cell? w _ (hi 0 (List.length_pos_iff.2 hl))⟩
theorem Own.below {B : Nat} {w w' : World} {v : Value} {l : List (BitVec 8)} (h : Own B w v l) (hb : Below w.heap.size w w') : Own B w' v l := by
  obtain ⟨h1, h2⟩ := h
  refine ⟨h1, ?_⟩
  rcases h2 with h2 | ⟨g, cap, cur, rfl, hg, hh, r⟩
  · exact Or.inl h2
  · exact Or.inr ⟨g, cap, cur, rfl, hg, by rw [hb.block g (Array.getElem?_eq_some_iff.1 hh).1]; exact hh, r⟩
theorem Own.mono {B B' : Nat} {w : World} {v : Value} {l : List (BitVec 8)} (h : Own B w v l) (hB : B' ≤ B) : Own B' w v l := by
  obtain ⟨h1, h2⟩ := h
  refine ⟨h1, ?_⟩
  rcases h2 with h2 | ⟨g, cap, cur, rfl, hg, hh, r⟩
  · exact Or.inl h2
  · exact Or.inr ⟨g, cap, cur, rfl, Nat.le_trans hB hg, hh, r⟩
theorem Has.grown {w w' : World} {b : Nat} {cs : Array Value} {t : TypeId} {row : Option Nat} (h : Has w b cs t) (hg : w.grownBy w' row) (hb : some b ≠ row) : Has w' b cs t := by
  have := h.lt; unfold Has at *; rw [hg.block b this hb]; exact h
theorem Sl.grown {w w' : World} {v : Value} {l : List (BitVec 8)} {row : Option Nat} (h : Sl w v l) (hg : w.grownBy w' row) (hb : l ≠ [] → v.ownBlock ≠ row) : Sl w' v l := by
  by_cases hl : l = []
  · subst hl
    obtain ⟨a, cap, rfl, hc, hm, hn, hi⟩ := h
    exact ⟨a, cap, rfl, hc, hm, hn, fun i h => absurd h (by simp)⟩
  · obtain ⟨k, hk, hk2⟩ := h.upto hl
    refine h.same fun j hj => ?_
    have : j = k := by have := hj hl; rw [hk] at this; simpa using this.symm
    subst this
    exact hg.block j hk2 (by rw [← hk]; exact hb hl)
theorem Own.apart {B : Nat} {w : World} {v : Value} {l : List (BitVec 8)} (h : Own B w v l) {b : Nat} {cs : Array Value} {t : TypeId} (hb : Has w b cs t) (ht : t ≠ 5) : some b ≠ v.ownBlock := by
  obtain ⟨_, h2⟩ := h
  rcases h2 with ⟨rfl, _⟩ | ⟨g, cap, cur, rfl, hg, hh, _⟩
  · simp [Value.ownBlock]
  · intro e
    simp only [Value.ownBlock, Option.some.injEq] at e
    subst e
    unfold Has at hb
    rw [hb] at hh
    simp only [Option.some.injEq, Obj.cells.injEq] at hh
    exact ht hh.2.1
theorem Own.from {B : Nat} {w : World} {v : Value} {l : List (BitVec 8)} (h : Own B w v l) : ∀ k, v.ownBlock = some k → B ≤ k := fun k hk => (World.ownsRow.lt h k hk).1
theorem Has.own {B : Nat} {w w' : World} {v : Value} {l : List (BitVec 8)} (h : Own B w v l) (hg : w.grownBy w' v.ownBlock) {b : Nat} {cs : Array Value} {t : TypeId} (hb : Has w b cs t) (ht : t ≠ 5) : Has w' b cs t := hb.grown hg (h.apart hb ht)
theorem Sl.one {w : World} {g : Nat} {x : BitVec 8} {t : TypeId} (h : Has w g #[U8 x] t) : Sl w (.slice (some ⟨g, 0, none⟩) 1 1) [x] :=
  Sl.mk (l := [x]) rfl (Nat.le_refl _) (by unfold maxLen; omega) fun i hi => by
    obtain rfl : i = 0 := by omega
    rw [h.cell]; rfl
def cellsT (l : List (BitVec 8)) (T : List Value) : Array Value := (l.map U8 ++ T).toArray
@[go_sem] theorem cellsT_get (l : List (BitVec 8)) (T : List Value) (i : Nat) (h : i < l.length) : (cellsT l T)[i]? = some (U8 (nth l i)) := by
  simp only [cellsT, List.getElem?_toArray]
  rw [List.getElem?_append_left (by simpa using h)]
  simp [nth, h]
@[go_sem] theorem cellsT_set (l : List (BitVec 8)) (T : List Value) (i : Nat) (v : BitVec 8) (h : i < l.length) : (cellsT l T).setIfInBounds i (U8 v) = cellsT (put l i v) T := by
  simp [cellsT, put, List.map_set, h]
theorem Own.shape {B : Nat} {w : World} {v : Value} {l : List (BitVec 8)} (h : Own B w v l) (hl : l ≠ []) : ∃ g cap T, v = .slice (some ⟨g, 0, none⟩) l.length cap ∧ B ≤ g ∧ Has w g (cellsT l T) 5 ∧ l.length ≤ cap ∧ cap ≤ maxLen ∧ l.length + T.length = cap := by
  obtain ⟨h1, h2⟩ := h
  rcases h2 with ⟨rfl, hn⟩ | ⟨g, cap, cur, rfl, hg, hh, hc, hm, hs, ht⟩
  · exact absurd (List.length_eq_zero_iff.1 hn) hl
  · refine ⟨g, cap, cur.toList.drop l.length, rfl, hg, ?_, hc, hm, ?_⟩
    · have e : cellsT l (cur.toList.drop l.length) = cur := by
        unfold cellsT
        rw [Nat.mul_one] at ht
        rw [← ht, List.take_append_drop]
      unfold Has; rw [e]; exact hh
    · have : cur.toList.length = cap := by simpa using hs
      rw [List.length_drop, this]; omega
theorem Own.mk {B : Nat} {w : World} {g cap : Nat} {l : List (BitVec 8)} {T : List Value} (hg : B ≤ g) (h : Has w g (cellsT l T) 5) (hm : cap ≤ maxLen) (hc : l.length + T.length = cap) : Own B w (.slice (some ⟨g, 0, none⟩) l.length cap) l := by
  refine ⟨by simp, .inr ⟨g, cap, cellsT l T, rfl, hg, h, by omega, hm, by simp [cellsT]; omega, ?_⟩⟩
  simp [cellsT]
end Go.Proofs.Ytcgncafhonlmlaa
namespace Go.Proofs.Ytcgncafhonlmlaa
open Go.ChangeShapes Go.WideShapes Go.ChangeAt Go.RowKit
theorem int_u8 {n : Int} (h : (Lit.int .u8 n).wf = true) : (.int .u8 n : Value) = U8 (BitVec.ofInt 8 n) := by
  simp only [Lit.wf, Bool.and_eq_true, decide_eq_true_eq] at h
  have h1 : (0 : Int) ≤ n := h.1
  have h2 : n ≤ 255 := h.2
  show Value.int .u8 n = Value.int .u8 (tn (BitVec.ofInt 8 n))
  congr 1
  unfold tn
  rw [BitVec.toNat_ofInt]
  omega
def byteOf : Value → BitVec 8
  | .int _ n => BitVec.ofInt 8 n
  | _ => 0
section
variable {H : Type} {enc : TypeId × Value → H} {P : Program} {w : World} {base : Nat} {spare : Nat → Bool} {held : Bool}
theorem okWide_array {r : Reach} {b0 : Nat} {t e : TypeId} {n : Nat} {v : Value} (ht : P.underlying t = some (.array n e)) (h : Value.okWide P w r b0 t v) : ∃ cs, v = .agg cs ∧ cs.size = P.cellsOf t := by
  simp only [Value.okWide, ht] at h
  obtain ⟨cs, h1, h2, _⟩ := h
  exact ⟨cs, h1, h2⟩
theorem open_bytes {r : Reach} {b0 : Nat} {t e : TypeId} {n : Nat} {v : Value} {d : DataW H} {ps : List MemPlace} (ht : P.underlying t = some (.array n e)) (he : P.underlying e = some (.int .u8)) (hc : P.cellsOf e = 1) (hct : P.cellsOf t = n)
    (hval : Value.okWide P w r b0 t v) (hd : DataW.Trod enc P w base spare held t v d ps) : ∃ l : List (BitVec 8), v = .agg (cells U8 l) ∧ l.length = n := by
  obtain ⟨cs, rfl, hs⟩ := okWide_array ht hval
  obtain ⟨fuel, hf⟩ := hd
  obtain ⟨xs, m, _, _, _, hx, hi⟩ := DataW.trod_array ht hf
  refine ⟨cs.toList.map byteOf, ?_, by simp [hs, hct]⟩
  congr 1
  apply Array.ext
  · simp [cells]
  · intro i h1 h2
    have hin : i < n := by omega
    have h := hi i hin
    rw [List.getElem?_eq_getElem (by omega)] at h
    obtain ⟨z, hz, _, hw⟩ := DataW.trod_int he h
    have hv : cs[i] = .int .u8 z := by
      rw [hc, Nat.mul_one] at hz
      have : ((cs.toList.drop i).take 1)[0]? = some (.int .u8 z) := by
        have hz' : ((cs.toList.drop i).take 1) = [.int .u8 z] := hz
        rw [hz']; rfl
      simp [List.getElem?_drop] at this
      have h3 := Array.getElem?_eq_some_iff.1 this
      exact h3.2
    simp only [cells, List.getElem_toArray, List.getElem_map, Array.getElem_toList]
    rw [hv]
    exact int_u8 hw
theorem open_i64 {r : Reach} {b0 : Nat} {t : TypeId} {v : Value} {d : DataW H} {ps : List MemPlace} (ht : P.underlying t = some (.int .i64)) (hval : Value.okWide P w r b0 t v) (hd : DataW.Trod enc P w base spare held t v d ps) :
    ∃ n : Int, v = .int .i64 n ∧ (Lit.int .i64 n).wf = true := by
  obtain ⟨n, rfl, _, _, hw⟩ := open_int ht hval hd
  exact ⟨n, rfl, hw⟩
end
end Go.Proofs.Ytcgncafhonlmlaa
