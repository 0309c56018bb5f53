/- Machine words as bit vectors: the operations of the model on unsigned integers, stated on bit vectors. No program in sight. -/
import Derived.Test.YtlnekohkbhidnaaRows
import Derived.WalkKit
import Derived.WalkSpells
import Derived.WalkLawsBesides
import Derived.Deep.QuietTactic
import Derived.BigQuiet
import Derived.StillTailTactics
import Derived.Deep.WholeRow
import Derived.Deep.MidRow
import Derived.Laws.CopyOwn
import Derived.Handy
import Derived.Deep.DeepCutAuto
import Derived.Deep.CutBlock
namespace Go.Proofs.Ytlnekohkbhidnaa
open Go.RowKit

/-- Unsigned words as values. -/
def tn {n : Nat} (x : BitVec n) : Int := x.toNat
abbrev U32 (x : BitVec 32) : Value := .int .u32 (tn x)
abbrev U64 (x : BitVec 64) : Value := .int .u64 (tn x)
abbrev U8 (x : BitVec 8) : Value := .int .u8 (tn x)
@[simp] theorem tn_nonneg {n : Nat} (x : BitVec n) : 0 ≤ tn x := Int.natCast_nonneg _
theorem tn_lt {n : Nat} (x : BitVec n) : tn x < 2 ^ n := by unfold tn; have := x.isLt; exact_mod_cast this
@[simp] theorem tn_toNat {n : Nat} (x : BitVec n) : (tn x).toNat = x.toNat := rfl
theorem tn_inj {n : Nat} {x y : BitVec n} (h : tn x = tn y) : x = y := BitVec.eq_of_toNat_eq (by unfold tn at h; omega)

theorem wrapU32 (n : Int) : IntKind.u32.wrap n = ((BitVec.ofInt 32 n).toNat : Int) := by
  simp [IntKind.wrap, IntKind.bits, IntKind.signed]; omega
theorem wrapU64 (n : Int) : IntKind.u64.wrap n = ((BitVec.ofInt 64 n).toNat : Int) := by
  simp [IntKind.wrap, IntKind.bits, IntKind.signed]; omega
theorem wrapU8 (n : Int) : IntKind.u8.wrap n = ((BitVec.ofInt 8 n).toNat : Int) := by
  simp [IntKind.wrap, IntKind.bits, IntKind.signed]; omega

theorem ofInt_add {n : Nat} (x y : BitVec n) : BitVec.ofInt n (x.toNat + y.toNat) = x + y := by
  apply BitVec.eq_of_toNat_eq
  rw [BitVec.toNat_ofInt, BitVec.toNat_add, ← Int.natCast_add]; omega
theorem ofInt_sub {n : Nat} (x y : BitVec n) : BitVec.ofInt n (x.toNat - y.toNat) = x - y := by
  have hx := x.isLt
  have hy := y.isLt
  apply BitVec.eq_of_toNat_eq
  rw [BitVec.toNat_ofInt, BitVec.toNat_sub]
  generalize hp : 2 ^ n = p at *
  have h : ((x.toNat : Int) - y.toNat) % (p : Int) = ((p - y.toNat + x.toNat : Nat) : Int) % (p : Int) := by
    rw [show ((p - y.toNat + x.toNat : Nat) : Int) = ((x.toNat : Int) - y.toNat) + p from by omega, Int.add_emod_right]
  rw [h]; omega
theorem ofInt_mul {n : Nat} (x y : BitVec n) : BitVec.ofInt n (x.toNat * y.toNat) = x * y := by
  apply BitVec.eq_of_toNat_eq
  rw [BitVec.toNat_ofInt, BitVec.toNat_mul]
  rw [← Int.natCast_mul]; omega
theorem ofInt_nat {n : Nat} (x : BitVec n) : BitVec.ofInt n x.toNat = x := by
  apply BitVec.eq_of_toNat_eq; rw [BitVec.toNat_ofInt]; have := x.isLt
  rw [show ((x.toNat : Int) % ((2 ^ n : Nat) : Int)) = ((x.toNat % 2 ^ n : Nat) : Int) from by omega, Nat.mod_eq_of_lt this]; rfl

theorem ofInt_wide {n m : Nat} (x : BitVec n) : BitVec.ofInt m x.toNat = x.setWidth m := by
  apply BitVec.eq_of_toNat_eq
  rw [BitVec.toNat_ofInt, BitVec.toNat_setWidth, ← Int.natCast_emod]; rfl

section
variable {P : Program} {w : World} {t u : TypeId}
/- + - * -/
@[go_sem 6000] theorem add32 (x y : BitVec 32) : binOp .add t (U32 x) (U32 y) = (pure (U32 (x + y)) : Sem Value) := by
  show (pure (Value.int .u32 (IntKind.u32.wrap (x.toNat + y.toNat))) : Sem Value) = _
  rw [wrapU32, ofInt_add]; rfl
@[go_sem 6000] theorem add64 (x y : BitVec 64) : binOp .add t (U64 x) (U64 y) = (pure (U64 (x + y)) : Sem Value) := by
  show (pure (Value.int .u64 (IntKind.u64.wrap (x.toNat + y.toNat))) : Sem Value) = _
  rw [wrapU64, ofInt_add]; rfl
@[go_sem 6000] theorem add8 (x y : BitVec 8) : binOp .add t (U8 x) (U8 y) = (pure (U8 (x + y)) : Sem Value) := by
  show (pure (Value.int .u8 (IntKind.u8.wrap (x.toNat + y.toNat))) : Sem Value) = _
  rw [wrapU8, ofInt_add]; rfl
@[go_sem 6000] theorem sub32 (x y : BitVec 32) : binOp .sub t (U32 x) (U32 y) = (pure (U32 (x - y)) : Sem Value) := by
  show (pure (Value.int .u32 (IntKind.u32.wrap (x.toNat - y.toNat))) : Sem Value) = _
  rw [wrapU32, ofInt_sub]; rfl
@[go_sem 6000] theorem sub64 (x y : BitVec 64) : binOp .sub t (U64 x) (U64 y) = (pure (U64 (x - y)) : Sem Value) := by
  show (pure (Value.int .u64 (IntKind.u64.wrap (x.toNat - y.toNat))) : Sem Value) = _
  rw [wrapU64, ofInt_sub]; rfl
@[go_sem 6000] theorem sub8 (x y : BitVec 8) : binOp .sub t (U8 x) (U8 y) = (pure (U8 (x - y)) : Sem Value) := by
  show (pure (Value.int .u8 (IntKind.u8.wrap (x.toNat - y.toNat))) : Sem Value) = _
  rw [wrapU8, ofInt_sub]; rfl
@[go_sem 6000] theorem mul32 (x y : BitVec 32) : binOp .mul t (U32 x) (U32 y) = (pure (U32 (x * y)) : Sem Value) := by
  show (pure (Value.int .u32 (IntKind.u32.wrap (x.toNat * y.toNat))) : Sem Value) = _
  rw [wrapU32, ofInt_mul]; rfl
@[go_sem 6000] theorem mul64 (x y : BitVec 64) : binOp .mul t (U64 x) (U64 y) = (pure (U64 (x * y)) : Sem Value) := by
  show (pure (Value.int .u64 (IntKind.u64.wrap (x.toNat * y.toNat))) : Sem Value) = _
  rw [wrapU64, ofInt_mul]; rfl
/- & | ^ -/
theorem bit32 (r : BitVec 32) : (pure (Value.int .u32 (IntKind.u32.wrap r.toNat)) : Sem Value) = pure (U32 r) := by rw [wrapU32, ofInt_nat]; rfl
theorem bit64 (r : BitVec 64) : (pure (Value.int .u64 (IntKind.u64.wrap r.toNat)) : Sem Value) = pure (U64 r) := by rw [wrapU64, ofInt_nat]; rfl
theorem bit8 (r : BitVec 8) : (pure (Value.int .u8 (IntKind.u8.wrap r.toNat)) : Sem Value) = pure (U8 r) := by rw [wrapU8, ofInt_nat]; rfl
@[go_sem 6000] theorem and32 (x y : BitVec 32) : binOp .and t (U32 x) (U32 y) = (pure (U32 (x &&& y)) : Sem Value) := by
  show (pure (Value.int .u32 (IntKind.u32.wrap (BitVec.ofInt 32 x.toNat &&& BitVec.ofInt 32 y.toNat).toNat)) : Sem Value) = _
  rw [ofInt_nat, ofInt_nat]; exact bit32 _
@[go_sem 6000] theorem or32 (x y : BitVec 32) : binOp .or t (U32 x) (U32 y) = (pure (U32 (x ||| y)) : Sem Value) := by
  show (pure (Value.int .u32 (IntKind.u32.wrap (BitVec.ofInt 32 x.toNat ||| BitVec.ofInt 32 y.toNat).toNat)) : Sem Value) = _
  rw [ofInt_nat, ofInt_nat]; exact bit32 _
@[go_sem 6000] theorem xor32 (x y : BitVec 32) : binOp .xor t (U32 x) (U32 y) = (pure (U32 (x ^^^ y)) : Sem Value) := by
  show (pure (Value.int .u32 (IntKind.u32.wrap (BitVec.ofInt 32 x.toNat ^^^ BitVec.ofInt 32 y.toNat).toNat)) : Sem Value) = _
  rw [ofInt_nat, ofInt_nat]; exact bit32 _
@[go_sem 6000] theorem and64 (x y : BitVec 64) : binOp .and t (U64 x) (U64 y) = (pure (U64 (x &&& y)) : Sem Value) := by
  show (pure (Value.int .u64 (IntKind.u64.wrap (BitVec.ofInt 64 x.toNat &&& BitVec.ofInt 64 y.toNat).toNat)) : Sem Value) = _
  rw [ofInt_nat, ofInt_nat]; exact bit64 _
@[go_sem 6000] theorem or64 (x y : BitVec 64) : binOp .or t (U64 x) (U64 y) = (pure (U64 (x ||| y)) : Sem Value) := by
  show (pure (Value.int .u64 (IntKind.u64.wrap (BitVec.ofInt 64 x.toNat ||| BitVec.ofInt 64 y.toNat).toNat)) : Sem Value) = _
  rw [ofInt_nat, ofInt_nat]; exact bit64 _
@[go_sem 6000] theorem xor64 (x y : BitVec 64) : binOp .xor t (U64 x) (U64 y) = (pure (U64 (x ^^^ y)) : Sem Value) := by
  show (pure (Value.int .u64 (IntKind.u64.wrap (BitVec.ofInt 64 x.toNat ^^^ BitVec.ofInt 64 y.toNat).toNat)) : Sem Value) = _
  rw [ofInt_nat, ofInt_nat]; exact bit64 _
@[go_sem 6000] theorem and8 (x y : BitVec 8) : binOp .and t (U8 x) (U8 y) = (pure (U8 (x &&& y)) : Sem Value) := by
  show (pure (Value.int .u8 (IntKind.u8.wrap (BitVec.ofInt 8 x.toNat &&& BitVec.ofInt 8 y.toNat).toNat)) : Sem Value) = _
  rw [ofInt_nat, ofInt_nat]; exact bit8 _
@[go_sem 6000] theorem or8 (x y : BitVec 8) : binOp .or t (U8 x) (U8 y) = (pure (U8 (x ||| y)) : Sem Value) := by
  show (pure (Value.int .u8 (IntKind.u8.wrap (BitVec.ofInt 8 x.toNat ||| BitVec.ofInt 8 y.toNat).toNat)) : Sem Value) = _
  rw [ofInt_nat, ofInt_nat]; exact bit8 _
@[go_sem 6000] theorem xor8 (x y : BitVec 8) : binOp .xor t (U8 x) (U8 y) = (pure (U8 (x ^^^ y)) : Sem Value) := by
  show (pure (Value.int .u8 (IntKind.u8.wrap (BitVec.ofInt 8 x.toNat ^^^ BitVec.ofInt 8 y.toNat).toNat)) : Sem Value) = _
  rw [ofInt_nat, ofInt_nat]; exact bit8 _
/- a literal beside a word -/
@[go_sem 5000] theorem add32l (x : BitVec 32) (n : Int) : binOp .add t (U32 x) (.int .u32 n) = (pure (U32 (x + BitVec.ofInt 32 n)) : Sem Value) := by
  show (pure (Value.int .u32 (IntKind.u32.wrap (x.toNat + n))) : Sem Value) = _
  rw [wrapU32, BitVec.ofInt_add, ofInt_nat]; rfl
@[go_sem 5000] theorem add64l (x : BitVec 64) (n : Int) : binOp .add t (U64 x) (.int .u64 n) = (pure (U64 (x + BitVec.ofInt 64 n)) : Sem Value) := by
  show (pure (Value.int .u64 (IntKind.u64.wrap (x.toNat + n))) : Sem Value) = _
  rw [wrapU64, BitVec.ofInt_add, ofInt_nat]; rfl
@[go_sem 5000] theorem mul64l (x : BitVec 64) (n : Int) : binOp .mul t (U64 x) (.int .u64 n) = (pure (U64 (x * BitVec.ofInt 64 n)) : Sem Value) := by
  show (pure (Value.int .u64 (IntKind.u64.wrap (x.toNat * n))) : Sem Value) = _
  rw [wrapU64, BitVec.ofInt_mul, ofInt_nat]; rfl
@[go_sem 5000] theorem mul64r (x : BitVec 64) (n : Int) : binOp .mul t (.int .u64 n) (U64 x) = (pure (U64 (BitVec.ofInt 64 n * x)) : Sem Value) := by
  show (pure (Value.int .u64 (IntKind.u64.wrap (n * x.toNat))) : Sem Value) = _
  rw [wrapU64, BitVec.ofInt_mul, ofInt_nat]; rfl
@[go_sem 5000] theorem mul32r (x : BitVec 32) (n : Int) : binOp .mul t (.int .u32 n) (U32 x) = (pure (U32 (BitVec.ofInt 32 n * x)) : Sem Value) := by
  show (pure (Value.int .u32 (IntKind.u32.wrap (n * x.toNat))) : Sem Value) = _
  rw [wrapU32, BitVec.ofInt_mul, ofInt_nat]; rfl
@[go_sem 5000] theorem sub64r (x : BitVec 64) (n : Int) : binOp .sub t (.int .u64 n) (U64 x) = (pure (U64 (BitVec.ofInt 64 n - x)) : Sem Value) := by
  show (pure (Value.int .u64 (IntKind.u64.wrap (n - x.toNat))) : Sem Value) = _
  rw [wrapU64, Int.sub_eq_add_neg, BitVec.ofInt_add, BitVec.ofInt_neg, ofInt_nat, BitVec.sub_eq_add_neg]; rfl
@[go_sem 5000] theorem sub64l (x : BitVec 64) (n : Int) : binOp .sub t (U64 x) (.int .u64 n) = (pure (U64 (x - BitVec.ofInt 64 n)) : Sem Value) := by
  show (pure (Value.int .u64 (IntKind.u64.wrap (x.toNat - n))) : Sem Value) = _
  rw [wrapU64, Int.sub_eq_add_neg, BitVec.ofInt_add, BitVec.ofInt_neg, ofInt_nat, BitVec.sub_eq_add_neg]; rfl
@[go_sem 5000] theorem and32l (x : BitVec 32) (n : Int) : binOp .and t (U32 x) (.int .u32 n) = (pure (U32 (x &&& BitVec.ofInt 32 n)) : Sem Value) := by
  show (pure (Value.int .u32 (IntKind.u32.wrap (BitVec.ofInt 32 x.toNat &&& BitVec.ofInt 32 n).toNat)) : Sem Value) = _
  rw [ofInt_nat]; exact bit32 _
@[go_sem 5000] theorem and64l (x : BitVec 64) (n : Int) : binOp .and t (U64 x) (.int .u64 n) = (pure (U64 (x &&& BitVec.ofInt 64 n)) : Sem Value) := by
  show (pure (Value.int .u64 (IntKind.u64.wrap (BitVec.ofInt 64 x.toNat &&& BitVec.ofInt 64 n).toNat)) : Sem Value) = _
  rw [ofInt_nat]; exact bit64 _
@[go_sem 5000] theorem and8l (x : BitVec 8) (n : Int) : binOp .and t (U8 x) (.int .u8 n) = (pure (U8 (x &&& BitVec.ofInt 8 n)) : Sem Value) := by
  show (pure (Value.int .u8 (IntKind.u8.wrap (BitVec.ofInt 8 x.toNat &&& BitVec.ofInt 8 n).toNat)) : Sem Value) = _
  rw [ofInt_nat]; exact bit8 _
@[go_sem 5000] theorem or8l (x : BitVec 8) (n : Int) : binOp .or t (U8 x) (.int .u8 n) = (pure (U8 (x ||| BitVec.ofInt 8 n)) : Sem Value) := by
  show (pure (Value.int .u8 (IntKind.u8.wrap (BitVec.ofInt 8 x.toNat ||| BitVec.ofInt 8 n).toNat)) : Sem Value) = _
  rw [ofInt_nat]; exact bit8 _
@[go_sem 5000] theorem xor8l (x : BitVec 8) (n : Int) : binOp .xor t (U8 x) (.int .u8 n) = (pure (U8 (x ^^^ BitVec.ofInt 8 n)) : Sem Value) := by
  show (pure (Value.int .u8 (IntKind.u8.wrap (BitVec.ofInt 8 x.toNat ^^^ BitVec.ofInt 8 n).toNat)) : Sem Value) = _
  rw [ofInt_nat]; exact bit8 _
/- ^x -/
@[go_sem 5000] theorem not32 (x : BitVec 32) : Op.unary .xor (U32 x) = (pure (U32 (~~~x)) : Sem Value) := by
  show (pure (Value.int .u32 (IntKind.u32.wrap (BitVec.ofInt 32 4294967295 ^^^ BitVec.ofInt 32 x.toNat).toNat)) : Sem Value) = _
  rw [ofInt_nat, show BitVec.ofInt 32 4294967295 ^^^ x = ~~~x from by rw [show BitVec.ofInt 32 4294967295 = BitVec.allOnes 32 from by decide, BitVec.allOnes_xor]]; exact bit32 _
@[go_sem 5000] theorem not64 (x : BitVec 64) : Op.unary .xor (U64 x) = (pure (U64 (~~~x)) : Sem Value) := by
  show (pure (Value.int .u64 (IntKind.u64.wrap (BitVec.ofInt 64 18446744073709551615 ^^^ BitVec.ofInt 64 x.toNat).toNat)) : Sem Value) = _
  rw [ofInt_nat, show BitVec.ofInt 64 18446744073709551615 ^^^ x = ~~~x from by rw [show BitVec.ofInt 64 18446744073709551615 = BitVec.allOnes 64 from by decide, BitVec.allOnes_xor]]; exact bit64 _
/- shifts by a number of places that is not below nought -/
theorem shl_any {n : Nat} (x : BitVec n) (y : Nat) : BitVec.ofInt n (x.toNat * 2 ^ (min y n)) = x <<< y := by
  apply BitVec.eq_of_toNat_eq
  rw [BitVec.toNat_ofInt, BitVec.toNat_shiftLeft, Nat.shiftLeft_eq]
  have : ((x.toNat : Int) * 2 ^ (min y n)) = ((x.toNat * 2 ^ (min y n) : Nat) : Int) := by simp
  rw [this]
  rcases Nat.le_total y n with h | h
  · rw [Nat.min_eq_left h]; omega
  · rw [Nat.min_eq_right h]
    obtain ⟨d, rfl⟩ := Nat.le.dest h
    have e : ((x.toNat * 2 ^ n : Nat) : Int) % ((2 ^ n : Nat) : Int) = 0 := by
      rw [← Int.natCast_emod, Nat.mul_mod_left]; rfl
    rw [e, Nat.pow_add, ← Nat.mul_assoc, Nat.mul_right_comm, Nat.mul_mod_left]; rfl
theorem shr_any {n : Nat} (x : BitVec n) (y : Nat) : Int.fdiv x.toNat (2 ^ (min y n)) = ((x >>> y).toNat : Int) := by
  rw [BitVec.toNat_ushiftRight, Nat.shiftRight_eq_div_pow]
  have h2 : (2 ^ (min y n) : Int) = ((2 ^ (min y n) : Nat) : Int) := by simp
  rw [h2, Int.fdiv_eq_ediv_of_nonneg _ (Int.natCast_nonneg _), ← Int.natCast_ediv]
  rcases Nat.le_total y n with h | h
  · rw [Nat.min_eq_left h]
  · rw [Nat.min_eq_right h, Nat.div_eq_of_lt x.isLt, Nat.div_eq_of_lt (Nat.lt_of_lt_of_le x.isLt (Nat.pow_le_pow_right (by omega) h))]
@[go_sem 5000] theorem shl32 (x : BitVec 32) (k : IntKind) (n : Int) (h : 0 ≤ n) : binOp .shl t (U32 x) (.int k n) = (pure (U32 (x <<< n.toNat)) : Sem Value) := by
  show Op.shift .shl .u32 x.toNat k n = _
  rw [Op.shift, if_neg (by omega)]
  show (pure (Value.int .u32 (IntKind.u32.wrap (x.toNat * 2 ^ (min n.toNat 32)))) : Sem Value) = _
  rw [wrapU32, shl_any]; rfl
@[go_sem 5000] theorem shl64 (x : BitVec 64) (k : IntKind) (n : Int) (h : 0 ≤ n) : binOp .shl t (U64 x) (.int k n) = (pure (U64 (x <<< n.toNat)) : Sem Value) := by
  show Op.shift .shl .u64 x.toNat k n = _
  rw [Op.shift, if_neg (by omega)]
  show (pure (Value.int .u64 (IntKind.u64.wrap (x.toNat * 2 ^ (min n.toNat 64)))) : Sem Value) = _
  rw [wrapU64, shl_any]; rfl
@[go_sem 5000] theorem shl8 (x : BitVec 8) (k : IntKind) (n : Int) (h : 0 ≤ n) : binOp .shl t (U8 x) (.int k n) = (pure (U8 (x <<< n.toNat)) : Sem Value) := by
  show Op.shift .shl .u8 x.toNat k n = _
  rw [Op.shift, if_neg (by omega)]
  show (pure (Value.int .u8 (IntKind.u8.wrap (x.toNat * 2 ^ (min n.toNat 8)))) : Sem Value) = _
  rw [wrapU8, shl_any]; rfl
@[go_sem 5000] theorem shr32 (x : BitVec 32) (k : IntKind) (n : Int) (h : 0 ≤ n) : binOp .shr t (U32 x) (.int k n) = (pure (U32 (x >>> n.toNat)) : Sem Value) := by
  show Op.shift .shr .u32 x.toNat k n = _
  rw [Op.shift, if_neg (by omega)]
  show (pure (Value.int .u32 (Int.fdiv x.toNat (2 ^ (min n.toNat 32)))) : Sem Value) = _
  rw [shr_any]; rfl
@[go_sem 5000] theorem shr64 (x : BitVec 64) (k : IntKind) (n : Int) (h : 0 ≤ n) : binOp .shr t (U64 x) (.int k n) = (pure (U64 (x >>> n.toNat)) : Sem Value) := by
  show Op.shift .shr .u64 x.toNat k n = _
  rw [Op.shift, if_neg (by omega)]
  show (pure (Value.int .u64 (Int.fdiv x.toNat (2 ^ (min n.toNat 64)))) : Sem Value) = _
  rw [shr_any]; rfl
@[go_sem 5000] theorem shr8 (x : BitVec 8) (k : IntKind) (n : Int) (h : 0 ≤ n) : binOp .shr t (U8 x) (.int k n) = (pure (U8 (x >>> n.toNat)) : Sem Value) := by
  show Op.shift .shr .u8 x.toNat k n = _
  rw [Op.shift, if_neg (by omega)]
  show (pure (Value.int .u8 (Int.fdiv x.toNat (2 ^ (min n.toNat 8)))) : Sem Value) = _
  rw [shr_any]; rfl
@[go_sem 6000] theorem shl32w (x : BitVec 32) (y : BitVec 64) : binOp .shl t (U32 x) (U64 y) = (pure (U32 (x <<< y.toNat)) : Sem Value) := shl32 x .u64 (tn y) (tn_nonneg y)
@[go_sem 6000] theorem shr32w (x : BitVec 32) (y : BitVec 64) : binOp .shr t (U32 x) (U64 y) = (pure (U32 (x >>> y.toNat)) : Sem Value) := shr32 x .u64 (tn y) (tn_nonneg y)
@[go_sem 6000] theorem shl64w (x : BitVec 64) (y : BitVec 64) : binOp .shl t (U64 x) (U64 y) = (pure (U64 (x <<< y.toNat)) : Sem Value) := shl64 x .u64 (tn y) (tn_nonneg y)
@[go_sem 6000] theorem shr64w (x : BitVec 64) (y : BitVec 64) : binOp .shr t (U64 x) (U64 y) = (pure (U64 (x >>> y.toNat)) : Sem Value) := shr64 x .u64 (tn y) (tn_nonneg y)
/- comparisons -/
theorem beqNat {n : Nat} (x y : BitVec n) : ((x.toNat : Int) == (y.toNat : Int)) = (x == y) := by
  rw [Bool.eq_iff_iff]; simp only [beq_iff_eq]
  exact ⟨fun h => BitVec.eq_of_toNat_eq (by omega), fun h => by rw [h]⟩
theorem bneNat {n : Nat} (x y : BitVec n) : ((x.toNat : Int) != (y.toNat : Int)) = (x != y) := by
  unfold bne; rw [beqNat]
@[go_sem 6000] theorem eql8 (x y : BitVec 8) : binOp .eql t (U8 x) (U8 y) = (pure (.bool (x == y)) : Sem Value) := by
  show (pure (Value.bool ((x.toNat : Int) == (y.toNat : Int))) : Sem Value) = _
  rw [beqNat]
@[go_sem 6000] theorem neq8 (x y : BitVec 8) : binOp .neq t (U8 x) (U8 y) = (pure (.bool (x != y)) : Sem Value) := by
  show (pure (Value.bool ((x.toNat : Int) != (y.toNat : Int))) : Sem Value) = _
  rw [bneNat]
@[go_sem 6000] theorem eql64 (x y : BitVec 64) : binOp .eql t (U64 x) (U64 y) = (pure (.bool (x == y)) : Sem Value) := by
  show (pure (Value.bool ((x.toNat : Int) == (y.toNat : Int))) : Sem Value) = _
  rw [beqNat]
@[go_sem 6000] theorem neq64 (x y : BitVec 64) : binOp .neq t (U64 x) (U64 y) = (pure (.bool (x != y)) : Sem Value) := by
  show (pure (Value.bool ((x.toNat : Int) != (y.toNat : Int))) : Sem Value) = _
  rw [bneNat]
theorem beqLit {n : Nat} (x : BitVec n) (c : Int) (h0 : 0 ≤ c) (h1 : c.toNat < 2 ^ n) : ((x.toNat : Int) == c) = (x == BitVec.ofInt n c) := by
  obtain ⟨k, rfl⟩ := Int.eq_ofNat_of_zero_le h0
  rw [← beqNat]
  congr 1
  rw [BitVec.toNat_ofInt]
  rw [Int.toNat_natCast] at h1
  rw [← Int.natCast_emod, Nat.mod_eq_of_lt h1]; rfl
@[go_sem 5000] theorem eql8l (x : BitVec 8) (c : Int) (h0 : 0 ≤ c) (h1 : c ≤ 255) : binOp .eql t (U8 x) (.int .u8 c) = (pure (.bool (x == BitVec.ofInt 8 c)) : Sem Value) := by
  show (pure (Value.bool ((x.toNat : Int) == c)) : Sem Value) = _
  rw [beqLit x c h0 (by omega)]
@[go_sem 5000] theorem neq8l (x : BitVec 8) (c : Int) (h0 : 0 ≤ c) (h1 : c ≤ 255) : binOp .neq t (U8 x) (.int .u8 c) = (pure (.bool (x != BitVec.ofInt 8 c)) : Sem Value) := by
  show (pure (Value.bool (!((x.toNat : Int) == c))) : Sem Value) = _
  rw [beqLit x c h0 (by omega)]; rfl
@[go_sem 5000] theorem eql64l (x : BitVec 64) (c : Int) (h0 : 0 ≤ c) (h1 : c ≤ 18446744073709551615) : binOp .eql t (U64 x) (.int .u64 c) = (pure (.bool (x == BitVec.ofInt 64 c)) : Sem Value) := by
  show (pure (Value.bool ((x.toNat : Int) == c)) : Sem Value) = _
  rw [beqLit x c h0 (by omega)]
@[go_sem 5000] theorem gtr64l (x : BitVec 64) (c : Int) (h0 : 0 ≤ c) : binOp .gtr t (U64 x) (.int .u64 c) = (pure (.bool (decide (c.toNat < x.toNat))) : Sem Value) := by
  show (pure (Value.bool (decide ((x.toNat : Int) > c))) : Sem Value) = _
  congr 2; rw [decide_eq_decide]; omega
@[go_sem 5000] theorem geq32l (x : BitVec 32) (c : Int) (h0 : 0 ≤ c) : binOp .geq t (U32 x) (.int .u32 c) = (pure (.bool (decide (c.toNat ≤ x.toNat))) : Sem Value) := by
  show (pure (Value.bool (decide ((x.toNat : Int) ≥ c))) : Sem Value) = _
  congr 2; rw [decide_eq_decide]; omega
/- conversions -/
theorem conv_int (hs : (P.underlying t).isSome = true) {k : IntKind} (h : P.underlying u = some (.int k)) (j : IntKind) (n : Int) : (convert t u (.int j n)).run P w = .ok (.int k (k.wrap n)) w := by
  obtain ⟨d, hd⟩ := Option.isSome_iff_exists.1 hs
  unfold convert
  simp only [Sem.run_bind, run_underlying hd, run_underlying h, Result.andThen_ok]
  cases d <;> rfl
@[go_sem 5000] theorem conv8_64 (hs : (P.underlying t).isSome = true) (h : P.underlying u = some (.int .u64)) (x : BitVec 8) : (convert t u (U8 x)).run P w = .ok (U64 (x.setWidth 64)) w := by
  rw [conv_int hs h, wrapU64]; unfold tn; rw [ofInt_wide]; rfl
@[go_sem 5000] theorem conv8_32 (hs : (P.underlying t).isSome = true) (h : P.underlying u = some (.int .u32)) (x : BitVec 8) : (convert t u (U8 x)).run P w = .ok (U32 (x.setWidth 32)) w := by
  rw [conv_int hs h, wrapU32]; unfold tn; rw [ofInt_wide]; rfl
@[go_sem 5000] theorem conv64_32 (hs : (P.underlying t).isSome = true) (h : P.underlying u = some (.int .u32)) (x : BitVec 64) : (convert t u (U64 x)).run P w = .ok (U32 (x.setWidth 32)) w := by
  rw [conv_int hs h, wrapU32]; unfold tn; rw [ofInt_wide]; rfl
@[go_sem 5000] theorem conv64_8 (hs : (P.underlying t).isSome = true) (h : P.underlying u = some (.int .u8)) (x : BitVec 64) : (convert t u (U64 x)).run P w = .ok (U8 (x.setWidth 8)) w := by
  rw [conv_int hs h, wrapU8]; unfold tn; rw [ofInt_wide]; rfl
@[go_sem 5000] theorem conv32_8 (hs : (P.underlying t).isSome = true) (h : P.underlying u = some (.int .u8)) (x : BitVec 32) : (convert t u (U32 x)).run P w = .ok (U8 (x.setWidth 8)) w := by
  rw [conv_int hs h, wrapU8]; unfold tn; rw [ofInt_wide]; rfl
@[go_sem 5000] theorem conv32_64 (hs : (P.underlying t).isSome = true) (h : P.underlying u = some (.int .u64)) (x : BitVec 32) : (convert t u (U32 x)).run P w = .ok (U64 (x.setWidth 64)) w := by
  rw [conv_int hs h, wrapU64]; unfold tn; rw [ofInt_wide]; rfl
@[go_sem 5000] theorem conv8_i (hs : (P.underlying t).isSome = true) (h : P.underlying u = some (.int .i64)) (x : BitVec 8) : (convert t u (U8 x)).run P w = .ok (.int .i64 (tn x)) w := by
  rw [conv_int hs h, IntWalk.i64_in _ (by unfold tn; have := x.isLt; omega)]
/- an int becomes a word -/
theorem int_32 (hs : (P.underlying t).isSome = true) (h : P.underlying u = some (.int .u32)) (n : Int) : (convert t u (.int .i64 n)).run P w = .ok (U32 (BitVec.ofInt 32 n)) w := by
  rw [conv_int hs h, wrapU32]; rfl
theorem int_64 (hs : (P.underlying t).isSome = true) (h : P.underlying u = some (.int .u64)) (n : Int) : (convert t u (.int .i64 n)).run P w = .ok (U64 (BitVec.ofInt 64 n)) w := by
  rw [conv_int hs h, wrapU64]; rfl
theorem int_8 (hs : (P.underlying t).isSome = true) (h : P.underlying u = some (.int .u8)) (n : Int) : (convert t u (.int .i64 n)).run P w = .ok (U8 (BitVec.ofInt 8 n)) w := by
  rw [conv_int hs h, wrapU8]; rfl
attribute [go_sem 5000] int_32 int_64 int_8
end
/- rows of words -/
def cells {n : Nat} (f : BitVec n → Value) (l : List (BitVec n)) : Array Value := (l.map f).toArray
/-- The word at a place; a list with a word put at a place. (Names of our own: the walk's simp leaves them as they are.) -/
def nth {n : Nat} (l : List (BitVec n)) (i : Nat) : BitVec n := l.getD i 0
def put {n : Nat} (l : List (BitVec n)) (i : Nat) (v : BitVec n) : List (BitVec n) := l.set i v
@[simp, go_sem] theorem put_length {n : Nat} (l : List (BitVec n)) (i : Nat) (v : BitVec n) : (put l i v).length = l.length := by simp [put]
theorem nth_put {n : Nat} (l : List (BitVec n)) (i j : Nat) (v : BitVec n) (h : i < l.length) : nth (put l i v) j = if i = j then v else nth l j := by
  simp only [nth, put, List.getD_eq_getElem?_getD, List.getElem?_set]
  split <;> simp_all
theorem nth_eq {n : Nat} (l : List (BitVec n)) (i : Nat) (h : i < l.length) : nth l i = l[i] := by simp [nth, h]
@[go_sem] theorem cells_get {n : Nat} (f : BitVec n → Value) (l : List (BitVec n)) (i : Nat) (h : i < l.length) : (cells f l)[i]? = some (f (nth l i)) := by
  simp [cells, nth, h]
@[go_sem] theorem cells_set {n : Nat} (f : BitVec n → Value) (l : List (BitVec n)) (i : Nat) (v : BitVec n) : (cells f l).setIfInBounds i (f v) = cells f (put l i v) := by
  simp [cells, put, List.map_set]
theorem cells_size {n : Nat} (f : BitVec n → Value) (l : List (BitVec n)) : (cells f l).size = l.length := by simp [cells]
theorem cells_inj8 {l m : List (BitVec 8)} (h : cells U8 l = cells U8 m) : l = m := by
  have h := congrArg Array.toList h
  simp only [cells] at h
  refine List.map_inj_right (f := U8) ?_ |>.1 h
  intro x y e
  simp only [Value.int.injEq, true_and] at e
  exact tn_inj e

/-- One row of cells as the walk's rules have it. -/
structure RowOf (w : World) (b : Nat) : Prop where
  cell : ∀ cs i, (w.setRow b cs).cell? ⟨b, i, none⟩ = cs[i]?
  frozen : ∀ cs i, (w.setRow b cs).frozen? ⟨b, i, none⟩ = false
  set : ∀ cs i v, (w.setRow b cs).setCell ⟨b, i, none⟩ v = w.setRow b (cs.setIfInBounds i v)
theorem rowOf {w : World} {b : Nat} {c : Array Value} {t : TypeId} (h : w.heap[b]? = some (.cells c t (0, 0))) : RowOf w b := by
  refine ⟨fun cs i => ?_, fun cs i => ?_, fun cs i v => ?_⟩
  · have := setRow_heap w b c cs t (0, 0) h
    simp [World.cell?, this]
  · have := setRow_heap w b c cs t (0, 0) h
    simp [World.frozen?, this]
  · obtain ⟨hb, he⟩ := Array.getElem?_eq_some_iff.1 h
    unfold World.setRow World.setCell
    simp only
    congr 1
    apply Array.ext_getElem?
    intro j
    simp only [Array.getElem?_modify]
    by_cases hj : b = j
    · subst hj; simp [h]
    · simp [hj]
theorem setRow_self {w : World} {b : Nat} {c : Array Value} {t : TypeId} (h : w.heap[b]? = some (.cells c t (0, 0))) : w.setRow b c = w := by
  unfold World.setRow
  obtain ⟨heap, tape, drawn, os, output⟩ := w
  simp only at h ⊢
  congr 1
  apply Array.ext_getElem?
  intro j
  simp only [Array.getElem?_modify]
  by_cases hj : b = j
  · subst hj; simp [h]
  · simp [hj]

/-- The world 'w'' is 'w' with the row 'b' rewritten (and some draws). -/
structure Upd (b : Nat) (cs : Array Value) (t : TypeId) (w w' : World) : Prop where
  os : w'.os = w.os
  tape : w'.tape = w.tape
  output : w'.output = w.output
  size : w'.heap.size = w.heap.size
  block : ∀ k, k ≠ b → w'.heap[k]? = w.heap[k]?
  row : w'.heap[b]? = some (.cells cs t (0, 0))
theorem upd_setRow {w : World} {b : Nat} {c : Array Value} {t : TypeId} (h : w.heap[b]? = some (.cells c t (0, 0))) (cs : Array Value) (n : Nat) : Upd b cs t w ((w.setRow b cs).drewN n) :=
  ⟨rfl, rfl, rfl, size_setRow w b cs, fun k hk => by
    show (w.setRow b cs).heap[k]? = _
    simp only [World.setRow, Array.getElem?_modify]
    rw [if_neg (fun e => hk e.symm)], setRow_heap w b c cs t (0, 0) h⟩
theorem Upd.trans {b : Nat} {c d : Array Value} {t : TypeId} {w w1 w2 : World} (h : Upd b c t w w1) (k : Upd b d t w1 w2) : Upd b d t w w2 :=
  ⟨k.os.trans h.os, k.tape.trans h.tape, k.output.trans h.output, k.size.trans h.size, fun i hi => (k.block i hi).trans (h.block i hi), k.row⟩
theorem Upd.below {b B : Nat} {c : Array Value} {t : TypeId} {w w1 : World} (h : Upd b c t w w1) (hb : B ≤ b) : Below B w w1 :=
  ⟨h.os, h.tape, h.output, Nat.le_of_eq h.size.symm, fun k hk => h.block k (by omega)⟩

/-- A region that draws: reads, then a tail in one order. -/
theorem region_tail {P : Program} {id : Nat} {Q : Exit → Act → World → Prop} {a : Act} {w : World} {l : List Oper} (n : Nat) (hm : P.follows .mixedOrders = true) (hB : Region.lexTailB .any l.toArray n = true)
    (h : wpStill P l.toArray w.drew (fun a' => wpList P l.toArray Q (l.drop n) a' w.drew) (l.take n) a) : (Code.region id l.toArray true).wp P Q a w := wp_region_still_tail n hm hB h
theorem hid {p : Prop} (h : p) : Hid p := h
end Go.Proofs.Ytlnekohkbhidnaa
