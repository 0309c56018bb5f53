/- The texts TLay, Words, Mem, TKey, Base, Av, AvOps, AvEq, AvVal, AvMem, AvApp, AvBuild, AvOp, merged into one. -/
import Derived.Shelf.Strconv.AppendIntPublic10
import Derived.Test.YtmbepikkgkcgkaaGreatDoorProg
import Derived.Test.YtmbepikkgkcgkaaGreatDoorRows
import Derived.WalkKit
import Derived.WalkSpells
import Derived.WalkLawsBesides
import Derived.Deep.QuietTactic
import Derived.BigQuiet
import Derived.StillTailTactics
import Derived.Deep.WholeRow
import Derived.Deep.MidRow
import Derived.Laws.CopyOwn
import Derived.Handy
import Derived.Deep.DeepCutAuto
import Derived.Deep.CutBlock
import Derived.Lib.AppendIntMem
import Derived.Lib.ItoaLen
import Derived.Lib.Slices
import Derived.Lib.Hide
import Derived.Laws.IdiomStrings
import Derived.Laws.AppendOwnNone
import Derived.OwnWalk
import Derived.BigCall
import Derived.Scope
import Derived.Lib.LaidTab
import Derived.Lib.ItoaNum
import Derived.Laws.Externs
import Derived.ChangeKeysEq
import Derived.Laws.StructEq
import Derived.Laws.AppendOwn
import Derived.Great.BuildSlice
namespace Go.Proofs.YtmbepikkgkcgkaaGreatDoor
open Go.Shelf
def Tryz.laysAI_ren : Go.Shelf.Ren := ⟨fun | 176 => 67 | 249 => 102 | 288 => 143 | 283 => 179 | 284 => 180 | 285 => 181 | 286 => 182 | 129 => 192 | 317 => 191 | 318 => 193 | 319 => 194 | 320 => 195 | 337 => 198 | 338 => 199 | n => n, fun | 37 => 23 | 2 => 2 | 3 => 3 | 53 => 70 | 4 => 4 | 9 => 9 | 171 => 207 | 0 => 0 | 173 => 210 | 212 => 222 | 51 => 106 | 5 => 5 | 20 => 20 | 213 => 223 | 46 => 71 | 232 => 37 | 233 => 105 | n => n, fun | 17 => 0 | 18 => 1 | 19 => 2 | n => n⟩
theorem Tryz.laysAI : Go.Proofs.LaysM.n176 Tryz.prog Tryz.laysAI_ren := {
  mixed := by kernel_rfl
  f129 := Tryz.func192.trans (congrArg some (by kernel_rfl))
  f176 := Tryz.func67.trans (congrArg some (by kernel_rfl))
  f249 := Tryz.func102.trans (congrArg some (by kernel_rfl))
  f283 := Tryz.func179.trans (congrArg some (by kernel_rfl))
  f284 := Tryz.func180.trans (congrArg some (by kernel_rfl))
  f285 := Tryz.func181.trans (congrArg some (by kernel_rfl))
  f286 := Tryz.func182.trans (congrArg some (by kernel_rfl))
  f288 := Tryz.func143.trans (congrArg some (by kernel_rfl))
  f317 := Tryz.func191.trans (congrArg some (by kernel_rfl))
  f318 := Tryz.func193.trans (congrArg some (by kernel_rfl))
  f319 := Tryz.func194.trans (congrArg some (by kernel_rfl))
  f320 := Tryz.func195.trans (congrArg some (by kernel_rfl))
  f337 := Tryz.func198.trans (congrArg some (by kernel_rfl))
  f338 := Tryz.func199.trans (congrArg some (by kernel_rfl))
  t0 := Tryz.underlying0
  a0 := Tryz.isAgg0
  z0 := Tryz.sizeOf0
  v0 := Tryz.zeroValue0
  t2 := Tryz.underlying2
  a2 := Tryz.isAgg2
  z2 := Tryz.sizeOf2
  v2 := Tryz.zeroValue2
  t3 := Tryz.underlying3
  a3 := Tryz.isAgg3
  z3 := Tryz.sizeOf3
  v3 := Tryz.zeroValue3
  t4 := Tryz.underlying4
  a4 := Tryz.isAgg4
  z4 := Tryz.sizeOf4
  v4 := Tryz.zeroValue4
  t5 := Tryz.underlying5
  a5 := Tryz.isAgg5
  z5 := Tryz.sizeOf5
  v5 := Tryz.zeroValue5
  t9 := Tryz.underlying9
  a9 := Tryz.isAgg9
  z9 := Tryz.sizeOf9
  v9 := Tryz.zeroValue9
  t20 := Tryz.underlying20
  a20 := Tryz.isAgg20
  z20 := Tryz.sizeOf20
  v20 := Tryz.zeroValue20
  t37 := Tryz.underlying23
  a37 := Tryz.isAgg23
  z37 := Tryz.sizeOf23
  v37 := Tryz.zeroValue23
  t46 := Tryz.underlying71
  a46 := Tryz.isAgg71
  z46 := Tryz.sizeOf71
  v46 := Tryz.zeroValue71
  t51 := Tryz.underlying106
  a51 := Tryz.isAgg106
  z51 := Tryz.sizeOf106
  v51 := Tryz.zeroValue106
  t53 := Tryz.underlying70
  a53 := Tryz.isAgg70
  z53 := Tryz.sizeOf70
  v53 := Tryz.zeroValue70
  t171 := Tryz.underlying207
  a171 := Tryz.isAgg207
  z171 := Tryz.sizeOf207
  v171 := Tryz.zeroValue207
  t173 := Tryz.underlying210
  a173 := Tryz.isAgg210
  z173 := Tryz.sizeOf210
  v173 := Tryz.zeroValue210
  t212 := Tryz.underlying222
  a212 := Tryz.isAgg222
  z212 := Tryz.sizeOf222
  v212 := Tryz.zeroValue222
  t213 := Tryz.underlying223
  a213 := Tryz.isAgg223
  z213 := Tryz.sizeOf223
  t232 := Tryz.underlying37
  a232 := Tryz.isAgg37
  z232 := Tryz.sizeOf37
  v232 := Tryz.zeroValue37
  t233 := Tryz.underlying105
  a233 := Tryz.isAgg105
  z233 := Tryz.sizeOf105
  v233 := Tryz.zeroValue105
  g17 := by kernel_rfl
  g18 := by kernel_rfl
  g19 := by kernel_rfl
  i0 := by kernel_rfl
  i2 := by kernel_rfl
  i3 := by kernel_rfl
  i4 := by kernel_rfl
  i5 := by kernel_rfl
  i9 := by kernel_rfl
  i20 := by kernel_rfl
  i37 := by kernel_rfl
  i46 := by kernel_rfl
  i51 := by kernel_rfl
  i53 := by kernel_rfl
  i171 := by kernel_rfl
  i173 := by kernel_rfl
  i212 := by kernel_rfl
  i232 := by kernel_rfl
  i233 := by kernel_rfl
  m17 := by kernel_rfl
  m18 := by kernel_rfl
  m19 := by kernel_rfl }
theorem appendInt (B n : Nat) (i : Int) (h0 : -9223372036854775808 ≤ i) (h1 : i ≤ 9223372036854775807) (sv : Value) (xs : List Value) (w : World) (hown : w.ownsRow B 5 1 sv n xs) (hBw : B ≤ w.heap.size) (hlim : n + 21 ≤ 140737488355328)
    (htab : Lib.TabBelow Tryz.prog B w "internal/strconv.uint64pow10" .u64 Lib.pow10Tab) :
    Calls Tryz.prog 67 #[sv, .int .i64 i, .int .i64 10] w fun e w' => ∃ v', e = .returned v' ∧ w'.ownsRow B 5 1 v' (n + (Lib.itoa i).length) (xs ++ Lib.byteCells (Lib.itoa i)) ∧ RowKit.Below B w w' ∧ Lib.OthersKept 5 none w w' := Any.strconv_AppendInt_10 Tryz.laysAI B n i h0 h1 sv xs w hown hBw hlim htab
end Go.Proofs.YtmbepikkgkcgkaaGreatDoor
namespace Go.Proofs.YtmbepikkgkcgkaaGreatDoor
open Go.RowKit
def tn {n : Nat} (x : BitVec n) : Int := x.toNat
abbrev U32 (x : BitVec 32) : Value := .int .u32 (tn x)
abbrev U64 (x : BitVec 64) : Value := .int .u64 (tn x)
abbrev U8 (x : BitVec 8) : Value := .int .u8 (tn x)
@[simp] theorem tn_nonneg {n : Nat} (x : BitVec n) : 0 ≤ tn x := Int.natCast_nonneg _
@[simp] theorem tn_toNat {n : Nat} (x : BitVec n) : (tn x).toNat = x.toNat := rfl
theorem wrapU32 (n : Int) : IntKind.u32.wrap n = ((BitVec.ofInt 32 n).toNat : Int) := by
  simp [IntKind.wrap, IntKind.bits, IntKind.signed]; omega
theorem wrapU64 (n : Int) : IntKind.u64.wrap n = ((BitVec.ofInt 64 n).toNat : Int) := by
  simp [IntKind.wrap, IntKind.bits, IntKind.signed]; omega
theorem wrapU8 (n : Int) : IntKind.u8.wrap n = ((BitVec.ofInt 8 n).toNat : Int) := by
  simp [IntKind.wrap, IntKind.bits, IntKind.signed]; omega
theorem ofInt_add {n : Nat} (x y : BitVec n) : BitVec.ofInt n (x.toNat + y.toNat) = x + y := by
  apply BitVec.eq_of_toNat_eq
  rw [BitVec.toNat_ofInt, BitVec.toNat_add, ← Int.natCast_add]; omega
theorem ofInt_sub {n : Nat} (x y : BitVec n) : BitVec.ofInt n (x.toNat - y.toNat) = x - y := by
  have hx := x.isLt
  have hy := y.isLt
  apply BitVec.eq_of_toNat_eq
  rw [BitVec.toNat_ofInt, BitVec.toNat_sub]
  generalize hp : 2 ^ n = p at *
  have h : ((x.toNat : Int) - y.toNat) % (p : Int) = ((p - y.toNat + x.toNat : Nat) : Int) % (p : Int) := by
    rw [show ((p - y.toNat + x.toNat : Nat) : Int) = ((x.toNat : Int) - y.toNat) + p from by omega, Int.add_emod_right]
  rw [h]; omega
theorem ofInt_mul {n : Nat} (x y : BitVec n) : BitVec.ofInt n (x.toNat * y.toNat) = x * y := by
  apply BitVec.eq_of_toNat_eq
  rw [BitVec.toNat_ofInt, BitVec.toNat_mul]
  rw [← Int.natCast_mul]; omega
theorem ofInt_nat {n : Nat} (x : BitVec n) : BitVec.ofInt n x.toNat = x := by
  apply BitVec.eq_of_toNat_eq; rw [BitVec.toNat_ofInt]; have := x.isLt
  rw [show ((x.toNat : Int) % ((2 ^ n : Nat) : Int)) = ((x.toNat % 2 ^ n : Nat) : Int) from by omega, Nat.mod_eq_of_lt this]; rfl
theorem ofInt_wide {n m : Nat} (x : BitVec n) : BitVec.ofInt m x.toNat = x.setWidth m := by
  apply BitVec.eq_of_toNat_eq
  rw [BitVec.toNat_ofInt, BitVec.toNat_setWidth, ← Int.natCast_emod]; rfl
section
variable {P : Program} {w : World} {t u : TypeId}
@[go_sem 6000] theorem add32 (x y : BitVec 32) : binOp .add t (U32 x) (U32 y) = (pure (U32 (x + y)) : Sem Value) := by
  show (pure (Value.int .u32 (IntKind.u32.wrap (x.toNat + y.toNat))) : Sem Value) = _
  rw [wrapU32, ofInt_add]; rfl
@[go_sem 6000] theorem add64 (x y : BitVec 64) : binOp .add t (U64 x) (U64 y) = (pure (U64 (x + y)) : Sem Value) := by
  show (pure (Value.int .u64 (IntKind.u64.wrap (x.toNat + y.toNat))) : Sem Value) = _
  rw [wrapU64, ofInt_add]; rfl
@[go_sem 6000] theorem add8 (x y : BitVec 8) : binOp .add t (U8 x) (U8 y) = (pure (U8 (x + y)) : Sem Value) := by
  show (pure (Value.int .u8 (IntKind.u8.wrap (x.toNat + y.toNat))) : Sem Value) = _
  rw [wrapU8, ofInt_add]; rfl
@[go_sem 6000] theorem sub32 (x y : BitVec 32) : binOp .sub t (U32 x) (U32 y) = (pure (U32 (x - y)) : Sem Value) := by
  show (pure (Value.int .u32 (IntKind.u32.wrap (x.toNat - y.toNat))) : Sem Value) = _
  rw [wrapU32, ofInt_sub]; rfl
@[go_sem 6000] theorem sub64 (x y : BitVec 64) : binOp .sub t (U64 x) (U64 y) = (pure (U64 (x - y)) : Sem Value) := by
  show (pure (Value.int .u64 (IntKind.u64.wrap (x.toNat - y.toNat))) : Sem Value) = _
  rw [wrapU64, ofInt_sub]; rfl
@[go_sem 6000] theorem sub8 (x y : BitVec 8) : binOp .sub t (U8 x) (U8 y) = (pure (U8 (x - y)) : Sem Value) := by
  show (pure (Value.int .u8 (IntKind.u8.wrap (x.toNat - y.toNat))) : Sem Value) = _
  rw [wrapU8, ofInt_sub]; rfl
@[go_sem 6000] theorem mul32 (x y : BitVec 32) : binOp .mul t (U32 x) (U32 y) = (pure (U32 (x * y)) : Sem Value) := by
  show (pure (Value.int .u32 (IntKind.u32.wrap (x.toNat * y.toNat))) : Sem Value) = _
  rw [wrapU32, ofInt_mul]; rfl
@[go_sem 6000] theorem mul64 (x y : BitVec 64) : binOp .mul t (U64 x) (U64 y) = (pure (U64 (x * y)) : Sem Value) := by
  show (pure (Value.int .u64 (IntKind.u64.wrap (x.toNat * y.toNat))) : Sem Value) = _
  rw [wrapU64, ofInt_mul]; rfl
theorem bit32 (r : BitVec 32) : (pure (Value.int .u32 (IntKind.u32.wrap r.toNat)) : Sem Value) = pure (U32 r) := by rw [wrapU32, ofInt_nat]; rfl
theorem bit64 (r : BitVec 64) : (pure (Value.int .u64 (IntKind.u64.wrap r.toNat)) : Sem Value) = pure (U64 r) := by rw [wrapU64, ofInt_nat]; rfl
theorem bit8 (r : BitVec 8) : (pure (Value.int .u8 (IntKind.u8.wrap r.toNat)) : Sem Value) = pure (U8 r) := by rw [wrapU8, ofInt_nat]; rfl
@[go_sem 6000] theorem and32 (x y : BitVec 32) : binOp .and t (U32 x) (U32 y) = (pure (U32 (x &&& y)) : Sem Value) := by
  show (pure (Value.int .u32 (IntKind.u32.wrap (BitVec.ofInt 32 x.toNat &&& BitVec.ofInt 32 y.toNat).toNat)) : Sem Value) = _
  rw [ofInt_nat, ofInt_nat]; exact bit32 _
@[go_sem 6000] theorem or32 (x y : BitVec 32) : binOp .or t (U32 x) (U32 y) = (pure (U32 (x ||| y)) : Sem Value) := by
  show (pure (Value.int .u32 (IntKind.u32.wrap (BitVec.ofInt 32 x.toNat ||| BitVec.ofInt 32 y.toNat).toNat)) : Sem Value) = _
  rw [ofInt_nat, ofInt_nat]; exact bit32 _
@[go_sem 6000] theorem xor32 (x y : BitVec 32) : binOp .xor t (U32 x) (U32 y) = (pure (U32 (x ^^^ y)) : Sem Value) := by
  show (pure (Value.int .u32 (IntKind.u32.wrap (BitVec.ofInt 32 x.toNat ^^^ BitVec.ofInt 32 y.toNat).toNat)) : Sem Value) = _
  rw [ofInt_nat, ofInt_nat]; exact bit32 _
@[go_sem 6000] theorem and64 (x y : BitVec 64) : binOp .and t (U64 x) (U64 y) = (pure (U64 (x &&& y)) : Sem Value) := by
  show (pure (Value.int .u64 (IntKind.u64.wrap (BitVec.ofInt 64 x.toNat &&& BitVec.ofInt 64 y.toNat).toNat)) : Sem Value) = _
  rw [ofInt_nat, ofInt_nat]; exact bit64 _
@[go_sem 6000] theorem or64 (x y : BitVec 64) : binOp .or t (U64 x) (U64 y) = (pure (U64 (x ||| y)) : Sem Value) := by
  show (pure (Value.int .u64 (IntKind.u64.wrap (BitVec.ofInt 64 x.toNat ||| BitVec.ofInt 64 y.toNat).toNat)) : Sem Value) = _
  rw [ofInt_nat, ofInt_nat]; exact bit64 _
@[go_sem 6000] theorem xor64 (x y : BitVec 64) : binOp .xor t (U64 x) (U64 y) = (pure (U64 (x ^^^ y)) : Sem Value) := by
  show (pure (Value.int .u64 (IntKind.u64.wrap (BitVec.ofInt 64 x.toNat ^^^ BitVec.ofInt 64 y.toNat).toNat)) : Sem Value) = _
  rw [ofInt_nat, ofInt_nat]; exact bit64 _
@[go_sem 6000] theorem and8 (x y : BitVec 8) : binOp .and t (U8 x) (U8 y) = (pure (U8 (x &&& y)) : Sem Value) := by
  show (pure (Value.int .u8 (IntKind.u8.wrap (BitVec.ofInt 8 x.toNat &&& BitVec.ofInt 8 y.toNat).toNat)) : Sem Value) = _
  rw [ofInt_nat, ofInt_nat]; exact bit8 _
@[go_sem 6000] theorem or8 (x y : BitVec 8) : binOp .or t (U8 x) (U8 y) = (pure (U8 (x ||| y)) : Sem Value) := by
  show (pure (Value.int .u8 (IntKind.u8.wrap (BitVec.ofInt 8 x.toNat ||| BitVec.ofInt 8 y.toNat).toNat)) : Sem Value) = _
  rw [ofInt_nat, ofInt_nat]; exact bit8 _
@[go_sem 6000] theorem xor8 (x y : BitVec 8) : binOp .xor t (U8 x) (U8 y) = (pure (U8 (x ^^^ y)) : Sem Value) := by
  show (pure (Value.int .u8 (IntKind.u8.wrap (BitVec.ofInt 8 x.toNat ^^^ BitVec.ofInt 8 y.toNat).toNat)) : Sem Value) = _
  rw [ofInt_nat, ofInt_nat]; exact bit8 _
@[go_sem 5000] theorem add32l (x : BitVec 32) (n : Int) : binOp .add t (U32 x) (.int .u32 n) = (pure (U32 (x + BitVec.ofInt 32 n)) : Sem Value) := by
  show (pure (Value.int .u32 (IntKind.u32.wrap (x.toNat + n))) : Sem Value) = _
  rw [wrapU32, BitVec.ofInt_add, ofInt_nat]; rfl
@[go_sem 5000] theorem add64l (x : BitVec 64) (n : Int) : binOp .add t (U64 x) (.int .u64 n) = (pure (U64 (x + BitVec.ofInt 64 n)) : Sem Value) := by
  show (pure (Value.int .u64 (IntKind.u64.wrap (x.toNat + n))) : Sem Value) = _
  rw [wrapU64, BitVec.ofInt_add, ofInt_nat]; rfl
@[go_sem 5000] theorem mul64l (x : BitVec 64) (n : Int) : binOp .mul t (U64 x) (.int .u64 n) = (pure (U64 (x * BitVec.ofInt 64 n)) : Sem Value) := by
  show (pure (Value.int .u64 (IntKind.u64.wrap (x.toNat * n))) : Sem Value) = _
  rw [wrapU64, BitVec.ofInt_mul, ofInt_nat]; rfl
@[go_sem 5000] theorem mul64r (x : BitVec 64) (n : Int) : binOp .mul t (.int .u64 n) (U64 x) = (pure (U64 (BitVec.ofInt 64 n * x)) : Sem Value) := by
  show (pure (Value.int .u64 (IntKind.u64.wrap (n * x.toNat))) : Sem Value) = _
  rw [wrapU64, BitVec.ofInt_mul, ofInt_nat]; rfl
@[go_sem 5000] theorem mul32r (x : BitVec 32) (n : Int) : binOp .mul t (.int .u32 n) (U32 x) = (pure (U32 (BitVec.ofInt 32 n * x)) : Sem Value) := by
  show (pure (Value.int .u32 (IntKind.u32.wrap (n * x.toNat))) : Sem Value) = _
  rw [wrapU32, BitVec.ofInt_mul, ofInt_nat]; rfl
@[go_sem 5000] theorem sub64r (x : BitVec 64) (n : Int) : binOp .sub t (.int .u64 n) (U64 x) = (pure (U64 (BitVec.ofInt 64 n - x)) : Sem Value) := by
  show (pure (Value.int .u64 (IntKind.u64.wrap (n - x.toNat))) : Sem Value) = _
  rw [wrapU64, Int.sub_eq_add_neg, BitVec.ofInt_add, BitVec.ofInt_neg, ofInt_nat, BitVec.sub_eq_add_neg]; rfl
@[go_sem 5000] theorem sub64l (x : BitVec 64) (n : Int) : binOp .sub t (U64 x) (.int .u64 n) = (pure (U64 (x - BitVec.ofInt 64 n)) : Sem Value) := by
  show (pure (Value.int .u64 (IntKind.u64.wrap (x.toNat - n))) : Sem Value) = _
  rw [wrapU64, Int.sub_eq_add_neg, BitVec.ofInt_add, BitVec.ofInt_neg, ofInt_nat, BitVec.sub_eq_add_neg]; rfl
@[go_sem 5000] theorem and32l (x : BitVec 32) (n : Int) : binOp .and t (U32 x) (.int .u32 n) = (pure (U32 (x &&& BitVec.ofInt 32 n)) : Sem Value) := by
  show (pure (Value.int .u32 (IntKind.u32.wrap (BitVec.ofInt 32 x.toNat &&& BitVec.ofInt 32 n).toNat)) : Sem Value) = _
  rw [ofInt_nat]; exact bit32 _
@[go_sem 5000] theorem and64l (x : BitVec 64) (n : Int) : binOp .and t (U64 x) (.int .u64 n) = (pure (U64 (x &&& BitVec.ofInt 64 n)) : Sem Value) := by
  show (pure (Value.int .u64 (IntKind.u64.wrap (BitVec.ofInt 64 x.toNat &&& BitVec.ofInt 64 n).toNat)) : Sem Value) = _
  rw [ofInt_nat]; exact bit64 _
@[go_sem 5000] theorem and8l (x : BitVec 8) (n : Int) : binOp .and t (U8 x) (.int .u8 n) = (pure (U8 (x &&& BitVec.ofInt 8 n)) : Sem Value) := by
  show (pure (Value.int .u8 (IntKind.u8.wrap (BitVec.ofInt 8 x.toNat &&& BitVec.ofInt 8 n).toNat)) : Sem Value) = _
  rw [ofInt_nat]; exact bit8 _
@[go_sem 5000] theorem or8l (x : BitVec 8) (n : Int) : binOp .or t (U8 x) (.int .u8 n) = (pure (U8 (x ||| BitVec.ofInt 8 n)) : Sem Value) := by
  show (pure (Value.int .u8 (IntKind.u8.wrap (BitVec.ofInt 8 x.toNat ||| BitVec.ofInt 8 n).toNat)) : Sem Value) = _
  rw [ofInt_nat]; exact bit8 _
@[go_sem 5000] theorem xor8l (x : BitVec 8) (n : Int) : binOp .xor t (U8 x) (.int .u8 n) = (pure (U8 (x ^^^ BitVec.ofInt 8 n)) : Sem Value) := by
  show (pure (Value.int .u8 (IntKind.u8.wrap (BitVec.ofInt 8 x.toNat ^^^ BitVec.ofInt 8 n).toNat)) : Sem Value) = _
  rw [ofInt_nat]; exact bit8 _
@[go_sem 5000] theorem not32 (x : BitVec 32) : Op.unary .xor (U32 x) = (pure (U32 (~~~x)) : Sem Value) := by
  show (pure (Value.int .u32 (IntKind.u32.wrap (BitVec.ofInt 32 4294967295 ^^^ BitVec.ofInt 32 x.toNat).toNat)) : Sem Value) = _
  rw [ofInt_nat, show BitVec.ofInt 32 4294967295 ^^^ x = ~~~x from by rw [show BitVec.ofInt 32 4294967295 = BitVec.allOnes 32 from by decide, BitVec.allOnes_xor]]; exact bit32 _
@[go_sem 5000] theorem not64 (x : BitVec 64) : Op.unary .xor (U64 x) = (pure (U64 (~~~x)) : Sem Value) := by
  show (pure (Value.int .u64 (IntKind.u64.wrap (BitVec.ofInt 64 18446744073709551615 ^^^ BitVec.ofInt 64 x.toNat).toNat)) : Sem Value) = _
  rw [ofInt_nat, show BitVec.ofInt 64 18446744073709551615 ^^^ x = ~~~x from by rw [show BitVec.ofInt 64 18446744073709551615 = BitVec.allOnes 64 from by decide, BitVec.allOnes_xor]]; exact bit64 _
theorem shl_any {n : Nat} (x : BitVec n) (y : Nat) : BitVec.ofInt n (x.toNat * 2 ^ (min y n)) = x <<< y := by
  apply BitVec.eq_of_toNat_eq
  rw [BitVec.toNat_ofInt, BitVec.toNat_shiftLeft, Nat.shiftLeft_eq]
  have : ((x.toNat : Int) * 2 ^ (min y n)) = ((x.toNat * 2 ^ (min y n) : Nat) : Int) := by simp
  rw [this]
  rcases Nat.le_total y n with h | h
  · rw [Nat.min_eq_left h]; omega
  · rw [Nat.min_eq_right h]
    obtain ⟨d, rfl⟩ := Nat.le.dest h
    have e : ((x.toNat * 2 ^ n : Nat) : Int) % ((2 ^ n : Nat) : Int) = 0 := by
      rw [← Int.natCast_emod, Nat.mul_mod_left]; rfl
    rw [e, Nat.pow_add, ← Nat.mul_assoc, Nat.mul_right_comm, Nat.mul_mod_left]; rfl
theorem shr_any {n : Nat} (x : BitVec n) (y : Nat) : Int.fdiv x.toNat (2 ^ (min y n)) = ((x >>> y).toNat : Int) := by
  rw [BitVec.toNat_ushiftRight, Nat.shiftRight_eq_div_pow]
  have h2 : (2 ^ (min y n) : Int) = ((2 ^ (min y n) : Nat) : Int) := by simp
  rw [h2, Int.fdiv_eq_ediv_of_nonneg _ (Int.natCast_nonneg _), ← Int.natCast_ediv]
  rcases Nat.le_total y n with h | h
  · rw [Nat.min_eq_left h]
  · rw [Nat.min_eq_right h, Nat.div_eq_of_lt x.isLt, Nat.div_eq_of_lt (Nat.lt_of_lt_of_le x.isLt (Nat.pow_le_pow_right (by omega) h))]
@[go_sem 5000] theorem shl32 (x : BitVec 32) (k : IntKind) (n : Int) (h : 0 ≤ n) : binOp .shl t (U32 x) (.int k n) = (pure (U32 (x <<< n.toNat)) : Sem Value) := by
  show Op.shift .shl .u32 x.toNat k n = _
  rw [Op.shift, if_neg (by omega)]
  show (pure (Value.int .u32 (IntKind.u32.wrap (x.toNat * 2 ^ (min n.toNat 32)))) : Sem Value) = _
  rw [wrapU32, shl_any]; rfl
@[go_sem 5000] theorem shl64 (x : BitVec 64) (k : IntKind) (n : Int) (h : 0 ≤ n) : binOp .shl t (U64 x) (.int k n) = (pure (U64 (x <<< n.toNat)) : Sem Value) := by
  show Op.shift .shl .u64 x.toNat k n = _
  rw [Op.shift, if_neg (by omega)]
  show (pure (Value.int .u64 (IntKind.u64.wrap (x.toNat * 2 ^ (min n.toNat 64)))) : Sem Value) = _
  rw [wrapU64, shl_any]; rfl
@[go_sem 5000] theorem shl8 (x : BitVec 8) (k : IntKind) (n : Int) (h : 0 ≤ n) : binOp .shl t (U8 x) (.int k n) = (pure (U8 (x <<< n.toNat)) : Sem Value) := by
  show Op.shift .shl .u8 x.toNat k n = _
  rw [Op.shift, if_neg (by omega)]
  show (pure (Value.int .u8 (IntKind.u8.wrap (x.toNat * 2 ^ (min n.toNat 8)))) : Sem Value) = _
  rw [wrapU8, shl_any]; rfl
@[go_sem 5000] theorem shr32 (x : BitVec 32) (k : IntKind) (n : Int) (h : 0 ≤ n) : binOp .shr t (U32 x) (.int k n) = (pure (U32 (x >>> n.toNat)) : Sem Value) := by
  show Op.shift .shr .u32 x.toNat k n = _
  rw [Op.shift, if_neg (by omega)]
  show (pure (Value.int .u32 (Int.fdiv x.toNat (2 ^ (min n.toNat 32)))) : Sem Value) = _
  rw [shr_any]; rfl
@[go_sem 5000] theorem shr64 (x : BitVec 64) (k : IntKind) (n : Int) (h : 0 ≤ n) : binOp .shr t (U64 x) (.int k n) = (pure (U64 (x >>> n.toNat)) : Sem Value) := by
  show Op.shift .shr .u64 x.toNat k n = _
  rw [Op.shift, if_neg (by omega)]
  show (pure (Value.int .u64 (Int.fdiv x.toNat (2 ^ (min n.toNat 64)))) : Sem Value) = _
  rw [shr_any]; rfl
@[go_sem 5000] theorem shr8 (x : BitVec 8) (k : IntKind) (n : Int) (h : 0 ≤ n) : binOp .shr t (U8 x) (.int k n) = (pure (U8 (x >>> n.toNat)) : Sem Value) := by
  show Op.shift .shr .u8 x.toNat k n = _
  rw [Op.shift, if_neg (by omega)]
  show (pure (Value.int .u8 (Int.fdiv x.toNat (2 ^ (min n.toNat 8)))) : Sem Value) = _
  rw [shr_any]; rfl
@[go_sem 6000] theorem shl32w (x : BitVec 32) (y : BitVec 64) : binOp .shl t (U32 x) (U64 y) = (pure (U32 (x <<< y.toNat)) : Sem Value) := shl32 x .u64 (tn y) (tn_nonneg y)
@[go_sem 6000] theorem shr32w (x : BitVec 32) (y : BitVec 64) : binOp .shr t (U32 x) (U64 y) = (pure (U32 (x >>> y.toNat)) : Sem Value) := shr32 x .u64 (tn y) (tn_nonneg y)
@[go_sem 6000] theorem shl64w (x : BitVec 64) (y : BitVec 64) : binOp .shl t (U64 x) (U64 y) = (pure (U64 (x <<< y.toNat)) : Sem Value) := shl64 x .u64 (tn y) (tn_nonneg y)
@[go_sem 6000] theorem shr64w (x : BitVec 64) (y : BitVec 64) : binOp .shr t (U64 x) (U64 y) = (pure (U64 (x >>> y.toNat)) : Sem Value) := shr64 x .u64 (tn y) (tn_nonneg y)
theorem beqNat {n : Nat} (x y : BitVec n) : ((x.toNat : Int) == (y.toNat : Int)) = (x == y) := by
  rw [Bool.eq_iff_iff]; simp only [beq_iff_eq]
  exact ⟨fun h => BitVec.eq_of_toNat_eq (by omega), fun h => by rw [h]⟩
theorem bneNat {n : Nat} (x y : BitVec n) : ((x.toNat : Int) != (y.toNat : Int)) = (x != y) := by
  unfold bne; rw [beqNat]
@[go_sem 6000] theorem eql8 (x y : BitVec 8) : binOp .eql t (U8 x) (U8 y) = (pure (.bool (x == y)) : Sem Value) := by
  show (pure (Value.bool ((x.toNat : Int) == (y.toNat : Int))) : Sem Value) = _
  rw [beqNat]
@[go_sem 6000] theorem neq8 (x y : BitVec 8) : binOp .neq t (U8 x) (U8 y) = (pure (.bool (x != y)) : Sem Value) := by
  show (pure (Value.bool ((x.toNat : Int) != (y.toNat : Int))) : Sem Value) = _
  rw [bneNat]
@[go_sem 6000] theorem eql64 (x y : BitVec 64) : binOp .eql t (U64 x) (U64 y) = (pure (.bool (x == y)) : Sem Value) := by
  show (pure (Value.bool ((x.toNat : Int) == (y.toNat : Int))) : Sem Value) = _
  rw [beqNat]
@[go_sem 6000] theorem neq64 (x y : BitVec 64) : binOp .neq t (U64 x) (U64 y) = (pure (.bool (x != y)) : Sem Value) := by
  show (pure (Value.bool ((x.toNat : Int) != (y.toNat : Int))) : Sem Value) = _
  rw [bneNat]
theorem beqLit {n : Nat} (x : BitVec n) (c : Int) (h0 : 0 ≤ c) (h1 : c.toNat < 2 ^ n) : ((x.toNat : Int) == c) = (x == BitVec.ofInt n c) := by
  obtain ⟨k, rfl⟩ := Int.eq_ofNat_of_zero_le h0
  rw [← beqNat]
  congr 1
  rw [BitVec.toNat_ofInt]
  rw [Int.toNat_natCast] at h1
  rw [← Int.natCast_emod, Nat.mod_eq_of_lt h1]; rfl
@[go_sem 5000] theorem eql8l (x : BitVec 8) (c : Int) (h0 : 0 ≤ c) (h1 : c ≤ 255) : binOp .eql t (U8 x) (.int .u8 c) = (pure (.bool (x == BitVec.ofInt 8 c)) : Sem Value) := by
  show (pure (Value.bool ((x.toNat : Int) == c)) : Sem Value) = _
  rw [beqLit x c h0 (by omega)]
@[go_sem 5000] theorem neq8l (x : BitVec 8) (c : Int) (h0 : 0 ≤ c) (h1 : c ≤ 255) : binOp .neq t (U8 x) (.int .u8 c) = (pure (.bool (x != BitVec.ofInt 8 c)) : Sem Value) := by
  show (pure (Value.bool (!((x.toNat : Int) == c))) : Sem Value) = _
  rw [beqLit x c h0 (by omega)]; rfl
@[go_sem 5000] theorem eql64l (x : BitVec 64) (c : Int) (h0 : 0 ≤ c) (h1 : c ≤ 18446744073709551615) : binOp .eql t (U64 x) (.int .u64 c) = (pure (.bool (x == BitVec.ofInt 64 c)) : Sem Value) := by
  show (pure (Value.bool ((x.toNat : Int) == c)) : Sem Value) = _
  rw [beqLit x c h0 (by omega)]
@[go_sem 5000] theorem gtr64l (x : BitVec 64) (c : Int) (h0 : 0 ≤ c) : binOp .gtr t (U64 x) (.int .u64 c) = (pure (.bool (decide (c.toNat < x.toNat))) : Sem Value) := by
  show (pure (Value.bool (decide ((x.toNat : Int) > c))) : Sem Value) = _
  congr 2; rw [decide_eq_decide]; omega
@[go_sem 5000] theorem geq32l (x : BitVec 32) (c : Int) (h0 : 0 ≤ c) : binOp .geq t (U32 x) (.int .u32 c) = (pure (.bool (decide (c.toNat ≤ x.toNat))) : Sem Value) := by
  show (pure (Value.bool (decide ((x.toNat : Int) ≥ c))) : Sem Value) = _
  congr 2; rw [decide_eq_decide]; omega
theorem conv_int (hs : (P.underlying t).isSome = true) {k : IntKind} (h : P.underlying u = some (.int k)) (j : IntKind) (n : Int) : (convert t u (.int j n)).run P w = .ok (.int k (k.wrap n)) w := by
  obtain ⟨d, hd⟩ := Option.isSome_iff_exists.1 hs
  unfold convert
  simp only [Sem.run_bind, run_underlying hd, run_underlying h, Result.andThen_ok]
  cases d <;> rfl
@[go_sem 5000] theorem conv8_64 (hs : (P.underlying t).isSome = true) (h : P.underlying u = some (.int .u64)) (x : BitVec 8) : (convert t u (U8 x)).run P w = .ok (U64 (x.setWidth 64)) w := by
  rw [conv_int hs h, wrapU64]; unfold tn; rw [ofInt_wide]; rfl
@[go_sem 5000] theorem conv8_32 (hs : (P.underlying t).isSome = true) (h : P.underlying u = some (.int .u32)) (x : BitVec 8) : (convert t u (U8 x)).run P w = .ok (U32 (x.setWidth 32)) w := by
  rw [conv_int hs h, wrapU32]; unfold tn; rw [ofInt_wide]; rfl
@[go_sem 5000] theorem conv64_32 (hs : (P.underlying t).isSome = true) (h : P.underlying u = some (.int .u32)) (x : BitVec 64) : (convert t u (U64 x)).run P w = .ok (U32 (x.setWidth 32)) w := by
  rw [conv_int hs h, wrapU32]; unfold tn; rw [ofInt_wide]; rfl
@[go_sem 5000] theorem conv64_8 (hs : (P.underlying t).isSome = true) (h : P.underlying u = some (.int .u8)) (x : BitVec 64) : (convert t u (U64 x)).run P w = .ok (U8 (x.setWidth 8)) w := by
  rw [conv_int hs h, wrapU8]; unfold tn; rw [ofInt_wide]; rfl
@[go_sem 5000] theorem conv32_8 (hs : (P.underlying t).isSome = true) (h : P.underlying u = some (.int .u8)) (x : BitVec 32) : (convert t u (U32 x)).run P w = .ok (U8 (x.setWidth 8)) w := by
  rw [conv_int hs h, wrapU8]; unfold tn; rw [ofInt_wide]; rfl
@[go_sem 5000] theorem conv32_64 (hs : (P.underlying t).isSome = true) (h : P.underlying u = some (.int .u64)) (x : BitVec 32) : (convert t u (U32 x)).run P w = .ok (U64 (x.setWidth 64)) w := by
  rw [conv_int hs h, wrapU64]; unfold tn; rw [ofInt_wide]; rfl
@[go_sem 5000] theorem conv8_i (hs : (P.underlying t).isSome = true) (h : P.underlying u = some (.int .i64)) (x : BitVec 8) : (convert t u (U8 x)).run P w = .ok (.int .i64 (tn x)) w := by
  rw [conv_int hs h, IntWalk.i64_in _ (by unfold tn; have := x.isLt; omega)]
theorem int_32 (hs : (P.underlying t).isSome = true) (h : P.underlying u = some (.int .u32)) (n : Int) : (convert t u (.int .i64 n)).run P w = .ok (U32 (BitVec.ofInt 32 n)) w := by
  rw [conv_int hs h, wrapU32]; rfl
theorem int_64 (hs : (P.underlying t).isSome = true) (h : P.underlying u = some (.int .u64)) (n : Int) : (convert t u (.int .i64 n)).run P w = .ok (U64 (BitVec.ofInt 64 n)) w := by
  rw [conv_int hs h, wrapU64]; rfl
theorem int_8 (hs : (P.underlying t).isSome = true) (h : P.underlying u = some (.int .u8)) (n : Int) : (convert t u (.int .i64 n)).run P w = .ok (U8 (BitVec.ofInt 8 n)) w := by
  rw [conv_int hs h, wrapU8]; rfl
attribute [go_sem 5000] int_32 int_64 int_8 end /- rows of words -/
def cells {n : Nat} (f : BitVec n → Value) (l : List (BitVec n)) : Array Value := (l.map f).toArray
def nth {n : Nat} (l : List (BitVec n)) (i : Nat) : BitVec n := l.getD i 0
def put {n : Nat} (l : List (BitVec n)) (i : Nat) (v : BitVec n) : List (BitVec n) := l.set i v
@[simp, go_sem] theorem put_length {n : Nat} (l : List (BitVec n)) (i : Nat) (v : BitVec n) : (put l i v).length = l.length := by simp [put]
theorem nth_put {n : Nat} (l : List (BitVec n)) (i j : Nat) (v : BitVec n) (h : i < l.length) : nth (put l i v) j = if i = j then v else nth l j := by
  simp only [nth, put, List.getD_eq_getElem?_getD, List.getElem?_set]
  split <;> simp_all
theorem nth_eq {n : Nat} (l : List (BitVec n)) (i : Nat) (h : i < l.length) : nth l i = l[i] := by simp [nth, h]
@[go_sem] theorem cells_get {n : Nat} (f : BitVec n → Value) (l : List (BitVec n)) (i : Nat) (h : i < l.length) : (cells f l)[i]? = some (f (nth l i)) := by
  simp [cells, nth, h]
@[go_sem] theorem cells_set {n : Nat} (f : BitVec n → Value) (l : List (BitVec n)) (i : Nat) (v : BitVec n) : (cells f l).setIfInBounds i (f v) = cells f (put l i v) := by
  simp [cells, put, List.map_set]
structure RowOf (w : World) (b : Nat) : Prop where
  cell : ∀ cs i, (w.setRow b cs).cell? ⟨b, i, none⟩ = cs[i]?
  frozen : ∀ cs i, (w.setRow b cs).frozen? ⟨b, i, none⟩ = false
  set : ∀ cs i v, (w.setRow b cs).setCell ⟨b, i, none⟩ v = w.setRow b (cs.setIfInBounds i v)
structure Upd (b : Nat) (cs : Array Value) (t : TypeId) (w w' : World) : Prop where
  os : w'.os = w.os
  tape : w'.tape = w.tape
  output : w'.output = w.output
  size : w'.heap.size = w.heap.size
  block : ∀ k, k ≠ b → w'.heap[k]? = w.heap[k]?
  row : w'.heap[b]? = some (.cells cs t (0, 0))
theorem Upd.trans {b : Nat} {c d : Array Value} {t : TypeId} {w w1 w2 : World} (h : Upd b c t w w1) (k : Upd b d t w1 w2) : Upd b d t w w2 :=
  ⟨k.os.trans h.os, k.tape.trans h.tape, k.output.trans h.output, k.size.trans h.size, fun i hi => (k.block i hi).trans (h.block i hi), k.row⟩
theorem Upd.below {b B : Nat} {c : Array Value} {t : TypeId} {w w1 : World} (h : Upd b c t w w1) (hb : B ≤ b) : Below B w w1 :=
  ⟨h.os, h.tape, h.output, Nat.le_of_eq h.size.symm, fun k hk => h.block k (by omega)⟩
theorem hid {p : Prop} (h : p) : Hid p := h
end Go.Proofs.YtmbepikkgkcgkaaGreatDoor
namespace Go.Proofs.YtmbepikkgkcgkaaGreatDoor
open Go.RowKit
theorem heap_alloc_if (w : World) (o : Obj) (i : Nat) : (w.alloc o).heap[i]? = if i = w.heap.size then some o else w.heap[i]? := by
  show (w.heap.push o)[i]? = _
  rw [Array.getElem?_push]
@[go_sem, simp] theorem setCell_drewN (w : World) (n : Nat) (a : Addr) (v : Value) : (w.drewN n).setCell a v = (w.setCell a v).drewN n := rfl
theorem size_alloc (w : World) (o : Obj) : (w.alloc o).heap.size = w.heap.size + 1 := by show (w.heap.push o).size = _; rw [Array.size_push]
theorem heap_setRow_if (w : World) (b : Nat) (cs : Array Value) (i : Nat) (h : i ≠ b) : (w.setRow b cs).heap[i]? = w.heap[i]? := by
  simp only [World.setRow, Array.getElem?_modify]; rw [if_neg (fun e => h e.symm)]
def Has (w : World) (b : Nat) (cs : Array Value) (t : TypeId) : Prop := w.heap[b]? = some (.cells cs t (0, 0))
theorem Has.lt {w : World} {b : Nat} {cs : Array Value} {t : TypeId} (h : Has w b cs t) : b < w.heap.size := (Array.getElem?_eq_some_iff.1 h).1
theorem Has.cell {w : World} {b : Nat} {cs : Array Value} {t : TypeId} (h : Has w b cs t) (i : Nat) : w.cell? ⟨b, i, none⟩ = cs[i]? := by
  unfold Has at h; simp [World.cell?, h]
theorem Has.frozen {w : World} {b : Nat} {cs : Array Value} {t : TypeId} (h : Has w b cs t) (i : Nat) : w.frozen? ⟨b, i, none⟩ = false := by
  unfold Has at h; simp [World.frozen?, h]
theorem Has.new (w : World) (cs : Array Value) (t : TypeId) : Has (w.alloc (.cells cs t)) w.heap.size cs t := by unfold Has; rw [heap_alloc_if, if_pos rfl]
theorem Has.made {w : World} {cs : Array Value} {t : TypeId} {n : Nat} (hn : n = w.heap.size) {c : Array Value} (hc : c = cs) : Has (w.alloc (.cells c t)) n cs t := by subst hn hc; exact Has.new w _ t
theorem Has.alloc {w : World} {b : Nat} {cs : Array Value} {t : TypeId} (h : Has w b cs t) (o : Obj) : Has (w.alloc o) b cs t := by
  have := h.lt; unfold Has at *; rw [heap_alloc_if, if_neg (by omega)]; exact h
theorem Has.drewN {w : World} {b : Nat} {cs : Array Value} {t : TypeId} (h : Has w b cs t) (n : Nat) : Has (w.drewN n) b cs t := h
theorem Has.drew {w : World} {b : Nat} {cs : Array Value} {t : TypeId} (h : Has w b cs t) : Has w.drew b cs t := h
theorem Has.setRow {w : World} {b : Nat} {cs : Array Value} {t : TypeId} (h : Has w b cs t) (c : Array Value) : Has (w.setRow b c) b c t := setRow_heap w b cs c t (0, 0) h
theorem Has.below {w w' : World} {B b : Nat} {cs : Array Value} {t : TypeId} (h : Has w b cs t) (hb : Below B w w') (hB : b < B) : Has w' b cs t := by
  unfold Has at *; rw [hb.block b hB]; exact h
theorem Has.ext {w w' : World} {b : Nat} {cs : Array Value} {t : TypeId} (h : Has w b cs t) (hb : Below w.heap.size w w') : Has w' b cs t := h.below hb h.lt
theorem Has.upd {w w' : World} {b b' : Nat} {cs c : Array Value} {t t' : TypeId} (h : Has w b cs t) (hu : Upd b' c t' w w') (hb : b ≠ b') : Has w' b cs t := by
  unfold Has at *; rw [hu.block b hb]; exact h
theorem Upd.has {w w' : World} {b' : Nat} {c : Array Value} {t' : TypeId} (hu : Upd b' c t' w w') : Has w' b' c t' := hu.row
theorem Upd.refl {w : World} {b : Nat} {c : Array Value} {t : TypeId} (h : Has w b c t) : Upd b c t w w := ⟨rfl, rfl, rfl, rfl, fun _ _ => rfl, h⟩
def restOf : Nat → Code → Code
  | 0, c => c
  | n + 1, .seq _ b => restOf n b
  | _ + 1, c => c
def headOf : Code → Code
  | .seq a _ => a
  | c => c
def bodyOf (fn : Func) : Code := fn.body.getD .skip
def zer8 (n : Nat) : List (BitVec 8) := List.replicate n 0
@[go_sem, simp] theorem zer8_length (n : Nat) : (zer8 n).length = n := by simp [zer8]
def zer32 (n : Nat) : List (BitVec 32) := List.replicate n 0#32
def zer64 (n : Nat) : List (BitVec 64) := List.replicate n 0#64
def zeri (n : Nat) : List Int := List.replicate n 0
@[go_sem, simp] theorem zer32_length (n : Nat) : (zer32 n).length = n := by simp [zer32]
@[go_sem, simp] theorem zer64_length (n : Nat) : (zer64 n).length = n := by simp [zer64]
@[go_sem, simp] theorem zeri_length (n : Nat) : (zeri n).length = n := by simp [zeri]
def fill {n : Nat} (f : Nat → BitVec n) (o : Nat) : Nat → List (BitVec n) → List (BitVec n)
  | 0, l => l
  | k + 1, l => put (fill f o k l) (o + k) (f k)
@[simp, go_sem] theorem fill_length {n : Nat} (f : Nat → BitVec n) (o k : Nat) (l : List (BitVec n)) : (fill f o k l).length = l.length := by
  induction k with
  | zero => rfl
  | succ k ih => simp [fill, ih]
end Go.Proofs.YtmbepikkgkcgkaaGreatDoor
namespace Go.Proofs.YtmbepikkgkcgkaaGreatDoor
open Go.RowKit
def keyText : List Int → List UInt8
  | [] => []
  | x :: l => Lib.itoa x ++ 32 :: keyText l
def keyPre (l : List Int) (q : Nat) : List UInt8 := keyText (l.take q)
theorem keyText_app (l m : List Int) : keyText (l ++ m) = keyText l ++ keyText m := by
  induction l with
  | nil => rfl
  | cons x l ih => simp [keyText, ih]
theorem keyPre_succ (l : List Int) (q : Nat) (h : q < l.length) : keyPre l (q + 1) = keyPre l q ++ (Lib.itoa l[q] ++ [32]) := by
  unfold keyPre
  rw [List.take_succ_eq_append_getElem h, keyText_app]
  rfl
theorem infoK8 : (Tryz.prog.info? 5).map (fun i => (i.zero, i.size, i.bytes)) = some (some (.int .u8 0), 1, 1) := by kernel_rfl
theorem infoK64 : (Tryz.prog.info? 3).map (fun i => (i.zero, i.size, i.bytes)) = some (some (.int .i64 0), 1, 8) := by kernel_rfl
theorem wpList_appendI {P : Program} (w : World) {ops : Array Oper} {rest : List Oper} {o : Oper} {a : Act} {Q : Exit → Act → World → Prop} (hgd : o.guard = none) (s x : Operand) (t : TypeId)
    (ho : o.op = .call { callee := .builtin .append, args := #[s, x], argTypes := #[t, t] }) (B : Nat) (ht : P.underlying t = some (.slice 3)) (hi : (P.info? 3).map (fun i => (i.zero, i.size, i.bytes)) = some (some (.int .i64 0), 1, 8))
    (v : Value) (n : Nat) (l : List Value) (m : List Int) (hs : a.eval s = v) (hown : w.ownsRow B 3 1 v n l) (u : Value) (hx : a.eval x = u) (hu : (u = .slice none 0 0 ∧ m = []) ∨ ∃ ad cap, u = .slice (some ad) m.length cap ∧ ∀ j u, (m.map (Value.int .i64))[j]? = some u → w.cell? (ad.add j) = some u) (h46 : n + m.length ≤ 1000000) (hB : B ≤ w.heap.size)
    (h : ∀ v' w', w'.ownsRow B 3 1 v' (n + m.length) (l ++ m.map (Value.int .i64)) → w.grownBy w' v.ownBlock → wpList P ops Q rest (a.put o.dst v') w') : wpList P ops Q (o :: rest) a w := by
  obtain ⟨i0, hi0, hz0, hz1, hz2⟩ := info_parts hi
  rcases hu with ⟨rfl, rfl⟩ | ⟨ad, cap, rfl, hcell⟩
  · refine wpList_append_own_none hgd s x t ho B 3 i0 1 ht hi0 v n l hs hown hx ?_
    exact h v w (by simpa using hown) ⟨rfl, rfl, rfl, Nat.le_refl _, fun _ _ _ => rfl⟩
  · refine wpList_append_own w hgd s x t ho B 3 i0 (.int .i64 0) 1 8 ht hi0 hz0 hz1 hz2 rfl (by decide) v n l hs hown ad m.length cap (m.map (Value.int .i64)) hx (by simp) hcell ?_ (by unfold maxLen; omega) (by omega) hB ?_
    · intro u hu
      obtain ⟨y, _, rfl⟩ := List.mem_map.1 hu
      rfl
    · intro v' w' h1 h2 _
      exact h v' w' h1 h2
theorem own_two (w : World) (x y : Value) : (w.alloc (.cells #[x, y] 3)).ownsRow w.heap.size 3 1 (.slice (some ⟨w.heap.size, 0, none⟩) 2 2) 2 [x, y] :=
  ⟨rfl, .inr ⟨w.heap.size, 2, #[x, y], rfl, Nat.le_refl _, heap_alloc_new w _, Nat.le_refl _, by unfold maxLen; omega, rfl, rfl⟩⟩
set_option maxRecDepth 100000 in
set_option maxHeartbeats 4000000 in
theorem key_any (kk nn : Int) (l : List Int) (v : Value) (w : World) (hv : (v = .slice none 0 0 ∧ l = []) ∨ ∃ ad cap, v = .slice (some ad) l.length cap ∧ ∀ j u, (l.map (Value.int .i64))[j]? = some u → w.cell? (ad.add j) = some u) (hlen : l.length ≤ 1000)
    (hr : ∀ x ∈ kk :: nn :: l, -9223372036854775808 ≤ x ∧ x ≤ 9223372036854775807) (htab : Lib.TabIs Tryz.prog w "internal/strconv.uint64pow10" .u64 Lib.pow10Tab) :
    Calls Tryz.prog 42 #[.int .i64 kk, .int .i64 nn, v] w fun e w' => e = .returned (.string ⟨(keyText (kk :: nn :: l)).toArray⟩) ∧ Below w.heap.size w w' := by
  have Hv := hid hv
  have Hr := hid hr
  have HT := hid htab
  have Hlen := hid hlen
  clear hv hr htab hlen
  go_enter Tryz.func42, Tryz.ntmps42
  go_wp2_with (at_builtin; refine wpList_appendI _ rfl (.tmp 12) (.tmp 13) 41 rfl w.heap.size Tryz.underlying41 infoK64 (.slice (some ⟨w.heap.size, 0, none⟩) 2 2) 2 [.int .i64 kk, .int .i64 nn] l rfl (own_two w _ _) v rfl ?_ (by have := Hlen.out; omega) (by simp) ?_)
  · rcases Hv.out with h | ⟨ad, cap, h1, h2⟩
    · exact .inl h
    · exact .inr ⟨ad, cap, h1, fun j u hj => by have h3 := h2 j u hj; exact (World.cell?_of_block (w := w) (by rw [heap_alloc_if, if_neg (by have := World.block_lt_of_cell? w _ h3; omega)])).trans h3⟩
  intro v1 w1 hown1 hgrow1
  have hB1 : Below w.heap.size w w1 := ((Below.refl _ _).alloc (Nat.le_refl _) _).grown hgrow1 (by simp) (fun k hk => by simp [Value.ownBlock] at hk; omega)
  have hT1 : Lib.TabIs Tryz.prog w1 "internal/strconv.uint64pow10" .u64 Lib.pow10Tab := (Lib.tabBelow_of_tabIs HT.out) w1 hB1
  obtain ⟨xs, hxs⟩ : ∃ xs, xs = kk :: nn :: l := ⟨_, rfl⟩
  have Hxs := hid hxs
  have hl2 : 2 + l.length = xs.length := by rw [hxs]; simp; omega
  have hm2 : Value.int IntKind.i64 kk :: Value.int IntKind.i64 nn :: List.map (Value.int IntKind.i64) l = xs.map (Value.int .i64) := by rw [hxs]; rfl
  rw [hl2, hm2] at hown1
  rw [← hxs] at Hr
  have hlen2 : xs.length ≤ 1002 := by have := Hlen.out; omega
  rcases hown1.2 with ⟨_, h0⟩ | ⟨g, cap1, cur, rfl, hg, hh, hc1, hm1, hs1, ht1⟩
  · omega
  have hcell : ∀ i, (hi : i < xs.length) → w1.cell? ⟨g, i, none⟩ = some (.int .i64 xs[i]) := fun i hi => by
    have h1 := hown1.cells (g := g) rfl i (.int .i64 xs[i]) (by simp [hi])
    rwa [show (⟨g, 0, none⟩ : Addr).add i = ⟨g, i, none⟩ by rw [Addr.add_mid, Nat.zero_add]] at h1
  have hgl : g < w1.heap.size := (Array.getElem?_eq_some_iff.1 hh).1
  have HC := hid hcell
  have HB1 := hid hB1
  have HT1 := hid hT1
  have HL2 := hid hlen2
  have HG := hid hgl
  clear hown1 hgrow1 hB1 hT1 hl2 hm2 hh hc1 hm1 hs1 ht1 hcell hg hlen2 hgl hxs
  obtain ⟨i0, hi, hz0, hz1, hz2⟩ := info_parts infoK8
  go_wp2
  go_loopw [7, 16] (fun bv iv wr => ∃ q : Nat, q ≤ xs.length ∧ iv = .int .i64 q ∧ Below w1.heap.size w1 wr ∧ wr.ownsRow w1.heap.size 5 1 bv (keyPre xs q).length (Lib.byteCells (keyPre xs q)) ∧ (keyPre xs q).length ≤ 22 * q) (fun _ iv _ => xs.length - (intOf iv).toNat)
  case atStart => exact ⟨0, Nat.zero_le _, rfl, Below.refl _ _, World.ownsRow_nil _ _ _ _, by simp [keyPre, keyText]⟩
  case round =>
    obtain ⟨q, hq, rfl, hB, hO, hK⟩ := hrel
    by_cases hlt : q < xs.length
    · obtain ⟨x, hx, hr, hsucc⟩ : ∃ x, wr.cell? ⟨g, q, none⟩ = some (.int .i64 x) ∧ (-9223372036854775808 ≤ x ∧ x ≤ 9223372036854775807) ∧ keyPre xs (q + 1) = keyPre xs q ++ (Lib.itoa x ++ [32]) :=
        ⟨xs[q], by rw [World.cell?_of_block (hB.block g HG.out)]; exact HC.out q hlt, Hr.out xs[q] (List.getElem_mem _), keyPre_succ xs q hlt⟩
      have hl := Lib.itoa_length_le x hr.1 hr.2
      have HO := hid hO
      have HB := hid hB
      have HKq := hid hK
      have HR := hid hr
      have HIl := hid hl
      have HS := hid hsucc
      have HLt := hid hlt
      have hlt2 : (q : Int) < xs.length := by omega
      clear hO hB hK hr hl hsucc
      go_wp2_with (go_at_call 67; refine (appendInt w1.heap.size _ x HR.out.1 HR.out.2 u7 _ wr HO.out HB.out.size (by have := HKq.out; have := HL2.out; omega) ((Lib.tabBelow_of_tabIs HT1.out).on HB.out)).mono ?_; rintro e w2 ⟨v2, rfl, hown2, hnx2, -⟩; refine Hid.out ?_)
      refine Lib.hid ?_
      go_wp2_with (at_builtin; refine wpList_append_own _ rfl _ _ 23 rfl w1.heap.size 5 i0 (.int .u8 0) 1 1 Tryz.underlying23 hi hz0 hz1 hz2 rfl (by decide) _ _ _ rfl (hown2.alloc _) ⟨w2.heap.size, 0, none⟩ 1 1 [Value.int .u8 32] rfl rfl (by intro j u' hj; match j, hj with | 0, hj => simp at hj; subst hj; simp [Addr.add]) (by intro u' hu'; simp at hu'; subst hu'; rfl) (by unfold maxLen; have := HKq.out; have := HIl.out; have := HL2.out; omega) (by have := HKq.out; have := HIl.out; have := HL2.out; omega) (by have := HB.out.size; have := hnx2.size; simp; omega) ?_)
      intro v3 w3 hown3 hgrow3 _
      have hnx3 : Below w1.heap.size wr w3 := (hnx2.alloc (by have := HB.out.size; have := hnx2.size; omega) _).grown hgrow3 (by have := HB.out.size; have := hnx2.size; simp; omega) (fun k hk => (hown2.lt k hk).1)
      have eL : Lib.byteCells (keyPre xs q) ++ (Lib.byteCells (Lib.itoa x) ++ [Value.int .u8 32]) = Lib.byteCells (keyPre xs (q + 1)) := by
        rw [HS.out]
        unfold Lib.byteCells
        rw [List.map_append, List.map_append]
        rfl
      have eN : (keyPre xs q).length + (Lib.itoa x).length + 1 = (keyPre xs (q + 1)).length := by rw [HS.out, List.length_append, List.length_append]; simp; omega
      rw [eL, eN] at hown3
      have hK3 : (keyPre xs (q + 1)).length ≤ 22 * (q + 1) := by have := HKq.out; have := HIl.out; omega
      have HO3 := hid hown3
      have HN3 := hid hnx3
      have HK3 := hid hK3
      clear hown3 hnx3 hgrow3 eL eN hK3 hown2 hnx2
      go_wp2
      have hw : wrap64 ((q : Int) + 1) = ((q + 1 : Nat) : Int) := by
        have h1 := HLt.out
        have h2 := HL2.out
        unfold wrap64
        omega
      rw [hw]
      refine ⟨⟨q + 1, HLt.out, rfl, HB.out.trans HN3.out, HO3.out, HK3.out⟩, ?_⟩
      have h1 := HLt.out
      simp only [intOf, Int.toNat_natCast]
      omega
    · have hqe : q = xs.length := by omega
      have hge : ¬ (q : Int) < xs.length := by omega
      rw [show keyPre xs q = keyText xs by unfold keyPre; rw [hqe, List.take_length]] at hO hK
      have HB := hid hB
      have HK := hid hK
      have hpos : 0 < (keyText xs).length := by rw [Hxs.out]; simp [keyText]; omega
      rcases hO.2 with ⟨-, h0⟩ | ⟨g2, cap2, cur2, rfl, -, -, -, -, -, -⟩
      · omega
      · have hcv := run_convert_bytes_back (P := Tryz.prog) wr 23 9 5 ⟨g2, 0, none⟩ cap2 (keyText xs) Tryz.underlying23 Tryz.underlying5 Tryz.underlying9 (fun j hj => hO.cells (g := g2) rfl j _ (by simp [Lib.byteCells, hj]))
        clear hO hB hK
        go_wp2
        go_ret
        refine ⟨by rw [← Hxs.out]; rfl, HB1.out.trans ?_⟩
        exact HB.out.mono HB1.out.size
end Go.Proofs.YtmbepikkgkcgkaaGreatDoor
namespace Go.Proofs.YtmbepikkgkcgkaaGreatDoor
def powObj (ob : Obj) : Prop := ∃ t fr, ob = .cells (Lib.pow10Tab.map fun z => Value.int .u64 z).toArray t fr
def baseObj : Nat → Option (Obj → Prop) := fun c => if c = 0 then some powObj else none
theorem powTab {P : Program} {w : World} (hg : P.globalNamed "internal/strconv.uint64pow10" = some 0) (h : ∃ ob, w.heap[0]? = some ob ∧ powObj ob) : Lib.TabIs P w "internal/strconv.uint64pow10" .u64 Lib.pow10Tab := by
  obtain ⟨ob, h1, t, fr, rfl⟩ := h
  unfold Lib.TabIs World.var?
  rw [hg, Option.bind_some, h1]
end Go.Proofs.YtmbepikkgkcgkaaGreatDoor
namespace Go.Proofs.YtmbepikkgkcgkaaGreatDoor
open Go.RowKit
structure Loc where
  c : Nat
  off : Nat
  n : Nat
structure Emb where
  f : Nat → Option Loc
  tx : Nat → Nat → Value → Prop
instance : CoeFun Emb (fun _ => Nat → Option Loc) := ⟨Emb.f⟩
inductive Cell where
  | any
  | val (v : Value)
  | ptr (b o : Nat)
  | sl (b o len cap sz : Nat)
  | nsl
  | esl
  | bs (l : List (BitVec 8))
  | is (l : List Int)
  | qb (l : List (BitVec 8)) (o : Nat)
  | qi (l : List Int) (o : Nat)
  | mp (b : Nat)
  | xs (b n : Nat)
  | lb (l : List (BitVec 8))
structure Nd where
  k : Int
  n : Int
  a : List Int
inductive Leaf where
  | val (v : Value)
  | bs (l : List (BitVec 8))
  | is (l : List Int)
def Leaf.cell : Leaf → Cell
  | .val v => .val v
  | .bs l => .bs l
  | .is l => .is l
inductive Arr where
  | a8 (l : List (BitVec 8))
  | a32 (l : List (BitVec 32))
  | a64 (l : List (BitVec 64))
  | ai (l : List Int)
  | ac (l : List Cell)
  | ab (l : List (List (BitVec 8)))
  | an (l : List Nd)
  | bl (l : List Bool)
  | al (l : List Leaf)
  | mp (es : List (Value × Leaf))
inductive AV where
  | c (x : Cell)
  | agg (x : Arr)
  | tup (l : List AV)
inductive Row where
  | dead
  | row (own : Bool) (x : Arr)
abbrev Mem := List Row
def StayRel (ι : Emb) (g : Nat → Value) (n : Nat) (v : Value) : Prop := ∃ p cap, v = .slice p n cap ∧ n ≤ cap ∧ (cap = 0 ∨ ∃ c o, p = some ⟨c, o, none⟩ ∧ (∃ o' v', ι.tx c o' v') ∧ ∀ i, i < n → ι.tx c (o + i) (g i))
theorem StayRel.mono {ι ι' : Emb} (h : ∀ c o v, ι.tx c o v → ι'.tx c o v) {g : Nat → Value} {n : Nat} {v : Value} (hr : StayRel ι g n v) : StayRel ι' g n v := by
  obtain ⟨p, cap, rfl, h1, h2⟩ := hr
  refine ⟨p, cap, rfl, h1, h2.imp id ?_⟩
  rintro ⟨c, o, rfl, ⟨o', v', hb⟩, r⟩
  exact ⟨c, o, rfl, ⟨o', v', h _ _ _ hb⟩, fun i hi => h _ _ _ (r i hi)⟩
def Cell.rel (ι : Emb) : Cell → Value → Prop
  | .any, _ => True
  | .val x, v => v = x
  | .ptr b o, v => ∃ l, ι b = some l ∧ v = .pointer (some ⟨l.c, l.off + o, none⟩)
  | .sl b o len cap sz, v => ∃ p cap', v = .slice p len cap' ∧ cap ≤ cap' ∧ len ≤ cap' ∧ (cap' = 0 ∨ ∃ l, ι b = some l ∧ p = some ⟨l.c, l.off + o, none⟩ ∧ o + cap' * sz ≤ l.n)
  | .nsl, v => v = .slice none 0 0
  | .esl, v => ∃ p, v = .slice p 0 0
  | .bs x, v => StayRel ι (fun i => U8 (nth x i)) x.length v
  | .is x, v => StayRel ι (fun i => .int .i64 (x.getD i 0)) x.length v
  | .qb x k, v => ∃ c o, v = .pointer (some ⟨c, o + k, none⟩) ∧ ∀ i, i < x.length → ι.tx c (o + i) (U8 (nth x i))
  | .qi x k, v => ∃ c o, v = .pointer (some ⟨c, o + k, none⟩) ∧ ∀ i, i < x.length → ι.tx c (o + i) (.int .i64 (x.getD i 0))
  | .mp b, v => ∃ l, ι b = some l ∧ v = .map (some l.c)
  | .xs b n, v => ∃ l, ι b = some l ∧ v = .slice (some ⟨l.c, l.off, none⟩) n n
  | .lb x, v => StayRel ι (fun i => U8 (nth x i)) x.length v ∧ ∃ p, v = .slice p x.length x.length
def Cell.one : Cell → Bool
  | .any => false
  | .val v => v.oneCell'
  | _ => true
theorem Cell.rel_one {ι : Emb} {x : Cell} {v : Value} (h : x.rel ι v) (h1 : x.one = true) : v.oneCell' = true := by
  cases x with
  | any => cases h1
  | val y => simp only [Cell.rel] at h; subst h; exact h1
  | ptr b o => obtain ⟨l, _, rfl⟩ := h; rfl
  | sl b o len cap sz => obtain ⟨p, c, rfl, _⟩ := h; rfl
  | nsl => simp only [Cell.rel] at h; subst h; rfl
  | esl => obtain ⟨p, rfl⟩ := h; rfl
  | bs x => obtain ⟨p, c, rfl, _⟩ := h; rfl
  | is x => obtain ⟨p, c, rfl, _⟩ := h; rfl
  | qb x k => obtain ⟨c, o, rfl, _⟩ := h; rfl
  | qi x k => obtain ⟨c, o, rfl, _⟩ := h; rfl
  | mp b => obtain ⟨l, _, rfl⟩ := h; rfl
  | xs b n => obtain ⟨l, _, rfl⟩ := h; rfl
  | lb x => obtain ⟨_, p, rfl⟩ := h; rfl
def w8? : Value → Option (BitVec 8)
  | .int .u8 n => if (tn (BitVec.ofInt 8 n) : Int) = n then some (BitVec.ofInt 8 n) else none
  | _ => none
def w32? : Value → Option (BitVec 32)
  | .int .u32 n => if (tn (BitVec.ofInt 32 n) : Int) = n then some (BitVec.ofInt 32 n) else none
  | _ => none
def w64? : Value → Option (BitVec 64)
  | .int .u64 n => if (tn (BitVec.ofInt 64 n) : Int) = n then some (BitVec.ofInt 64 n) else none
  | _ => none
def i? : Value → Option Int
  | .int .i64 n => some n
  | _ => none
@[simp] theorem w8?_U8 (x : BitVec 8) : w8? (U8 x) = some x := by
  show (if (tn (BitVec.ofInt 8 (tn x)) : Int) = tn x then some (BitVec.ofInt 8 (tn x)) else none) = _
  have : BitVec.ofInt 8 (tn x) = x := ofInt_nat x
  rw [this, if_pos rfl]
@[simp] theorem w32?_U32 (x : BitVec 32) : w32? (U32 x) = some x := by
  show (if (tn (BitVec.ofInt 32 (tn x)) : Int) = tn x then some (BitVec.ofInt 32 (tn x)) else none) = _
  have : BitVec.ofInt 32 (tn x) = x := ofInt_nat x
  rw [this, if_pos rfl]
@[simp] theorem w64?_U64 (x : BitVec 64) : w64? (U64 x) = some x := by
  show (if (tn (BitVec.ofInt 64 (tn x)) : Int) = tn x then some (BitVec.ofInt 64 (tn x)) else none) = _
  have : BitVec.ofInt 64 (tn x) = x := ofInt_nat x
  rw [this, if_pos rfl]
theorem w8?_some {v : Value} {x : BitVec 8} (h : w8? v = some x) : v = U8 x := by
  unfold w8? at h; split at h
  · split at h
    · rename_i e; cases h; rw [U8, e]
    · cases h
  · cases h
theorem w32?_some {v : Value} {x : BitVec 32} (h : w32? v = some x) : v = U32 x := by
  unfold w32? at h; split at h
  · split at h
    · rename_i e; cases h; rw [U32, e]
    · cases h
  · cases h
theorem w64?_some {v : Value} {x : BitVec 64} (h : w64? v = some x) : v = U64 x := by
  unfold w64? at h; split at h
  · split at h
    · rename_i e; cases h; rw [U64, e]
    · cases h
  · cases h
theorem i?_some {v : Value} {x : Int} (h : i? v = some x) : v = .int .i64 x := by
  unfold i? at h; split at h
  · cases h; rfl
  · cases h
def Arr.size : Arr → Nat
  | .a8 l => l.length
  | .a32 l => l.length
  | .a64 l => l.length
  | .ai l => l.length
  | .ac l => l.length
  | .ab l => l.length
  | .an l => 3 * l.length
  | .bl l => l.length
  | .al l => l.length
  | .mp _ => 0
def getb (l : List (List (BitVec 8))) (i : Nat) : List (BitVec 8) := l.getD i []
def getn (l : List Nd) (i : Nat) : Nd := l.getD i ⟨0, 0, []⟩
def getl (l : List Leaf) (i : Nat) : Leaf := l.getD i (.val (.bool false))
def gett (l : List Bool) (i : Nat) : Bool := l.getD i false
def Nd.get (x : Nd) : Nat → Cell
  | 0 => .val (.int .i64 x.k)
  | 1 => .val (.int .i64 x.n)
  | _ => .is x.a
def geti (l : List Int) (i : Nat) : Int := l.getD i 0
def getc (l : List Cell) (i : Nat) : Cell := l.getD i .any
def Arr.get : Arr → Nat → Cell
  | .a8 l, i => .val (U8 (nth l i))
  | .a32 l, i => .val (U32 (nth l i))
  | .a64 l, i => .val (U64 (nth l i))
  | .ai l, i => .val (.int .i64 (geti l i))
  | .ac l, i => getc l i
  | .ab l, i => .bs (getb l i)
  | .an l, i => (getn l (i / 3)).get (i % 3)
  | .bl l, i => .val (.bool (gett l i))
  | .al l, i => (getl l i).cell
  | .mp _, _ => .any
def puti (l : List Int) (i : Nat) (v : Int) : List Int := l.set i v
def putc (l : List Cell) (i : Nat) (v : Cell) : List Cell := l.set i v
def Arr.set : Arr → Nat → Cell → Option Arr
  | .a8 l, i, .val v => (w8? v).map fun x => .a8 (put l i x)
  | .a32 l, i, .val v => (w32? v).map fun x => .a32 (put l i x)
  | .a64 l, i, .val v => (w64? v).map fun x => .a64 (put l i x)
  | .ai l, i, .val v => (i? v).map fun x => .ai (puti l i x)
  | .ac l, i, c => some (.ac (putc l i c))
  | .ab l, i, .bs x => some (.ab (l.set i x))
  | .bl l, i, .val (.bool t) => some (.bl (l.set i t))
  | _, _, _ => none
def cut {α : Type} (l : List α) (o n : Nat) : List α := (l.drop o).take n
def Arr.win : Arr → Nat → Nat → Arr
  | .a8 l, o, n => .a8 (cut l o n)
  | .a32 l, o, n => .a32 (cut l o n)
  | .a64 l, o, n => .a64 (cut l o n)
  | .ai l, o, n => .ai (cut l o n)
  | .ac l, o, n => .ac (cut l o n)
  | .ab l, o, n => .ab (cut l o n)
  | .bl l, o, n => .bl (cut l o n)
  | .an l, o, n => .ac ((List.range (min n (3 * l.length - o))).map fun i => (getn l ((o + i) / 3)).get ((o + i) % 3))
  | .al l, o, n => .al (cut l o n)
  | .mp _, _, _ => .ac []
def over {α : Type} (l : List α) (o : Nat) (m : List α) : List α := l.take o ++ m ++ l.drop (o + m.length)
def Arr.cells (x : Arr) : List Cell := (List.range x.size).map x.get
def Arr.putW : Arr → Nat → Arr → Option Arr
  | .a8 l, o, .a8 m => some (.a8 (over l o m))
  | .a32 l, o, .a32 m => some (.a32 (over l o m))
  | .a64 l, o, .a64 m => some (.a64 (over l o m))
  | .ai l, o, .ai m => some (.ai (over l o m))
  | .ac l, o, m => some (.ac (over l o m.cells))
  | .ab l, o, .ab m => some (.ab (over l o m))
  | .bl l, o, .bl m => some (.bl (over l o m))
  | _, _, _ => none
def Arr.app : Arr → Arr → Option Arr
  | .a8 l, .a8 m => some (.a8 (l ++ m))
  | .a32 l, .a32 m => some (.a32 (l ++ m))
  | .a64 l, .a64 m => some (.a64 (l ++ m))
  | .ai l, .ai m => some (.ai (l ++ m))
  | .ac l, .ac m => some (.ac (l ++ m))
  | .ab l, .ab m => some (.ab (l ++ m))
  | .ab l, .ac [.bs x] => some (.ab (l ++ [x]))
  | .an l, .ac [.val (.int .i64 k), .val (.int .i64 n), .is a] => some (.an (l ++ [⟨k, n, a⟩]))
  | .bl l, .bl m => some (.bl (l ++ m))
  | _, _ => none
def Arr.one : Arr → Bool
  | .ac l => l.all Cell.one
  | .al _ => false
  | .mp _ => false
  | _ => true
def Arr.isMap : Arr → Bool
  | .mp _ => true
  | _ => false
theorem Arr.noMap {x : Arr} (h : 0 < x.size) : x.isMap = false := by cases x <;> first | rfl | (simp [Arr.size] at h)
theorem Arr.one_noMap {x : Arr} (h : x.one = true) : x.isMap = false := by cases x <;> first | rfl | cases h
theorem Arr.app_noMap {x y z : Arr} (h : x.app y = some z) : z.isMap = false := by
  unfold Arr.app at h
  split at h <;> first | (cases h; rfl) | cases h
theorem Arr.set_noMap {x z : Arr} {i : Nat} {c : Cell} (h : x.set i c = some z) : z.isMap = false := by
  unfold Arr.set at h
  split at h <;> first | (cases h; rfl) | (obtain ⟨_, _, rfl⟩ := Option.map_eq_some_iff.1 h; rfl) | cases h
theorem Arr.putW_noMap {x y z : Arr} {i : Nat} (h : x.putW i y = some z) : z.isMap = false := by
  unfold Arr.putW at h
  split at h <;> first | (cases h; rfl) | cases h
theorem Arr.putW_noMap0 {x y z : Arr} {i : Nat} (h : x.putW i y = some z) : x.isMap = false := by
  cases x <;> first | rfl | simp [Arr.putW] at h
theorem Arr.get_one {x : Arr} (h : x.one = true) {i : Nat} (hi : i < x.size) : (x.get i).one = true := by
  cases x with
  | ac l =>
    simp only [Arr.one, List.all_eq_true] at h
    simp only [Arr.size] at hi
    simp only [Arr.get, getc, List.getD_eq_getElem?_getD, List.getElem?_eq_getElem hi, Option.getD_some]
    exact h _ (List.getElem_mem _)
  | an l =>
    simp only [Arr.get]
    generalize i % 3 = j
    match j with
    | 0 => rfl
    | 1 => rfl
    | j + 2 => rfl
  | mp es => simp [Arr.size] at hi
  | al l => cases h
  | _ => rfl
theorem nth_put' {n : Nat} (l : List (BitVec n)) (i j : Nat) (v : BitVec n) (h : j < l.length) : nth (put l i v) j = if j = i then v else nth l j := by
  simp only [nth, put, List.getD_eq_getElem?_getD, List.getElem?_set]
  by_cases e : i = j
  · subst e; simp [h]
  · rw [if_neg e, if_neg (fun h => e h.symm)]
theorem Arr.set_spec {x y : Arr} {i : Nat} {c : Cell} (h : x.set i c = some y) : y.size = x.size ∧ ∀ j, j < x.size → y.get j = if j = i then c else x.get j := by
  cases x with
  | a8 l =>
    cases c <;> simp only [Arr.set] at h <;> try (cases h; done)
    obtain ⟨z, hz, rfl⟩ := Option.map_eq_some_iff.1 h
    obtain rfl := w8?_some hz
    refine ⟨by simp [Arr.size], fun j hj => ?_⟩
    simp only [Arr.get, nth_put' l i j z hj]; split <;> rfl
  | a32 l =>
    cases c <;> simp only [Arr.set] at h <;> try (cases h; done)
    obtain ⟨z, hz, rfl⟩ := Option.map_eq_some_iff.1 h
    obtain rfl := w32?_some hz
    refine ⟨by simp [Arr.size], fun j hj => ?_⟩
    simp only [Arr.get, nth_put' l i j z hj]; split <;> rfl
  | a64 l =>
    cases c <;> simp only [Arr.set] at h <;> try (cases h; done)
    obtain ⟨z, hz, rfl⟩ := Option.map_eq_some_iff.1 h
    obtain rfl := w64?_some hz
    refine ⟨by simp [Arr.size], fun j hj => ?_⟩
    simp only [Arr.get, nth_put' l i j z hj]; split <;> rfl
  | ai l =>
    cases c <;> simp only [Arr.set] at h <;> try (cases h; done)
    obtain ⟨z, hz, rfl⟩ := Option.map_eq_some_iff.1 h
    obtain rfl := i?_some hz
    refine ⟨by simp [Arr.size, puti], fun j hj => ?_⟩
    simp only [Arr.size] at hj
    simp only [Arr.get, geti, puti, List.getD_eq_getElem?_getD, List.getElem?_set]
    by_cases e : i = j
    · subst e; simp [hj]
    · rw [if_neg e, if_neg (fun h => e h.symm)]
  | ac l =>
    simp only [Arr.set, Option.some.injEq] at h
    subst h
    refine ⟨by simp [Arr.size, putc], fun j hj => ?_⟩
    simp only [Arr.size] at hj
    simp only [Arr.get, getc, putc, List.getD_eq_getElem?_getD, List.getElem?_set]
    by_cases e : i = j
    · subst e; simp [hj]
    · rw [if_neg e, if_neg (fun h => e h.symm)]
  | ab l =>
    cases c <;> simp only [Arr.set] at h <;> try (cases h; done)
    cases h
    refine ⟨by simp [Arr.size], fun j hj => ?_⟩
    simp only [Arr.size] at hj
    simp only [Arr.get, getb, List.getD_eq_getElem?_getD, List.getElem?_set]
    by_cases e : i = j
    · subst e; simp [hj]
    · rw [if_neg e, if_neg (fun h => e h.symm)]
  | bl l =>
    cases c <;> simp only [Arr.set] at h <;> try (cases h; done)
    rename_i v
    cases v <;> simp only at h <;> try (cases h; done)
    cases h
    refine ⟨by simp [Arr.size], fun j hj => ?_⟩
    simp only [Arr.size] at hj
    simp only [Arr.get, gett, List.getD_eq_getElem?_getD, List.getElem?_set]
    by_cases e : i = j
    · subst e; simp [hj]
    · rw [if_neg e, if_neg (fun h => e h.symm)]
  | an l => cases c <;> simp [Arr.set] at h
  | al l => cases c <;> simp [Arr.set] at h
  | mp es => cases c <;> simp [Arr.set] at h
theorem cut_get {α : Type} (l : List α) (o n i : Nat) (d : α) (hi : i < n) : (cut l o n).getD i d = l.getD (o + i) d := by
  simp only [cut, List.getD_eq_getElem?_getD, List.getElem?_take, hi, if_true, List.getElem?_drop]
theorem Arr.win_size (x : Arr) (o n : Nat) : (x.win o n).size = min n (x.size - o) := by cases x <;> simp [Arr.win, Arr.size, cut]
theorem Arr.win_get' (x : Arr) (o n i : Nat) (hi : i < n) (hs : o + i < x.size) : (x.win o n).get i = x.get (o + i) := by
  cases x with
  | an l =>
    simp only [Arr.size] at hs
    have h : i < min n (3 * l.length - o) := by omega
    simp only [Arr.win, Arr.get, getc, List.getD_eq_getElem?_getD, List.getElem?_map, List.getElem?_range h, Option.map_some, Option.getD_some]
  | mp es => simp [Arr.size] at hs
  | _ => simp only [Arr.win, Arr.get, nth, geti, getc, getb, gett, getl, cut_get _ _ _ _ _ hi]
theorem over_get {α : Type} (l m : List α) (o j : Nat) (d : α) (h : o + m.length ≤ l.length) : (over l o m).getD j d = if o ≤ j ∧ j < o + m.length then m.getD (j - o) d else l.getD j d := by
  simp only [over, List.getD_eq_getElem?_getD]
  by_cases h1 : j < o
  · rw [if_neg (by omega), List.append_assoc, List.getElem?_append_left (by simp; omega), List.getElem?_take, if_pos h1]
  · by_cases h2 : j < o + m.length
    · rw [if_pos ⟨by omega, h2⟩, List.getElem?_append_left (by simp; omega), List.getElem?_append_right (by simp; omega)]
      congr 3; simp; omega
    · rw [if_neg (by omega), List.getElem?_append_right (by simp; omega), List.getElem?_drop]
      congr 3; simp; omega
theorem over_length {α : Type} (l m : List α) (o : Nat) (h : o + m.length ≤ l.length) : (over l o m).length = l.length := by simp [over]; omega
theorem Arr.cells_length (x : Arr) : x.cells.length = x.size := by simp [Arr.cells]
theorem Arr.cells_get (x : Arr) (i : Nat) (hi : i < x.size) : x.cells.getD i .any = x.get i := by simp [Arr.cells, hi]
theorem Arr.putW_spec {x y z : Arr} {o : Nat} (h : x.putW o y = some z) (hs : o + y.size ≤ x.size) : z.size = x.size ∧ ∀ j, j < x.size → z.get j = if o ≤ j ∧ j < o + y.size then y.get (j - o) else x.get j := by
  cases x with
  | ac l =>
    simp only [Arr.putW, Option.some.injEq] at h
    subst h
    simp only [Arr.size] at hs
    refine ⟨by simp only [Arr.size]; exact over_length _ _ _ (by rw [Arr.cells_length]; exact hs), fun j hj => ?_⟩
    simp only [Arr.get, getc]
    rw [over_get _ _ _ _ _ (by rw [Arr.cells_length]; exact hs), Arr.cells_length]
    split
    · rename_i hj'
      exact Arr.cells_get y _ (by omega)
    · rfl
  | a8 l =>
    cases y <;> simp only [Arr.putW] at h <;> cases h
    refine ⟨over_length _ _ _ hs, fun j hj => ?_⟩
    simp only [Arr.get, nth, Arr.size]
    rw [over_get _ _ _ _ _ hs]
    split <;> rename_i h <;> simp only [h, if_true, if_false, and_self]
  | a32 l =>
    cases y <;> simp only [Arr.putW] at h <;> cases h
    refine ⟨over_length _ _ _ hs, fun j hj => ?_⟩
    simp only [Arr.get, nth, Arr.size]
    rw [over_get _ _ _ _ _ hs]
    split <;> rename_i h <;> simp only [h, if_true, if_false, and_self]
  | a64 l =>
    cases y <;> simp only [Arr.putW] at h <;> cases h
    refine ⟨over_length _ _ _ hs, fun j hj => ?_⟩
    simp only [Arr.get, nth, Arr.size]
    rw [over_get _ _ _ _ _ hs]
    split <;> rename_i h <;> simp only [h, if_true, if_false, and_self]
  | ai l =>
    cases y <;> simp only [Arr.putW] at h <;> cases h
    refine ⟨over_length _ _ _ hs, fun j hj => ?_⟩
    simp only [Arr.get, geti, Arr.size]
    rw [over_get _ _ _ _ _ hs]
    split <;> rename_i h <;> simp only [h, if_true, if_false, and_self]
  | ab l =>
    cases y <;> simp only [Arr.putW] at h <;> cases h
    refine ⟨over_length _ _ _ hs, fun j hj => ?_⟩
    simp only [Arr.get, getb, Arr.size]
    rw [over_get _ _ _ _ _ hs]
    split <;> rename_i h <;> simp only [h, if_true, if_false, and_self]
  | bl l =>
    cases y <;> simp only [Arr.putW] at h <;> cases h
    refine ⟨over_length _ _ _ hs, fun j hj => ?_⟩
    simp only [Arr.get, gett, Arr.size]
    rw [over_get _ _ _ _ _ hs]
    split <;> rename_i h <;> simp only [h, if_true, if_false, and_self]
  | an l => cases y <;> simp [Arr.putW] at h
  | al l => cases y <;> simp [Arr.putW] at h
  | mp es => cases y <;> simp [Arr.putW] at h
theorem app_getD {α : Type} (l m : List α) (j : Nat) (d : α) : (l ++ m).getD j d = if j < l.length then l.getD j d else m.getD (j - l.length) d := by
  simp only [List.getD_eq_getElem?_getD]
  by_cases h : j < l.length
  · rw [if_pos h, List.getElem?_append_left h]
  · rw [if_neg h, List.getElem?_append_right (by omega)]
theorem Arr.app_spec {x y z : Arr} (h : x.app y = some z) : z.size = x.size + y.size ∧ ∀ j, j < z.size → z.get j = if j < x.size then x.get j else y.get (j - x.size) := by
  unfold Arr.app at h
  split at h
  case h_10 => cases h
  all_goals (cases h)
  case h_7 l x =>
    refine ⟨by simp [Arr.size], fun j hj => ?_⟩
    have hj : j < (l ++ [x]).length := hj
    simp only [List.length_append, List.length_singleton] at hj
    by_cases h1 : j < (Arr.ab l).size
    · rw [if_pos h1]
      have h1 : j < l.length := h1
      simp only [Arr.get, getb, app_getD]
      rw [if_pos h1]
    · rw [if_neg h1]
      have h1 : ¬ j < l.length := h1
      simp only [Arr.get, getb, getc, app_getD]
      rw [if_neg h1, show j - (Arr.ab l).size = 0 by show j - l.length = 0; omega, show j - l.length = 0 by omega]
      rfl
  case h_8 l k n a =>
    refine ⟨by simp [Arr.size]; omega, fun j hj => ?_⟩
    have hj : j < 3 * (l ++ [(⟨k, n, a⟩ : Nd)]).length := hj
    simp only [List.length_append, List.length_singleton] at hj
    by_cases h1 : j < (Arr.an l).size
    · rw [if_pos h1]
      have h1 : j < 3 * l.length := h1
      simp only [Arr.get, getn, app_getD]
      rw [if_pos (by omega)]
    · rw [if_neg h1]
      have h1 : ¬ j < 3 * l.length := h1
      simp only [Arr.get, getn, app_getD]
      rw [if_neg (by omega), show j - (Arr.an l).size = j - 3 * l.length from rfl]
      rcases (by omega : j = 3 * l.length ∨ j = 3 * l.length + 1 ∨ j = 3 * l.length + 2) with e | e | e <;> subst e
      · rw [show 3 * l.length / 3 - l.length = 0 by omega, show 3 * l.length % 3 = 0 by omega, show 3 * l.length - 3 * l.length = 0 by omega]; rfl
      · rw [show (3 * l.length + 1) / 3 - l.length = 0 by omega, show (3 * l.length + 1) % 3 = 1 by omega, show 3 * l.length + 1 - 3 * l.length = 1 by omega]; rfl
      · rw [show (3 * l.length + 2) / 3 - l.length = 0 by omega, show (3 * l.length + 2) % 3 = 2 by omega, show 3 * l.length + 2 - 3 * l.length = 2 by omega]; rfl
  all_goals
    refine ⟨by simp [Arr.size], fun j hj => ?_⟩
    simp only [Arr.get, nth, geti, getc, getb, gett, Arr.size, app_getD]
    split <;> first | rfl | (rename_i h; simp only [h, if_true, if_false])
def Arr.relAt (ι : Emb) (x : Arr) (cs : Array Value) (off : Nat) : Prop := ∀ i, i < x.size → ∃ v, cs[off + i]? = some v ∧ (x.get i).rel ι v
def AV.rel0 (ι : Emb) : AV → Value → Prop
  | .c x, v => x.rel ι v
  | .agg x, v => ∃ cs, v = .agg cs ∧ cs.size = x.size ∧ x.relAt ι cs 0
  | .tup _, _ => False
def AV.rel (ι : Emb) : AV → Value → Prop
  | .tup l, v => ∃ vs : Array Value, v = .tuple vs ∧ vs.size = l.length ∧ ∀ (i : Nat) (x : AV) (u : Value), l[i]? = some x → vs[i]? = some u → x.rel0 ι u
  | x, v => x.rel0 ι v
structure Emb.le (ι ι' : Emb) : Prop where
  f : ∀ b l, ι b = some l → ι' b = some l
  tx : ∀ c o v, ι.tx c o v → ι'.tx c o v
theorem Cell.rel_mono {ι ι' : Emb} (h : ι.le ι') {x : Cell} {v : Value} (hr : x.rel ι v) : x.rel ι' v := by
  cases x with
  | ptr b o => obtain ⟨l, hl, rfl⟩ := hr; exact ⟨l, h.f _ _ hl, rfl⟩
  | sl b o len cap sz =>
    obtain ⟨p, c, rfl, h1, h2, h3⟩ := hr
    refine ⟨p, c, rfl, h1, h2, h3.imp id ?_⟩
    rintro ⟨l, hl, r⟩
    exact ⟨l, h.f _ _ hl, r⟩
  | bs x => exact StayRel.mono h.tx hr
  | is x => exact StayRel.mono h.tx hr
  | qb x k => obtain ⟨c, o, rfl, r⟩ := hr; exact ⟨c, o, rfl, fun i hi => h.tx _ _ _ (r i hi)⟩
  | qi x k => obtain ⟨c, o, rfl, r⟩ := hr; exact ⟨c, o, rfl, fun i hi => h.tx _ _ _ (r i hi)⟩
  | mp b => obtain ⟨l, hl, rfl⟩ := hr; exact ⟨l, h.f _ _ hl, rfl⟩
  | xs b n => obtain ⟨l, hl, rfl⟩ := hr; exact ⟨l, h.f _ _ hl, rfl⟩
  | lb x => exact ⟨StayRel.mono h.tx hr.1, hr.2⟩
  | _ => exact hr
theorem Arr.relAt_mono {ι ι' : Emb} (h : ι.le ι') {x : Arr} {cs : Array Value} {off : Nat} (hr : x.relAt ι cs off) : x.relAt ι' cs off := fun i hi => by
  obtain ⟨v, h1, h2⟩ := hr i hi
  exact ⟨v, h1, Cell.rel_mono h h2⟩
theorem Arr.relAt.mono' {ι ι' : Emb} {x : Arr} {cs : Array Value} {off : Nat} (hr : x.relAt ι cs off) (h : ι.le ι') : x.relAt ι' cs off := Arr.relAt_mono h hr
theorem AV.rel0_mono {ι ι' : Emb} (h : ι.le ι') {x : AV} {v : Value} (hr : x.rel0 ι v) : x.rel0 ι' v := by
  cases x with
  | c x => exact Cell.rel_mono h hr
  | agg x => obtain ⟨cs, rfl, h1, h2⟩ := hr; exact ⟨cs, rfl, h1, Arr.relAt_mono h h2⟩
  | tup l => exact hr.elim
theorem AV.rel_mono {ι ι' : Emb} (h : ι.le ι') {x : AV} {v : Value} (hr : x.rel ι v) : x.rel ι' v := by
  cases x with
  | c x => exact Cell.rel_mono (x := x) h hr
  | agg x => exact AV.rel0_mono (x := .agg x) h hr
  | tup l =>
    obtain ⟨vs, rfl, h1, h2⟩ := hr
    exact ⟨vs, rfl, h1, fun i x u hx hu => AV.rel0_mono h (h2 i x u hx hu)⟩
theorem AV.rel_of0 {ι : Emb} {x : AV} {v : Value} (h : x.rel0 ι v) : x.rel ι v := by
  cases x with
  | tup l => exact h.elim
  | _ => exact h
def EntRel (ι : Emb) (es : List (Value × Leaf)) (ents : Array MapEntry) : Prop := ents.size = es.length ∧ ∀ (i : Nat) (p : Value × Leaf), es[i]? = some p → ∃ e, ents[i]? = some e ∧ e.key = p.1 ∧ p.2.cell.rel ι e.val
theorem EntRel.mono {ι ι' : Emb} {es : List (Value × Leaf)} {ents : Array MapEntry} (h : EntRel ι es ents) (hl : ι.le ι') : EntRel ι' es ents := ⟨h.1, fun i p hp => by
  obtain ⟨e, h1, h2, h3⟩ := h.2 i p hp
  exact ⟨e, h1, h2, Cell.rel_mono hl h3⟩⟩
def Holds (ι : Emb) (w : World) (own : Bool) (x : Arr) (l : Loc) : Prop :=
  match x with
  | .mp es => ∃ ents clock, w.heap[l.c]? = some (.map ents clock) ∧ EntRel ι es ents
  | x => ∃ cs t fr, w.heap[l.c]? = some (.cells cs t fr) ∧ x.size ≤ l.n ∧ x.relAt ι cs l.off ∧ (own = true → fr = (0, 0) ∧ cs.size = l.off + l.n)
theorem Holds.cells {ι : Emb} {w : World} {own : Bool} {x : Arr} {l : Loc} (h : Holds ι w own x l) (hx : x.isMap = false) : ∃ cs t fr, w.heap[l.c]? = some (.cells cs t fr) ∧ x.size ≤ l.n ∧ x.relAt ι cs l.off ∧ (own = true → fr = (0, 0) ∧ cs.size = l.off + l.n) := by
  cases x <;> first | exact h | cases hx
theorem Holds.of {ι : Emb} {w : World} {own : Bool} {x : Arr} {l : Loc} (hx : x.isMap = false) (h : ∃ cs t fr, w.heap[l.c]? = some (.cells cs t fr) ∧ x.size ≤ l.n ∧ x.relAt ι cs l.off ∧ (own = true → fr = (0, 0) ∧ cs.size = l.off + l.n)) : Holds ι w own x l := by
  cases x <;> first | exact h | cases hx
theorem Holds.heap {ι ι' : Emb} {w w' : World} {own : Bool} {x : Arr} {l : Loc} (h : Holds ι w own x l) (he : w'.heap[l.c]? = w.heap[l.c]?) (hl : ι.le ι') : Holds ι' w' own x l := by
  cases x <;> first
    | (obtain ⟨cs, t, fr, h1, h2, h3, h4⟩ := h; exact ⟨cs, t, fr, he.trans h1, h2, Arr.relAt_mono hl h3, h4⟩)
    | (obtain ⟨es, c, h1, h2⟩ := h; exact ⟨es, c, he.trans h1, h2.mono hl⟩)
theorem Holds.mono {ι ι' : Emb} {w : World} {own : Bool} {x : Arr} {l : Loc} (h : Holds ι w own x l) (hl : ι.le ι') : Holds ι' w own x l := h.heap rfl hl
theorem Holds.ro {ι : Emb} {w : World} {own : Bool} {x : Arr} {l : Loc} (h : Holds ι w own x l) : Holds ι w false x l := by
  cases x <;> first
    | (obtain ⟨cs, t, fr, h1, h2, h3, h4⟩ := h; exact ⟨cs, t, fr, h1, h2, h3, fun h => by cases h⟩)
    | exact h
theorem Holds.lt {ι : Emb} {w : World} {own : Bool} {x : Arr} {l : Loc} (h : Holds ι w own x l) : l.c < w.heap.size := by
  cases x <;> first
    | (obtain ⟨cs, t, fr, h1, _⟩ := h; exact (Array.getElem?_eq_some_iff.1 h1).1)
    | (obtain ⟨es, c, h1, _⟩ := h; exact (Array.getElem?_eq_some_iff.1 h1).1)
theorem Emb.le.refl (ι : Emb) : ι.le ι := ⟨fun _ _ h => h, fun _ _ _ h => h⟩
inductive Stays (ι : Emb) : Nat → (Obj → Prop) → Prop
  | tx {c o : Nat} {v : Value} (h : ι.tx c o v) : Stays ι c (fun ob => ∃ cs t fr, ob = .cells cs t fr ∧ cs[o]? = some v)
  | base {c : Nat} {Φ : Obj → Prop} (h : baseObj c = some Φ) : Stays ι c Φ
theorem Stays.mono {ι ι' : Emb} (h : ∀ c o v, ι.tx c o v → ι'.tx c o v) {c : Nat} {Φ : Obj → Prop} (hs : Stays ι c Φ) : Stays ι' c Φ := by
  cases hs with
  | tx k => exact .tx (h _ _ _ k)
  | base k => exact .base k
theorem Stays.cast {ι ι' : Emb} (h : ι.tx = ι'.tx) {c : Nat} {Φ : Obj → Prop} (hs : Stays ι c Φ) : Stays ι' c Φ := hs.mono fun c o v k => by rw [← h]; exact k
theorem Stays.to {ι : Emb} {c : Nat} {Φ : Obj → Prop} (hs : Stays ι c Φ) (ι' : Emb) (h : ι.tx = ι'.tx := by rfl) : Stays ι' c Φ := hs.cast h
structure R (ι : Emb) (M : Mem) (w : World) : Prop where
  dom : ∀ b, M.length ≤ b → ι b = none
  rows : ∀ b l own x, ι b = some l → M[b]? = some (.row own x) → Holds ι w own x l
  inj : ∀ b b' l l' own own' x x', b ≠ b' → ι b = some l → ι b' = some l' → M[b]? = some (.row own x) → M[b']? = some (.row own' x') → (own = true ∨ own' = true) → l.c ≠ l'.c
  stay : ∀ c Φ, Stays ι c Φ → (∃ ob, w.heap[c]? = some ob ∧ Φ ob) ∧ ∀ b l x, ι b = some l → M[b]? = some (.row true x) → l.c ≠ c
theorem R.txt {ι : Emb} {M : Mem} {w : World} (h : R ι M w) (c o : Nat) (v : Value) (hc : ι.tx c o v) : (∃ cs t fr, w.heap[c]? = some (.cells cs t fr) ∧ cs[o]? = some v) ∧ ∀ b l x, ι b = some l → M[b]? = some (.row true x) → l.c ≠ c := by
  obtain ⟨⟨_, h1, cs, t, fr, rfl, h2⟩, h3⟩ := h.stay c _ (.tx hc)
  exact ⟨⟨cs, t, fr, h1, h2⟩, h3⟩
theorem R.cells {ι : Emb} {M : Mem} {w : World} (h : R ι M w) {b : Nat} {l : Loc} {own : Bool} {x : Arr} (hb : ι b = some l) (hm : M[b]? = some (.row own x)) (hx : x.isMap = false) : ∃ cs t fr, w.heap[l.c]? = some (.cells cs t fr) ∧ x.size ≤ l.n ∧ x.relAt ι cs l.off ∧ (own = true → fr = (0, 0) ∧ cs.size = l.off + l.n) := (h.rows b l own x hb hm).cells hx
def Owned (ι : Emb) (M : Mem) (c : Nat) : Prop := ∃ b l x, ι b = some l ∧ M[b]? = some (.row true x) ∧ l.c = c
structure Trans (ι : Emb) (M : Mem) (w : World) (ι' : Emb) (M' : Mem) (w' : World) : Prop where
  os : w'.os = w.os
  tape : w'.tape = w.tape
  output : w'.output = w.output
  size : w.heap.size ≤ w'.heap.size
  keep : ∀ c, c < w.heap.size → ¬ Owned ι M c → w'.heap[c]? = w.heap[c]?
  fresh : ∀ c, Owned ι' M' c → w.heap.size ≤ c ∨ Owned ι M c
theorem Trans.refl (ι : Emb) (M : Mem) (w : World) : Trans ι M w ι M w := ⟨rfl, rfl, rfl, Nat.le_refl _, fun _ _ _ => rfl, fun _ h => .inr h⟩
theorem Trans.trans {ι ι1 ι2 : Emb} {M M1 M2 : Mem} {w w1 w2 : World} (h : Trans ι M w ι1 M1 w1) (k : Trans ι1 M1 w1 ι2 M2 w2) : Trans ι M w ι2 M2 w2 := by
  refine ⟨k.os.trans h.os, k.tape.trans h.tape, k.output.trans h.output, Nat.le_trans h.size k.size, fun c hc hn => ?_, fun c ho => ?_⟩
  · rw [k.keep c (Nat.lt_of_lt_of_le hc h.size) (fun ho => ?_), h.keep c hc hn]
    rcases h.fresh c ho with h1 | h1
    · omega
    · exact hn h1
  · rcases k.fresh c ho with h1 | h1
    · exact .inl (Nat.le_trans h.size h1)
    · exact h.fresh c h1
theorem Trans.drewN {ι ι' : Emb} {M M' : Mem} {w w' : World} (h : Trans ι M w ι' M' w') (n : Nat) : Trans ι M w ι' M' (w'.drewN n) := ⟨h.os, h.tape, h.output, h.size, h.keep, h.fresh⟩
theorem R.drewN {ι : Emb} {M : Mem} {w : World} (h : R ι M w) (n : Nat) : R ι M (w.drewN n) := ⟨h.dom, h.rows, h.inj, h.stay⟩
theorem stay_keep {ι ι' : Emb} {M M' : Mem} {w w' : World} (h : R ι M w) (hk : ∀ c, c < w.heap.size → ¬ Owned ι M c → w'.heap[c]? = w.heap[c]?) (hf : ∀ c, Owned ι' M' c → w.heap.size ≤ c ∨ Owned ι M c) (c : Nat) (Φ : Obj → Prop) (hc : Stays ι c Φ) :
    (∃ ob, w'.heap[c]? = some ob ∧ Φ ob) ∧ ∀ b l x, ι' b = some l → M'[b]? = some (.row true x) → l.c ≠ c := by
  obtain ⟨⟨ob, h1, h2⟩, h4⟩ := h.stay c Φ hc
  have h3 : ¬ Owned ι M c := fun ⟨b, l, x, hb, hm, e⟩ => h4 b l x hb hm e
  have hlt : c < w.heap.size := (Array.getElem?_eq_some_iff.1 h1).1
  refine ⟨⟨ob, by rw [hk c hlt h3]; exact h1, h2⟩, fun b l x hb hm e => ?_⟩
  rcases hf c ⟨b, l, x, hb, hm, e⟩ with h4 | h4
  · omega
  · exact h3 h4
theorem R.lt {ι : Emb} {M : Mem} {w : World} (h : R ι M w) {b : Nat} {l : Loc} {own : Bool} {x : Arr} (hb : ι b = some l) (hm : M[b]? = some (.row own x)) : l.c < w.heap.size := by
  exact (h.rows b l own x hb hm).lt
theorem R.size {ι : Emb} {M : Mem} {w : World} (h : R ι M w) {b : Nat} {l : Loc} {own : Bool} {x : Arr} (hb : ι b = some l) (hm : M[b]? = some (.row own x)) : x.size ≤ l.n := by
  by_cases hx : x.isMap = false
  · obtain ⟨cs, t, fr, _, hh, _⟩ := h.cells hb hm hx
    exact hh
  · cases x <;> first | (exact absurd rfl hx) | exact Nat.zero_le _
end Go.Proofs.YtmbepikkgkcgkaaGreatDoor
namespace Go.Proofs.YtmbepikkgkcgkaaGreatDoor
open Go.RowKit
structure Step (k : Nat) (ι : Emb) (M : Mem) (w : World) (ι' : Emb) (M' : Mem) (w' : World) : Prop where
  r : R ι' M' w'
  trans : Trans ι M w ι' M' w'
  tx : ∀ c o v, ι.tx c o v → ι'.tx c o v
  txn : ∀ c o v, ι'.tx c o v → ι.tx c o v ∨ w.heap.size ≤ c ∨ Owned ι M c
  ext : ∀ b, b < k → ι' b = ι b
  len : k ≤ M'.length
  ro : ∀ b x, b < k → M[b]? = some (.row false x) → M'[b]? = some (.row false x)
  old : ∀ b own x, b < k → M'[b]? = some (.row own x) → ∃ x0, M[b]? = some (.row own x0)
  news : ∀ b l own x, k ≤ b → ι' b = some l → M'[b]? = some (.row own x) → w.heap.size ≤ l.c ∨ Owned ι M l.c ∨ ∃ b0 l0 o0 x0, k ≤ b0 ∧ ι b0 = some l0 ∧ M[b0]? = some (.row o0 x0) ∧ l0.c = l.c
theorem Step.make {k : Nat} {ι ι' : Emb} {M M' : Mem} {w w' : World} (h : R ι M w) (dom : ∀ b, M'.length ≤ b → ι' b = none) (rows : ∀ b l own x, ι' b = some l → M'[b]? = some (.row own x) → Holds ι' w' own x l)
    (inj : ∀ b b' l l' own own' x x', b ≠ b' → ι' b = some l → ι' b' = some l' → M'[b]? = some (.row own x) → M'[b']? = some (.row own' x') → (own = true ∨ own' = true) → l.c ≠ l'.c) (trans : Trans ι M w ι' M' w') (tx : ι'.tx = ι.tx)
    (ext : ∀ b, b < k → ι' b = ι b) (len : k ≤ M'.length) (ro : ∀ b x, b < k → M[b]? = some (.row false x) → M'[b]? = some (.row false x)) (old : ∀ b own x, b < k → M'[b]? = some (.row own x) → ∃ x0, M[b]? = some (.row own x0))
    (news : ∀ b l own x, k ≤ b → ι' b = some l → M'[b]? = some (.row own x) → w.heap.size ≤ l.c ∨ Owned ι M l.c ∨ ∃ b0 l0 o0 x0, k ≤ b0 ∧ ι b0 = some l0 ∧ M[b0]? = some (.row o0 x0) ∧ l0.c = l.c) : Step k ι M w ι' M' w' :=
  ⟨⟨dom, rows, inj, fun c Φ hc => stay_keep h trans.keep trans.fresh c Φ (hc.cast tx)⟩, trans, fun c o v hc => by rw [tx]; exact hc, fun c o v hc => .inl (by rw [← tx]; exact hc), ext, len, ro, old, news⟩
theorem Step.stayn {k : Nat} {ι ι' : Emb} {M M' : Mem} {w w' : World} (h : Step k ι M w ι' M' w') {c : Nat} {Φ : Obj → Prop} (hc : Stays ι' c Φ) : Stays ι c Φ ∨ w.heap.size ≤ c ∨ Owned ι M c := by
  cases hc with
  | tx k => exact (h.txn _ _ _ k).imp .tx id
  | base k => exact .inl (.base k)
theorem Step.refl {k : Nat} {ι : Emb} {M : Mem} {w : World} (h : R ι M w) (hk : k ≤ M.length) : Step k ι M w ι M w :=
  ⟨h, Trans.refl _ _ _, fun _ _ _ h => h, fun _ _ _ h => .inl h, fun _ _ => rfl, hk, fun _ _ _ h => h, fun _ _ x _ h => ⟨x, h⟩, fun b l own x hb h1 h2 => .inr (.inr ⟨b, l, own, x, hb, h1, h2, rfl⟩)⟩
theorem Step.comp {k : Nat} {ι ι1 ι2 : Emb} {M M1 M2 : Mem} {w w1 w2 : World} (h : Step k ι M w ι1 M1 w1) (g : Step k ι1 M1 w1 ι2 M2 w2) : Step k ι M w ι2 M2 w2 := by
  refine ⟨g.r, h.trans.trans g.trans, fun c o v hc => g.tx c o v (h.tx c o v hc), fun c o v hc => ?_, fun b hb => (g.ext b hb).trans (h.ext b hb), g.len, fun b x hb hm => g.ro b x hb (h.ro b x hb hm), fun b own x hb hm => ?_, fun b l own x hb h1 h2 => ?_⟩
  · rcases g.txn c o v hc with h1 | h1 | h1
    · exact h.txn c o v h1
    · exact .inr (.inl (Nat.le_trans h.trans.size h1))
    · rcases h.trans.fresh c h1 with h2 | h2
      · exact .inr (.inl h2)
      · exact .inr (.inr h2)
  · obtain ⟨x1, hx1⟩ := g.old b own x hb hm
    exact h.old b own x1 hb hx1
  · rcases g.news b l own x hb h1 h2 with h3 | h3 | ⟨b0, l0, o0, x0, hb0, h4, h5, h6⟩
    · exact .inl (Nat.le_trans h.trans.size h3)
    · rcases h.trans.fresh _ h3 with h4 | h4
      · exact .inl h4
      · exact .inr (.inl h4)
    · rw [← h6]
      exact h.news b0 l0 o0 x0 hb0 h4 h5
theorem Step.low {k k' : Nat} {ι ι1 : Emb} {M M1 : Mem} {w w1 : World} (h : Step k ι M w ι1 M1 w1) (hk : k' ≤ k) : Step k' ι M w ι1 M1 w1 := by
  refine ⟨h.r, h.trans, h.tx, h.txn, fun b hb => h.ext b (Nat.lt_of_lt_of_le hb hk), Nat.le_trans hk h.len, fun b x hb hm => h.ro b x (Nat.lt_of_lt_of_le hb hk) hm, fun b own x hb hm => h.old b own x (Nat.lt_of_lt_of_le hb hk) hm, fun b l own x hb h1 h2 => ?_⟩
  by_cases hbk : b < k
  · obtain ⟨x0, hx0⟩ := h.old b own x hbk h2
    exact .inr (.inr ⟨b, l, own, x0, hb, by rw [← h.ext b hbk]; exact h1, hx0, rfl⟩)
  · rcases h.news b l own x (by omega) h1 h2 with h3 | h3 | ⟨b0, l0, o0, x0, hb0, r⟩
    · exact .inl h3
    · exact .inr (.inl h3)
    · exact .inr (.inr ⟨b0, l0, o0, x0, Nat.le_trans hk hb0, r⟩)
theorem no_row {M : Mem} {b : Nat} {own : Bool} {x : Arr} (hb : M.length ≤ b) (h : M[b]? = some (.row own x)) : False := by
  rw [List.getElem?_eq_none hb] at h; cases h
theorem Step.le {ι ι1 : Emb} {M M1 : Mem} {w w1 : World} (h : Step M.length ι M w ι1 M1 w1) (hr : R ι M w) : ι.le ι1 := by
  refine ⟨fun b l hb => ?_, h.tx⟩
  by_cases hk : b < M.length
  · rw [h.ext b hk]; exact hb
  · rw [hr.dom b (by omega)] at hb; cases hb
def all? {α : Type} (f : Value → Option α) : List Value → Option (List α)
  | [] => some []
  | v :: l => match f v, all? f l with | some x, some m => some (x :: m) | _, _ => none
theorem all?_spec {α : Type} {f : Value → Option α} : ∀ {l : List Value} {m : List α}, all? f l = some m → l.length = m.length ∧ ∀ (i : Nat) (v : Value), l[i]? = some v → ∃ x, m[i]? = some x ∧ f v = some x
  | [], m, h => by simp only [all?, Option.some.injEq] at h; subst h; exact ⟨rfl, fun i v h => by simp at h⟩
  | u :: l, m, h => by
    unfold all? at h
    split at h
    · rename_i x m' hx hm
      cases h
      obtain ⟨h1, h2⟩ := all?_spec hm
      refine ⟨by simp [h1], fun i v hv => ?_⟩
      cases i with
      | zero => simp at hv; subst hv; exact ⟨x, by simp, hx⟩
      | succ i => simpa using h2 i v (by simpa using hv)
    · cases h
def absCell : Value → Cell
  | .slice none 0 0 => .nsl
  | v => .val v
theorem absCell_rel (ι : Emb) (v : Value) : (absCell v).rel ι v := by
  unfold absCell; split <;> simp [Cell.rel]
def absArr (vs : List Value) : Arr :=
  match all? w8? vs with
  | some l => .a8 l
  | none => match all? w32? vs with
    | some l => .a32 l
    | none => match all? w64? vs with
      | some l => .a64 l
      | none => match all? i? vs with
        | some l => .ai l
        | none => .ac (vs.map absCell)
theorem absArr_rel (ι : Emb) (vs : List Value) : (absArr vs).size = vs.length ∧ ∀ (i : Nat) (v : Value), vs[i]? = some v → ((absArr vs).get i).rel ι v := by
  unfold absArr
  split
  · rename_i l h
    obtain ⟨h1, h2⟩ := all?_spec h
    refine ⟨h1.symm, fun i v hv => ?_⟩
    obtain ⟨x, hx, hf⟩ := h2 i v hv
    simp [Arr.get, Cell.rel, nth, hx, w8?_some hf]
  · split
    · rename_i l h
      obtain ⟨h1, h2⟩ := all?_spec h
      refine ⟨h1.symm, fun i v hv => ?_⟩
      obtain ⟨x, hx, hf⟩ := h2 i v hv
      simp [Arr.get, Cell.rel, nth, hx, w32?_some hf]
    · split
      · rename_i l h
        obtain ⟨h1, h2⟩ := all?_spec h
        refine ⟨h1.symm, fun i v hv => ?_⟩
        obtain ⟨x, hx, hf⟩ := h2 i v hv
        simp [Arr.get, Cell.rel, nth, hx, w64?_some hf]
      · split
        · rename_i l h
          obtain ⟨h1, h2⟩ := all?_spec h
          refine ⟨h1.symm, fun i v hv => ?_⟩
          obtain ⟨x, hx, hf⟩ := h2 i v hv
          simp [Arr.get, Cell.rel, geti, hx, i?_some hf]
        · refine ⟨by simp [Arr.size], fun i v hv => ?_⟩
          simp only [Arr.get, getc, List.getD_eq_getElem?_getD, List.getElem?_map, hv, Option.map_some, Option.getD_some]
          exact absCell_rel ι v
theorem absArr_at (ι : Emb) (cs : Array Value) : (absArr cs.toList).relAt ι cs 0 := fun i hi => by
  have hi' : i < cs.size := by rw [(absArr_rel ι cs.toList).1] at hi; simpa using hi
  exact ⟨cs[i], by simp [hi'], (absArr_rel ι cs.toList).2 i _ (by simp [hi'])⟩
def absV : Value → AV
  | .slice none 0 0 => .c .nsl
  | .agg cs => .agg (absArr cs.toList)
  | v => .c (.val v)
theorem absV_rel (ι : Emb) (v : Value) : (absV v).rel0 ι v := by
  unfold absV; split
  · rfl
  · rename_i cs
    exact ⟨cs, rfl, by rw [(absArr_rel ι cs.toList).1]; simp, absArr_at ι cs⟩
  · rfl
def opnd (t : Nat → AV) : Operand → AV
  | .tmp i => t i
  | .const v => absV v
  | .global _ => .c .any
  | .func f => .c (.val (.func (.func f) #[] #[]))
def isRowT (P : Program) (t : TypeId) : Option Bool :=
  match P.underlying t with
  | some (.array ..) | some (.struct ..) => some true
  | some _ => some false
  | none => none
def szT (P : Program) (t : TypeId) : Option Nat := (P.info? t).map (·.size)
theorem run_isAgg {P : Program} {t : TypeId} {b : Bool} (h : isRowT P t = some b) (w : World) : (isAgg t).run P w = .ok b w := by
  unfold isRowT at h
  cases hu : P.underlying t with
  | none => rw [hu] at h; cases h
  | some d =>
    rw [hu] at h
    simp only [isAgg, Sem.run_bind, run_underlying hu, Result.andThen_ok]
    cases d <;> simp_all
theorem run_sizeT {P : Program} {t : TypeId} {n : Nat} (h : szT P t = some n) (w : World) : (sizeOf t).run P w = .ok n w := by
  unfold szT at h
  obtain ⟨i, hi, rfl⟩ := Option.map_eq_some_iff.1 h
  simp only [sizeOf, typeInfo, Sem.run_bind, run_program, Result.andThen_ok, hi, Sem.run_pure]
theorem addr_at (b o j : Nat) : (⟨b, o, none⟩ : Addr).add j = ⟨b, o + j, none⟩ := Addr.add_mid b o j
def winA (y : Arr) (o n : Nat) : Arr := if o = 0 ∧ n = y.size then y else y.win o n
theorem winA_size {y : Arr} {o n : Nat} (h : o + n ≤ y.size) : (winA y o n).size = n := by
  unfold winA; split
  · rename_i h; exact h.2.symm
  · rw [Arr.win_size]; omega
theorem winA_get {y : Arr} {o n i : Nat} (hi : i < n) (hs : o + n ≤ y.size) : (winA y o n).get i = y.get (o + i) := by
  unfold winA; split
  · rename_i h; rw [h.1, Nat.zero_add]
  · exact Arr.win_get' y o n i hi (by omega)
def partA (P : Program) (t : TypeId) (y : Arr) (o : Nat) : Option AV :=
  match isRowT P t with
  | some true => match szT P t with
    | some n => if 0 < n ∧ o + n ≤ y.size then some (.agg (winA y o n)) else none
    | none => none
  | some false => if o < y.size then some (.c (y.get o)) else none
  | none => none
theorem partA_pos {P : Program} {t : TypeId} {y : Arr} {o : Nat} {v : AV} (h : partA P t y o = some v) : 0 < y.size := by
  unfold partA at h
  split at h
  · split at h
    · split at h
      · omega
      · cases h
    · cases h
  · split at h
    · omega
    · cases h
  · cases h
theorem partA_noMap {P : Program} {t : TypeId} {y : Arr} {o : Nat} {v : AV} (h : partA P t y o = some v) : y.isMap = false := by
  unfold partA at h
  split at h
  · split at h
    · split at h
      · exact Arr.noMap (by omega)
      · cases h
    · cases h
  · split at h
    · exact Arr.noMap (by omega)
    · cases h
  · cases h
theorem partA_read {P : Program} {t : TypeId} {y : Arr} {o : Nat} {v : AV} (h : partA P t y o = some v) {ι : Emb} {cs : Array Value} {off : Nat} (hr : y.relAt ι cs off) :
    (isRowT P t = some true ∧ ∃ n, szT P t = some n ∧ off + o + n ≤ cs.size ∧ v.rel0 ι (.agg (cs.extract (off + o) (off + o + n)))) ∨ (isRowT P t = some false ∧ ∃ u, cs[off + o]? = some u ∧ v.rel0 ι u) := by
  unfold partA at h
  split at h
  · rename_i hrow
    split at h
    · rename_i n hn
      split at h
      · rename_i hle
        cases h
        have hsz : off + o + n ≤ cs.size := by
          obtain ⟨u, hu, _⟩ := hr (o + n - 1) (by omega)
          have := (Array.getElem?_eq_some_iff.1 hu).1
          omega
        refine .inl ⟨hrow, n, hn, hsz, _, rfl, ?_, fun i hi => ?_⟩
        · rw [winA_size hle.2]; simp; omega
        · rw [winA_size hle.2] at hi
          obtain ⟨u, hu, hru⟩ := hr (o + i) (by omega)
          refine ⟨u, ?_, by rw [winA_get hi hle.2]; exact hru⟩
          rw [Nat.zero_add, Array.getElem?_extract, if_pos (by omega), ← hu, Nat.add_assoc]
      · cases h
    · cases h
  · rename_i hrow
    split at h
    · rename_i hlt
      cases h
      obtain ⟨u, hu, hru⟩ := hr o hlt
      exact .inr ⟨hrow, u, hu, hru⟩
    · cases h
  · cases h
theorem run_part {P : Program} {t : TypeId} {y : Arr} {o : Nat} {v : AV} (h : partA P t y o = some v) {ι : Emb} {cs : Array Value} (hr : y.relAt ι cs 0) (w : World) :
    ∃ u, (part t cs o).run P w = .ok u w ∧ v.rel0 ι u := by
  rcases partA_read h hr with ⟨hrow, n, hn, _, hv⟩ | ⟨hrow, u, hu, hv⟩
  · refine ⟨_, ?_, hv⟩
    simp only [part, Sem.run_bind, run_isAgg hrow, Result.andThen_ok, if_true, run_sizeT hn, Sem.run_pure, Nat.zero_add]
  · refine ⟨u, ?_, hv⟩
    rw [Nat.zero_add] at hu
    simp [part, run_isAgg hrow, hu]
theorem cell_of {w : World} {c : Nat} {cs : Array Value} {t : TypeId} {fr : Nat × Nat} (h : w.heap[c]? = some (.cells cs t fr)) (i : Nat) : w.cell? ⟨c, i, none⟩ = cs[i]? := by
  simp [World.cell?, h]
theorem run_loadPart {P : Program} {t : TypeId} {y : Arr} {o : Nat} {v : AV} (h : partA P t y o = some v) {ι : Emb} {w : World} {c : Nat} {cs : Array Value} {t' : TypeId} {fr : Nat × Nat} {off : Nat}
    (hc : w.heap[c]? = some (.cells cs t' fr)) (hr : y.relAt ι cs off) : ∃ u, (loadVar t ⟨c, off + o, none⟩).run P w = .ok u w ∧ v.rel0 ι u := by
  rcases partA_read h hr with ⟨hrow, n, hn, hle, hv⟩ | ⟨hrow, u, hu, hv⟩
  · refine ⟨_, ?_, hv⟩
    have hl := run_loadCells_list (P := P) w ⟨c, off + o, none⟩ (cs.extract (off + o) (off + o + n)).toList (by
      intro j x hx
      rw [addr_at, cell_of hc]
      rw [Array.getElem?_toList, Array.getElem?_extract] at hx
      split at hx
      · exact hx
      · cases hx)
    have e : (cs.extract (off + o) (off + o + n)).toList.length = n := by simp; omega
    rw [e] at hl
    simp only [loadVar, Sem.run_bind, run_isAgg hrow, Result.andThen_ok, if_true, run_sizeT hn, hl, Sem.run_pure]
  · refine ⟨u, ?_, hv⟩
    have : w.cell? ⟨c, off + o, none⟩ = some u := by rw [cell_of hc]; exact hu
    simp [loadVar, run_isAgg hrow, load, Sem.run, this]
end Go.Proofs.YtmbepikkgkcgkaaGreatDoor
namespace Go.Proofs.YtmbepikkgkcgkaaGreatDoor
open Go.RowKit
def Arr.alike : Arr → Arr → Option Bool
  | .a8 l, .a8 m => some (decide (l = m))
  | .a32 l, .a32 m => some (decide (l = m))
  | .a64 l, .a64 m => some (decide (l = m))
  | .ai l, .ai m => some (decide (l = m))
  | _, _ => none
def eqArr (P : Program) (t : TypeId) (x y : Arr) : Option Bool :=
  match P.underlying t with
  | some (.array n e) => match P.underlying e, P.info? e with
    | some (.int _), some _ => if P.cellsOf e = 1 ∧ P.eqGuardType P.depth t = false ∧ x.size = n ∧ y.size = n then x.alike y else none
    | _, _ => none
  | _ => none
theorem run_items {P : Program} (w : World) (d : Nat) {e : TypeId} {k : IntKind} (he : P.underlying e = some (.int k)) (h1 : P.cellsOf e = 1) (xs ys : Array Value) {q : IntKind} (f g : Nat → Int) (n : Nat)
    (hx : ∀ i, i < n → xs[i]? = some (.int q (f i))) (hy : ∀ i, i < n → ys[i]? = some (.int q (g i))) : ∀ is : List Nat, (∀ i ∈ is, i < n) →
    (Op.eqItems (d + 1) e (P.cellsOf e) xs ys is).run P w = .ok (is.all fun i => f i == g i) w
  | [], _ => by simp [Op.eqItems]
  | i :: is, hi => by
    have ha := hx i (hi i (by simp))
    have hb := hy i (hi i (by simp))
    have pk : P.plainKey e = true := by simp [Program.plainKey, he]
    have pa := run_part_plain (P := P) w pk (xs := xs) (off := i * P.cellsOf e) (v := .int q (f i)) (by rw [h1, Nat.mul_one]; exact ha)
    have pb := run_part_plain (P := P) w pk (xs := ys) (off := i * P.cellsOf e) (v := .int q (g i)) (by rw [h1, Nat.mul_one]; exact hb)
    have pc : (Op.equalIn (d + 1) e (.int q (f i)) (.int q (g i))).run P w = .ok (f i == g i) w := by
      simp [Op.equalIn, run_underlying he]
    have ih := run_items w d he h1 xs ys f g n hx hy is fun j hj => hi j (by simp [hj])
    simp only [Op.eqItems, Sem.run_bind, pa, pb, pc, Result.andThen_ok, List.all_cons]
    cases hfg : (f i == g i)
    · simp
    · simpa using ih
theorem run_equal_items {P : Program} (w : World) {t e : TypeId} {n : Nat} {i : TypeInfo} {k : IntKind} (hu : P.underlying t = some (.array n e)) (he : P.underlying e = some (.int k)) (hi : P.info? e = some i) (h1 : P.cellsOf e = 1)
    (xs ys : Array Value) {q : IntKind} (f g : Nat → Int) (hx : ∀ i, i < n → xs[i]? = some (.int q (f i))) (hy : ∀ i, i < n → ys[i]? = some (.int q (g i))) :
    (Op.equal t (.agg xs) (.agg ys)).run P w = .ok ((List.range n).all fun i => f i == g i) w := by
  unfold Op.equal Op.maxDepth
  rw [run_equalIn_array w 9999 xs ys hu hi]
  exact run_items w 9998 he h1 xs ys f g n hx hy _ fun i hi => List.mem_range.1 hi
theorem all_alike {α : Type} [DecidableEq α] {l m : List α} {n : Nat} (hl : l.length = n) (hm : m.length = n) (f : Nat → Int) (g : Nat → Int) (h : ∀ i, i < n → (f i = g i ↔ l[i]? = m[i]?)) :
    ((List.range n).all fun i => f i == g i) = decide (l = m) := by
  rw [Bool.eq_iff_iff]
  simp only [List.all_eq_true, List.mem_range, beq_iff_eq, decide_eq_true_eq]
  constructor
  · intro hh
    apply List.ext_getElem?
    intro i
    by_cases hi : i < n
    · exact (h i hi).1 (hh i hi)
    · rw [List.getElem?_eq_none (by omega), List.getElem?_eq_none (by omega)]
  · rintro rfl i hi
    exact (h i hi).2 rfl
theorem nth_alike {α : Type} [Inhabited α] {w : Nat} (l m : List (BitVec w)) {i : Nat} (hl : i < l.length) (hm : i < m.length) : ((nth l i).toNat : Int) = (nth m i).toNat ↔ l[i]? = m[i]? := by
  rw [List.getElem?_eq_getElem hl, List.getElem?_eq_getElem hm]
  simp only [nth, List.getD_eq_getElem?_getD, List.getElem?_eq_getElem hl, List.getElem?_eq_getElem hm, Option.getD_some, Option.some.injEq]
  constructor
  · intro h; exact BitVec.eq_of_toNat_eq (by exact_mod_cast h)
  · intro h; rw [h]
theorem run_eqArr {P : Program} {t : TypeId} {x y : Arr} {r : Bool} (h : eqArr P t x y = some r) {ι : Emb} {xs ys : Array Value} (hx : x.relAt ι xs 0) (hy : y.relAt ι ys 0) (w : World) :
    (Op.equal t (.agg xs) (.agg ys)).run P w = .ok r w ∧ P.eqGuardType P.depth t = false := by
  unfold eqArr at h
  split at h
  · rename_i n e hu
    split at h
    · rename_i k i he hi
      split at h
      · rename_i hc
        obtain ⟨h1, hg, sx, sy⟩ := hc
        refine ⟨?_, hg⟩
        have key : ∀ (q : IntKind) (f g : Nat → Int), (∀ i, i < n → x.get i = .val (.int q (f i))) → (∀ i, i < n → y.get i = .val (.int q (g i))) →
            (Op.equal t (.agg xs) (.agg ys)).run P w = .ok ((List.range n).all fun i => f i == g i) w := by
          intro q f g hf hg'
          refine run_equal_items w hu he hi h1 xs ys f g (q := q) ?_ ?_
          · intro i hi
            obtain ⟨v, h2, h3⟩ := hx i (by omega)
            rw [hf i hi] at h3
            rw [Nat.zero_add] at h2
            rw [h2]; exact congrArg some h3
          · intro i hi
            obtain ⟨v, h2, h3⟩ := hy i (by omega)
            rw [hg' i hi] at h3
            rw [Nat.zero_add] at h2
            rw [h2]; exact congrArg some h3
        unfold Arr.alike at h
        split at h
        · cases h
          rename_i l m
          rw [key .u8 (fun i => (nth l i).toNat) (fun i => (nth m i).toNat) (fun i _ => rfl) (fun i _ => rfl)]
          rw [all_alike sx sy _ _ fun i hi => nth_alike (α := Nat) l m (by simp only [Arr.size] at sx; omega) (by simp only [Arr.size] at sy; omega)]
        · cases h
          rename_i l m
          rw [key .u32 (fun i => (nth l i).toNat) (fun i => (nth m i).toNat) (fun i _ => rfl) (fun i _ => rfl)]
          rw [all_alike sx sy _ _ fun i hi => nth_alike (α := Nat) l m (by simp only [Arr.size] at sx; omega) (by simp only [Arr.size] at sy; omega)]
        · cases h
          rename_i l m
          rw [key .u64 (fun i => (nth l i).toNat) (fun i => (nth m i).toNat) (fun i _ => rfl) (fun i _ => rfl)]
          rw [all_alike sx sy _ _ fun i hi => nth_alike (α := Nat) l m (by simp only [Arr.size] at sx; omega) (by simp only [Arr.size] at sy; omega)]
        · cases h
          rename_i l m
          rw [key .i64 (fun i => geti l i) (fun i => geti m i) (fun i _ => rfl) (fun i _ => rfl)]
          rw [all_alike sx sy _ _ fun i hi => by
            have a : i < l.length := by simp only [Arr.size] at sx; omega
            have b : i < m.length := by simp only [Arr.size] at sy; omega
            simp only [geti, List.getD_eq_getElem?_getD, List.getElem?_eq_getElem a, List.getElem?_eq_getElem b, Option.getD_some, Option.some.injEq]]
        · cases h
      · cases h
    · cases h
  · cases h
end Go.Proofs.YtmbepikkgkcgkaaGreatDoor
namespace Go.Proofs.YtmbepikkgkcgkaaGreatDoor
open Go.RowKit
def pureOf {α : Type} : Sem α → Option α
  | .pure a => some a
  | _ => none
theorem pureOf_run {α : Type} {s : Sem α} {a : α} (h : pureOf s = some a) (P : Program) (w : World) : s.run P w = .ok a w := by
  cases s <;> simp only [pureOf] at h <;> cases h
  rfl
@[simp] theorem pureOf_pure {α : Type} (a : α) : pureOf (Pure.pure a : Sem α) = some a := rfl
def intOf? : AV → Option Int
  | .c (.val (.int _ n)) => some n
  | _ => none
def bin (op : BinOp) (t : TypeId) (x y : Operand) (a b : Value) : Sem Value := do eqGuard op t x y a b; binOp op t a b
def isBoolT (P : Program) (t : TypeId) : Bool := match P.underlying t with | some .bool => true | _ => false
def isSliceT (P : Program) (t : TypeId) : Bool := match P.underlying t with | some (.slice _) => true | _ => false
def nilness : AV → Option Bool
  | .c .nsl => some true
  | .c (.sl _ _ len _ _) => if 0 < len then some false else none
  | _ => none
def evBin (P : Program) (op : BinOp) (t : TypeId) (x y : Operand) : AV → AV → Option AV
  | .c (.val a), .c (.val b) =>
    match op, a, b with
    | .eql, .bool p, .bool q => if isBoolT P t then some (.c (.val (.bool (p == q)))) else none
    | .neq, .bool p, .bool q => if isBoolT P t then some (.c (.val (.bool (!(p == q))))) else none
    | op, a, b => (pureOf (bin op t x y a b)).map fun v => .c (.val v)
  | a, .c .nsl =>
    match op, isSliceT P t, nilness a with
    | .eql, true, some r => some (.c (.val (.bool r)))
    | .neq, true, some r => some (.c (.val (.bool (!r))))
    | _, _, _ => none
  | .agg a, .agg b =>
    match op, eqArr P t a b with
    | .eql, some r => some (.c (.val (.bool r)))
    | .neq, some r => some (.c (.val (.bool (!r))))
    | _, _ => none
  | _, _ => none
theorem run_equal_slice {P : Program} {t : TypeId} {e : TypeId} (hu : P.underlying t = some (.slice e)) (p : Option Addr) (n c : Nat) (w : World) : (Op.equal t (.slice p n c) (.slice none 0 0)).run P w = .ok p.isNone w := by
  unfold Op.equal Op.maxDepth Op.equalIn
  simp only [Sem.run_bind, run_underlying hu, Result.andThen_ok]
  cases p <;> rfl
theorem run_equal_bool {P : Program} {t : TypeId} (hu : P.underlying t = some .bool) (p q : Bool) (w : World) : (Op.equal t (.bool p) (.bool q)).run P w = .ok (p == q) w := by
  unfold Op.equal Op.maxDepth Op.equalIn
  simp only [Sem.run_bind, run_underlying hu, Result.andThen_ok]
  rfl
theorem evBin_sound {P : Program} {op : BinOp} {t : TypeId} {x y : Operand} {a b v : AV} (h : evBin P op t x y a b = some v) {ι : Emb} {p q : Value} (ha : a.rel ι p) (hb : b.rel ι q) (w : World) :
    ∃ u, (do eqGuard op t x y p q; binOp op t p q : Sem Value).run P w = .ok u w ∧ v.rel ι u := by
  unfold evBin at h
  split at h
  · rename_i a' b'
    obtain rfl : p = a' := ha
    obtain rfl : q = b' := hb
    split at h
    · rename_i hop
      split at h
      · rename_i hb'
        cases h
        unfold isBoolT at hb'
        split at hb'
        · rename_i hu
          refine ⟨_, ?_, rfl⟩
          first
            | (show (do pure (Value.bool (← Op.equal t (.bool _) (.bool _))) : Sem Value).run P w = _
               simp [run_equal_bool hu])
            | (show (do pure (Value.bool (!(← Op.equal t (.bool _) (.bool _)))) : Sem Value).run P w = _
               simp [run_equal_bool hu])
        · cases hb'
      · cases h
    · rename_i hop
      split at h
      · rename_i hb'
        cases h
        unfold isBoolT at hb'
        split at hb'
        · rename_i hu
          refine ⟨_, ?_, rfl⟩
          first
            | (show (do pure (Value.bool (← Op.equal t (.bool _) (.bool _))) : Sem Value).run P w = _
               simp [run_equal_bool hu])
            | (show (do pure (Value.bool (!(← Op.equal t (.bool _) (.bool _)))) : Sem Value).run P w = _
               simp [run_equal_bool hu])
        · cases hb'
      · cases h
    · obtain ⟨u, hu, rfl⟩ := Option.map_eq_some_iff.1 h
      exact ⟨u, pureOf_run hu P w, rfl⟩
  · obtain rfl : q = .slice none 0 0 := hb
    have main : ∀ r, nilness a = some r → ∃ pp n c, p = .slice pp n c ∧ pp.isNone = r := by
      intro r hr
      unfold nilness at hr
      split at hr
      · cases hr; exact ⟨none, 0, 0, ha, rfl⟩
      · split at hr
        · rename_i b o len cap sz hlen
          cases hr
          obtain ⟨pp, c, rfl, h1, h2, h3⟩ := ha
          rcases h3 with h3 | ⟨l, _, rfl, _⟩
          · omega
          · exact ⟨_, _, _, rfl, rfl⟩
        · cases hr
      · cases hr
    split at h
    · rename_i r hs hn
      cases h
      obtain ⟨pp, n, c, rfl, rfl⟩ := main _ hn
      unfold isSliceT at hs
      split at hs
      · rename_i e hu
        refine ⟨_, ?_, rfl⟩
        first
          | (show (do pure (Value.bool (← Op.equal t (.slice _ _ _) (.slice none 0 0))) : Sem Value).run P w = _
             simp [run_equal_slice hu])
          | (show (do pure (Value.bool (!(← Op.equal t (.slice _ _ _) (.slice none 0 0)))) : Sem Value).run P w = _
             simp [run_equal_slice hu])
      · cases hs
    · rename_i r hs hn
      cases h
      obtain ⟨pp, n, c, rfl, rfl⟩ := main _ hn
      unfold isSliceT at hs
      split at hs
      · rename_i e hu
        refine ⟨_, ?_, rfl⟩
        first
          | (show (do pure (Value.bool (← Op.equal t (.slice _ _ _) (.slice none 0 0))) : Sem Value).run P w = _
             simp [run_equal_slice hu])
          | (show (do pure (Value.bool (!(← Op.equal t (.slice _ _ _) (.slice none 0 0)))) : Sem Value).run P w = _
             simp [run_equal_slice hu])
      · cases hs
    · cases h
  · rename_i a' b'
    obtain ⟨xs, rfl, _, hx⟩ := ha
    obtain ⟨ys, rfl, _, hy⟩ := hb
    split at h
    · rename_i r hr
      cases h
      obtain ⟨h1, h2⟩ := run_eqArr hr hx hy w
      refine ⟨_, ?_, rfl⟩
      rw [Sem.run_bind, run_eqGuard_agg w .eql t x y xs ys h2, Result.andThen_ok]
      show (do pure (Value.bool (← Op.equal t (.agg xs) (.agg ys))) : Sem Value).run P w = _
      simp [h1]
    · rename_i r hr
      cases h
      obtain ⟨h1, h2⟩ := run_eqArr hr hx hy w
      refine ⟨_, ?_, rfl⟩
      rw [Sem.run_bind, run_eqGuard_agg w .neq t x y xs ys h2, Result.andThen_ok]
      show (do pure (Value.bool (!(← Op.equal t (.agg xs) (.agg ys)))) : Sem Value).run P w = _
      simp [h1]
    · cases h
  · cases h
def evConv (P : Program) (s d : TypeId) : AV → Option AV
  | .c (.val (.int _ n)) => match P.underlying s, P.underlying d with
    | some _, some (.int k) => some (.c (.val (.int k (k.wrap n))))
    | _, _ => none
  | _ => none
def bnd (d : Int) : Option AV → Option Int
  | none => some d
  | some a => intOf? a
def evSlice (P : Program) (M : Mem) (t : TypeId) (x : AV) (lo hi : Option AV) : Option AV :=
  match x, P.underlying t with
  | .c (.ptr b o), some (.array n el) =>
    match szT P el, bnd 0 lo, bnd n hi, M[b]? with
    | some sz, some l, some h, some (.row _ y) => if 0 ≤ l ∧ l ≤ h ∧ h ≤ n ∧ o + n * sz ≤ y.size then some (.c (.sl b (o + l.toNat * sz) (h - l).toNat (n - l.toNat) sz)) else none
    | _, _, _, _ => none
  | .c (.sl b o len cap sz), some (.slice el) =>
    match (bnd 0 lo), (bnd len hi) with
    | some l, some h => if szT P el = some sz ∧ 0 ≤ l ∧ l ≤ h ∧ h ≤ max len cap then some (.c (.sl b (o + l.toNat * sz) (h - l).toNat (cap - l.toNat) sz)) else none
    | _, _ => none
  | .c .nsl, some (.slice el) =>
    match (bnd 0 lo), (bnd 0 hi) with
    | some l, some h => if (szT P el).isSome ∧ l = 0 ∧ h = 0 then some (.c .nsl) else none
    | _, _ => none
  | .c .esl, some (.slice el) =>
    match (bnd 0 lo), (bnd 0 hi) with
    | some l, some h => if (szT P el).isSome ∧ l = 0 ∧ h = 0 then some (.c .esl) else none
    | _, _ => none
  | .c (.bs x), some (.slice el) =>
    match (bnd 0 lo), (bnd x.length hi) with
    | some l, some h => if szT P el = some 1 ∧ 0 ≤ l ∧ l ≤ h ∧ h ≤ x.length then some (.c (.bs (cut x l.toNat (h - l).toNat))) else none
    | _, _ => none
  | .c (.is x), some (.slice el) =>
    match (bnd 0 lo), (bnd x.length hi) with
    | some l, some h => if szT P el = some 1 ∧ 0 ≤ l ∧ l ≤ h ∧ h ≤ x.length then some (.c (.is (cut x l.toNat (h - l).toNat))) else none
    | _, _ => none
  | _, _ => none
theorem intOf_rel {a : AV} {n : Int} (h : intOf? a = some n) {ι : Emb} {v : Value} (hr : a.rel ι v) : ∃ k, v = .int k n := by
  unfold intOf? at h; split at h
  · cases h; exact ⟨_, hr⟩
  · cases h
theorem run_sliceBound {P : Program} {w : World} (k : IntKind) (i : Int) (y : Nat) (c : BoundsCode) (h0 : 0 ≤ i) (h1 : i ≤ y) : (Instr.sliceBound (.int k i) y c).run P w = .ok i.toNat w := by
  simp [Instr.sliceBound, asIntOf, h0, h1]
theorem run_sliceBounds {P : Program} {w : World} (is : Bool) (len cap : Nat) (lo hi : Option Value) (l h : Nat) (hl : lo = none ∧ l = 0 ∨ ∃ k, lo = some (.int k l)) (hh : hi = none ∧ h = len ∨ ∃ k, hi = some (.int k h)) (h1 : l ≤ h) (h2 : h ≤ cap) :
    (Instr.sliceBounds is len cap lo hi none).run P w = .ok (l, h, cap) w := by
  rcases hl with ⟨rfl, rfl⟩ | ⟨k, rfl⟩ <;> rcases hh with ⟨rfl, rfl⟩ | ⟨k', rfl⟩
  · simp [Instr.sliceBounds]
  · simp [Instr.sliceBounds, run_sliceBound k' h cap _ (by omega) (by omega)]
  · simp [Instr.sliceBounds, run_sliceBound k l h .sliceB (by omega) (by omega)]
  · simp [Instr.sliceBounds, run_sliceBound k' h cap _ (by omega) (by omega), run_sliceBound k l h .sliceB (by omega) (by omega)]
def orel (ι : Emb) : Option AV → Option Value → Prop
  | none, none => True
  | some a, some v => a.rel ι v
  | _, _ => False
theorem bound_rel {ι : Emb} {a : Option AV} {v : Option Value} (hr : orel ι a v) {d l : Int} (h : bnd d a = some l) : v = none ∧ l = d ∨ ∃ k, v = some (.int k l) := by
  cases a <;> cases v <;> simp only [orel] at hr
  · simp only [bnd, Option.some.injEq] at h; exact .inl ⟨rfl, h.symm⟩
  · obtain ⟨k, rfl⟩ := intOf_rel h hr
    exact .inr ⟨k, rfl⟩
theorem stay_cut {ι : Emb} {g : Nat → Value} {n l h : Nat} {v : Value} (hv : StayRel ι g n v) (h1 : l ≤ h) (h2 : h ≤ n) : ∃ p cap, v = .slice p n cap ∧ h ≤ cap ∧ StayRel ι (fun i => g (l + i)) (h - l) (.slice (if cap = l then p else p.map (·.add l)) (h - l) (cap - l)) := by
  obtain ⟨p, cap, rfl, k1, k2⟩ := hv
  refine ⟨p, cap, rfl, by omega, _, _, rfl, by omega, ?_⟩
  by_cases e : cap = l
  · exact .inl (by omega)
  · rcases k2 with k2 | ⟨c, o, rfl, hb, hr⟩
    · exact .inl (by omega)
    · refine .inr ⟨c, o + l, ?_, hb, fun i hi => ?_⟩
      · rw [if_neg e, Option.map_some, addr_at]
      · rw [Nat.add_assoc]; exact hr (l + i) (by omega)
theorem evSlice_sound {P : Program} {M : Mem} {t : TypeId} {x v : AV} {lo hi : Option AV} (h : evSlice P M t x lo hi = some v) {ι : Emb} {w : World} (hR : R ι M w) {p : Value} {lo' hi' : Option Value} (hx : x.rel ι p) (hlo : orel ι lo lo') (hhi : orel ι hi hi') :
    ∃ u, (Instr.sliceAt t p lo' hi' none).run P w = .ok u w ∧ v.rel ι u := by
  unfold evSlice at h
  split at h
  · rename_i b o n el hu
    obtain ⟨loc, hb, rfl⟩ := hx
    split at h
    · rename_i sz l hh own y hsz hl hh' hm
      split at h
      · rename_i hc
        obtain ⟨c0, c1, c2, c3⟩ := hc
        cases h
        have hys := hR.size hb hm
        obtain ⟨ln, rfl⟩ := Int.eq_ofNat_of_zero_le c0
        obtain ⟨hn, rfl⟩ := Int.eq_ofNat_of_zero_le (Int.le_trans c0 c1)
        have hbl := bound_rel hlo hl
        have hbh := bound_rel hhi hh'
        have hrun := run_sliceBounds (P := P) (w := w) false n n lo' hi' ln hn (hbl.imp (fun h => ⟨h.1, by omega⟩) id) (hbh.imp (fun h => ⟨h.1, by omega⟩) id) (by omega) (by omega)
        refine ⟨.slice (some (if n = ln then ⟨loc.c, loc.off + o, none⟩ else (⟨loc.c, loc.off + o, none⟩ : Addr).add (ln * sz))) (hn - ln) (n - ln), ?_, ?_⟩
        · simp only [Instr.sliceAt, Sem.run_bind, run_underlying hu, Result.andThen_ok, Instr.sureAddr, Sem.run_pure, hrun, run_sizeT hsz]
        · refine ⟨_, n - ln, by rw [show ((hn : Int) - (ln : Int)).toNat = hn - ln by omega], by simp, by simp; omega, ?_⟩
          by_cases e : n = ln
          · exact .inl (by omega)
          · refine .inr ⟨loc, hb, ?_, ?_⟩
            · rw [if_neg e, addr_at]; simp [Nat.add_assoc]
            · have h7 : ln * sz + (n - ln) * sz = n * sz := by rw [← Nat.add_mul]; congr 1; omega
              rw [Int.toNat_natCast]
              omega
      · cases h
    · cases h
  · rename_i b o len cap sz el hu
    obtain ⟨pp, cap', rfl, hc1, hc2, hc3⟩ := hx
    split at h
    · rename_i l hh hl hh'
      split at h
      · rename_i hc
        obtain ⟨hsz, c0, c1, c2⟩ := hc
        cases h
        obtain ⟨ln, rfl⟩ := Int.eq_ofNat_of_zero_le c0
        obtain ⟨hn, rfl⟩ := Int.eq_ofNat_of_zero_le (Int.le_trans c0 c1)
        have hbl := bound_rel hlo hl
        have hbh := bound_rel hhi hh'
        have hmx : hn ≤ cap' := by omega
        have hrun := run_sliceBounds (P := P) (w := w) true len cap' lo' hi' ln hn (hbl.imp (fun h => ⟨h.1, by omega⟩) id) (hbh.imp (fun h => ⟨h.1, by omega⟩) id) (by omega) hmx
        refine ⟨.slice (if cap' = ln then pp else pp.map (·.add (ln * sz))) (hn - ln) (cap' - ln), ?_, ?_⟩
        · simp only [Instr.sliceAt, Instr.slice, Sem.run_bind, run_underlying hu, Result.andThen_ok, Sem.run_pure, hrun, run_sizeT hsz]
        · refine ⟨_, cap' - ln, by rw [show ((hn : Int) - (ln : Int)).toNat = hn - ln by omega], by rw [Int.toNat_natCast]; omega, by omega, ?_⟩
          by_cases e : cap' = ln
          · exact .inl (by omega)
          · rcases hc3 with hc3 | ⟨loc, hb, rfl, hle⟩
            · exact .inl (by omega)
            · refine .inr ⟨loc, hb, ?_, ?_⟩
              · rw [if_neg e]
                simp only [Option.map_some, Option.some.injEq]
                rw [addr_at]; simp [Nat.add_assoc]
              · have h7 : ln * sz + (cap' - ln) * sz = cap' * sz := by rw [← Nat.add_mul]; congr 1; omega
                rw [Int.toNat_natCast]
                omega
      · cases h
    · cases h
  · rename_i el hu
    obtain rfl : p = .slice none 0 0 := hx
    split at h
    · rename_i l hh hl hh'
      split at h
      · rename_i hc
        obtain ⟨hsz, rfl, rfl⟩ := hc
        cases h
        obtain ⟨sz, hsz⟩ := Option.isSome_iff_exists.1 hsz
        have hrun := run_sliceBounds (P := P) (w := w) true 0 0 lo' hi' 0 0 ((bound_rel hlo hl).imp (fun h => ⟨h.1, rfl⟩) id) ((bound_rel hhi hh').imp (fun h => ⟨h.1, rfl⟩) id) (by omega) (by omega)
        refine ⟨.slice none 0 0, ?_, rfl⟩
        simp [Instr.sliceAt, Instr.slice, run_underlying hu, hrun, run_sizeT hsz]
      · cases h
    · cases h
  · rename_i el hu
    obtain ⟨pp, rfl⟩ := hx
    split at h
    · rename_i l hh hl hh'
      split at h
      · rename_i hc
        obtain ⟨hsz, rfl, rfl⟩ := hc
        cases h
        obtain ⟨sz, hsz⟩ := Option.isSome_iff_exists.1 hsz
        have hrun := run_sliceBounds (P := P) (w := w) true 0 0 lo' hi' 0 0 ((bound_rel hlo hl).imp (fun h => ⟨h.1, rfl⟩) id) ((bound_rel hhi hh').imp (fun h => ⟨h.1, rfl⟩) id) (by omega) (by omega)
        refine ⟨.slice pp 0 0, ?_, ⟨pp, rfl⟩⟩
        simp [Instr.sliceAt, Instr.slice, run_underlying hu, hrun, run_sizeT hsz]
      · cases h
    · cases h
  · rename_i xs el hu
    split at h
    · rename_i l hh hl hh'
      split at h
      · rename_i hc
        obtain ⟨hsz, c0, c1, c2⟩ := hc
        cases h
        obtain ⟨ln, rfl⟩ := Int.eq_ofNat_of_zero_le c0
        obtain ⟨hn, rfl⟩ := Int.eq_ofNat_of_zero_le (Int.le_trans c0 c1)
        obtain ⟨pp, cap', rfl, hm, hr⟩ := stay_cut (l := ln) (h := hn) hx (by omega) (by omega)
        have hrun := run_sliceBounds (P := P) (w := w) true xs.length cap' lo' hi' ln hn ((bound_rel hlo hl).imp (fun h => ⟨h.1, by omega⟩) id) ((bound_rel hhi hh').imp (fun h => ⟨h.1, by omega⟩) id) (by omega) hm
        refine ⟨.slice (if cap' = ln then pp else pp.map (·.add (ln * 1))) (hn - ln) (cap' - ln), ?_, ?_⟩
        · simp only [Instr.sliceAt, Instr.slice, Sem.run_bind, run_underlying hu, Result.andThen_ok, Sem.run_pure, hrun, run_sizeT hsz]
        · rw [Nat.mul_one]
          have hcl : (cut xs ln (hn - ln)).length = hn - ln := by simp [cut]; omega
          show StayRel ι _ (cut xs (ln : Int).toNat ((hn : Int) - (ln : Int)).toNat).length _
          rw [Int.toNat_natCast, show ((hn : Int) - (ln : Int)).toNat = hn - ln by omega, hcl]
          obtain ⟨q, cq, e1, e2, e3⟩ := hr
          refine ⟨q, cq, e1, e2, e3.imp id ?_⟩
          rintro ⟨c, o, f1, f2, f3⟩
          refine ⟨c, o, f1, f2, fun i hi => ?_⟩
          have := f3 i hi
          show ι.tx c (o + i) (U8 (nth (cut xs ln (hn - ln)) i))
          rw [show nth (cut xs ln (hn - ln)) i = nth xs (ln + i) from cut_get xs ln (hn - ln) i _ hi]
          exact this
      · cases h
    · cases h
  · rename_i xs el hu
    split at h
    · rename_i l hh hl hh'
      split at h
      · rename_i hc
        obtain ⟨hsz, c0, c1, c2⟩ := hc
        cases h
        obtain ⟨ln, rfl⟩ := Int.eq_ofNat_of_zero_le c0
        obtain ⟨hn, rfl⟩ := Int.eq_ofNat_of_zero_le (Int.le_trans c0 c1)
        obtain ⟨pp, cap', rfl, hm, hr⟩ := stay_cut (l := ln) (h := hn) hx (by omega) (by omega)
        have hrun := run_sliceBounds (P := P) (w := w) true xs.length cap' lo' hi' ln hn ((bound_rel hlo hl).imp (fun h => ⟨h.1, by omega⟩) id) ((bound_rel hhi hh').imp (fun h => ⟨h.1, by omega⟩) id) (by omega) hm
        refine ⟨.slice (if cap' = ln then pp else pp.map (·.add (ln * 1))) (hn - ln) (cap' - ln), ?_, ?_⟩
        · simp only [Instr.sliceAt, Instr.slice, Sem.run_bind, run_underlying hu, Result.andThen_ok, Sem.run_pure, hrun, run_sizeT hsz]
        · rw [Nat.mul_one]
          have hcl : (cut xs ln (hn - ln)).length = hn - ln := by simp [cut]; omega
          show StayRel ι _ (cut xs (ln : Int).toNat ((hn : Int) - (ln : Int)).toNat).length _
          rw [Int.toNat_natCast, show ((hn : Int) - (ln : Int)).toNat = hn - ln by omega, hcl]
          obtain ⟨q, cq, e1, e2, e3⟩ := hr
          refine ⟨q, cq, e1, e2, e3.imp id ?_⟩
          rintro ⟨c, o, f1, f2, f3⟩
          refine ⟨c, o, f1, f2, fun i hi => ?_⟩
          have := f3 i hi
          show ι.tx c (o + i) (.int .i64 ((cut xs ln (hn - ln)).getD i 0))
          rw [show List.getD (cut xs ln (hn - ln)) i 0 = List.getD xs (ln + i) 0 from cut_get xs ln (hn - ln) i _ hi]
          exact this
      · cases h
    · cases h
  · cases h
def evIndex (P : Program) (t : TypeId) (x i : AV) : Option AV :=
  match x, P.underlying t, intOf? i with
  | .c (.ptr b o), some (.array n el), some i => match szT P el with
    | some sz => if 0 ≤ i ∧ i < n then some (.c (.ptr b (o + i.toNat * sz))) else none
    | none => none
  | .c (.sl b o len _ sz), some (.slice el), some i => if szT P el = some sz ∧ 0 ≤ i ∧ i < len then some (.c (.ptr b (o + i.toNat * sz))) else none
  | .c (.bs l), some (.slice el), some i => if szT P el = some 1 ∧ 0 ≤ i ∧ i < l.length then some (.c (.qb l i.toNat)) else none
  | .c (.is l), some (.slice el), some i => if szT P el = some 1 ∧ 0 ≤ i ∧ i < l.length then some (.c (.qi l i.toNat)) else none
  | _, _, _ => none
theorem evIndex_sound {P : Program} {t : TypeId} {x i v : AV} (h : evIndex P t x i = some v) {ι : Emb} (w : World) {p q : Value} (hx : x.rel ι p) (hi : i.rel ι q) :
    ∃ u, (Instr.indexAt t p q).run P w = .ok u w ∧ v.rel ι u := by
  unfold evIndex at h
  split at h
  · rename_i b o n el i' hu hi'
    obtain ⟨loc, hb, rfl⟩ := hx
    obtain ⟨k, rfl⟩ := intOf_rel hi' hi
    split at h
    · rename_i sz hsz
      split at h
      · rename_i hc
        cases h
        refine ⟨.pointer (some ((⟨loc.c, loc.off + o, none⟩ : Addr).add (i'.toNat * sz))), ?_, ⟨loc, hb, by rw [addr_at, Nat.add_assoc]⟩⟩
        simp [Instr.indexAt, asIntOf, run_underlying hu, Instr.sureAddr, hc, run_sizeT hsz]
      · cases h
    · cases h
  · rename_i b o len cap sz el i' hu hi'
    obtain ⟨pp, cap', rfl, hc1, hc2, hc3⟩ := hx
    obtain ⟨k, rfl⟩ := intOf_rel hi' hi
    split at h
    · rename_i hc
      obtain ⟨hsz, hc⟩ := hc
      cases h
      rcases hc3 with hc3 | ⟨loc, hb, rfl, hle⟩
      · omega
      · refine ⟨.pointer (some ((⟨loc.c, loc.off + o, none⟩ : Addr).add (i'.toNat * sz))), ?_, ⟨loc, hb, by rw [addr_at, Nat.add_assoc]⟩⟩
        simp [Instr.indexAt, asIntOf, run_underlying hu, hc, run_sizeT hsz]
    · cases h
  · rename_i xs el i' hu hi'
    obtain ⟨pp, cap', rfl, hc1, hc3⟩ := hx
    obtain ⟨k, rfl⟩ := intOf_rel hi' hi
    split at h
    · rename_i hc
      obtain ⟨hsz, hc⟩ := hc
      cases h
      rcases hc3 with hc3 | ⟨c, o, rfl, hb, hr⟩
      · omega
      · refine ⟨.pointer (some ((⟨c, o, none⟩ : Addr).add (i'.toNat * 1))), ?_, ⟨c, o, by rw [addr_at, Nat.mul_one], hr⟩⟩
        simp [Instr.indexAt, asIntOf, run_underlying hu, hc, run_sizeT hsz]
    · cases h
  · rename_i xs el i' hu hi'
    obtain ⟨pp, cap', rfl, hc1, hc3⟩ := hx
    obtain ⟨k, rfl⟩ := intOf_rel hi' hi
    split at h
    · rename_i hc
      obtain ⟨hsz, hc⟩ := hc
      cases h
      rcases hc3 with hc3 | ⟨c, o, rfl, hb, hr⟩
      · omega
      · refine ⟨.pointer (some ((⟨c, o, none⟩ : Addr).add (i'.toNat * 1))), ?_, ⟨c, o, by rw [addr_at, Nat.mul_one], hr⟩⟩
        simp [Instr.indexAt, asIntOf, run_underlying hu, hc, run_sizeT hsz]
    · cases h
  · cases h
end Go.Proofs.YtmbepikkgkcgkaaGreatDoor
namespace Go.Proofs.YtmbepikkgkcgkaaGreatDoor
open Go.RowKit
def Emb.upd (ι : Emb) (b : Nat) (l : Loc) : Emb := ⟨fun i => if i = b then some l else ι i, ι.tx⟩
theorem Emb.upd_ne {ι : Emb} {b b' : Nat} {l : Loc} (h : b' ≠ b) : ι.upd b l b' = ι b' := if_neg h
theorem Emb.upd_eq (ι : Emb) (b : Nat) (l : Loc) : ι.upd b l b = some l := if_pos rfl
theorem R.upd_le {ι : Emb} {M : Mem} {w : World} (h : R ι M w) (l : Loc) : ι.le (ι.upd M.length l) := by
  refine ⟨fun b x hb => ?_, fun _ _ _ h => h⟩
  have : b ≠ M.length := fun e => by rw [h.dom b (by omega)] at hb; cases hb
  rw [Emb.upd_ne this]; exact hb
theorem app_row {M : Mem} {r : Row} {b : Nat} {own : Bool} {x : Arr} (h : (M ++ [r])[b]? = some (.row own x)) : (b < M.length ∧ M[b]? = some (.row own x)) ∨ (b = M.length ∧ r = .row own x) := by
  by_cases hb : b < M.length
  · rw [List.getElem?_append_left hb] at h; exact .inl ⟨hb, h⟩
  · rw [List.getElem?_append_right (by omega)] at h
    by_cases e : b = M.length
    · subst e; simp at h; exact .inr ⟨rfl, h⟩
    · rw [List.getElem?_eq_none (by simp; omega)] at h; cases h
theorem alloc_step {ι : Emb} {M : Mem} {w w' : World} (hR : R ι M w) {cs : Array Value} {t : TypeId} {x : Arr} (hh : w'.heap = w.heap.push (.cells cs t (0, 0))) (ho : w'.os = w.os) (ht : w'.tape = w.tape) (hu : w'.output = w.output)
    (hs : x.size ≤ cs.size) (hx : x.relAt ι cs 0) (hmp : x.isMap = false) : Step M.length ι M w (ι.upd M.length ⟨w.heap.size, 0, cs.size⟩) (M ++ [.row true x]) w' ∧ ι.le (ι.upd M.length ⟨w.heap.size, 0, cs.size⟩) := by
  have hle := hR.upd_le ⟨w.heap.size, 0, cs.size⟩
  have old : ∀ c, c < w.heap.size → w'.heap[c]? = w.heap[c]? := fun c hc => by rw [hh, Array.getElem?_push, if_neg (by omega)]
  refine ⟨Step.make hR (fun b hb => ?_) (fun b l own y hb hm => ?_) (fun b b' l l' own own' y y' hne hb hb' hm hm' ho => ?_) ⟨ho, ht, hu, by rw [hh]; simp, fun c hc _ => old c hc, fun c hc => ?_⟩ rfl (fun b hb => Emb.upd_ne (by omega)) (by simp) (fun b x hb hm => by rw [List.getElem?_append_left hb]; exact hm) (fun b own x hb hm => ⟨x, by rwa [List.getElem?_append_left hb] at hm⟩) (fun b l own y hb h1 h2 => ?_), hle⟩
  · simp at hb
    rw [Emb.upd_ne (by omega)]; exact hR.dom b (by omega)
  · rcases app_row hm with ⟨hlt, hm⟩ | ⟨rfl, e⟩
    · rw [Emb.upd_ne (by omega)] at hb
      exact (hR.rows b l own y hb hm).heap (old _ (hR.lt hb hm)) hle
    · cases e
      rw [Emb.upd_eq] at hb
      cases hb
      exact .of hmp ⟨cs, t, (0, 0), by rw [hh, Array.getElem?_push, if_pos rfl], hs, hx.mono' hle, fun _ => ⟨rfl, by simp⟩⟩
  · rcases app_row hm with ⟨hlt, hm⟩ | ⟨rfl, e⟩ <;> rcases app_row hm' with ⟨hlt', hm'⟩ | ⟨rfl, e'⟩
    · rw [Emb.upd_ne (by omega)] at hb hb'
      exact hR.inj b b' l l' own own' y y' hne hb hb' hm hm' ho
    · rw [Emb.upd_ne (by omega)] at hb
      rw [Emb.upd_eq] at hb'
      cases hb'
      have := hR.lt hb hm
      show l.c ≠ w.heap.size
      omega
    · rw [Emb.upd_ne (by omega)] at hb'
      rw [Emb.upd_eq] at hb
      cases hb
      have := hR.lt hb' hm'
      show w.heap.size ≠ l'.c
      omega
    · exact absurd rfl hne
  · obtain ⟨b, l, y, hb, hm, rfl⟩ := hc
    rcases app_row hm with ⟨hlt, hm⟩ | ⟨rfl, e⟩
    · rw [Emb.upd_ne (by omega)] at hb
      exact .inr ⟨b, l, y, hb, hm, rfl⟩
    · rw [Emb.upd_eq] at hb
      cases hb
      exact .inl (Nat.le_refl _)
  · rcases app_row h2 with ⟨hlt, h2⟩ | ⟨rfl, e⟩
    · omega
    · rw [Emb.upd_eq] at h1
      cases h1
      exact .inl (Nat.le_refl _)
theorem set_row {M : Mem} {r : Row} {b b' : Nat} {own : Bool} {x : Arr} (h : (M.set b r)[b']? = some (.row own x)) : (b' ≠ b ∧ M[b']? = some (.row own x)) ∨ (b' = b ∧ r = .row own x) := by
  rw [List.getElem?_set] at h
  split at h
  · rename_i e; subst e
    split at h
    · cases h; exact .inr ⟨rfl, rfl⟩
    · cases h
  · rename_i e; exact .inl ⟨fun h => e h.symm, h⟩
theorem store_step {ι : Emb} {M : Mem} {w : World} (hR : R ι M w) {b : Nat} {l : Loc} {x y : Arr} (hb : ι b = some l) (hm : M[b]? = some (.row true x)) {cs cs' : Array Value} {t : TypeId} (hh : w.heap[l.c]? = some (.cells cs t (0, 0)))
    (hs : cs'.size = cs.size) (hn : y.size ≤ l.n) (hy : y.relAt ι cs' l.off) (hmp : y.isMap = false) : Step M.length ι M w ι (M.set b (.row true y)) (w.setRow l.c cs') := by
  have hown : Owned ι M l.c := ⟨b, l, x, hb, hm, rfl⟩
  refine Step.make hR (fun b hb => hR.dom b (by simpa using hb)) (fun b1 l1 own z hb1 hm1 => ?_) (fun b1 b2 l1 l2 o1 o2 z1 z2 hne h1 h2 k1 k2 ho => ?_) ⟨rfl, rfl, rfl, Nat.le_of_eq (size_setRow w l.c cs').symm, fun c hc hn => heap_setRow_if w l.c cs' c (fun e => hn (by rw [e]; exact hown)), fun c hc => ?_⟩ rfl (fun _ _ => rfl) (by simp) (fun b1 z hb1 hm1 => ?_) (fun b1 own z hb1 hm1 => ?_) (fun b1 l1 own z hb1 h1 h2 => (no_row (by simpa using hb1) h2).elim)
  · rcases set_row hm1 with ⟨hne, hm1⟩ | ⟨rfl, e⟩
    · have hc : l1.c ≠ l.c := hR.inj b1 b l1 l own true z x hne hb1 hb hm1 hm (.inr rfl)
      exact (hR.rows b1 l1 own z hb1 hm1).heap (heap_setRow_if _ _ _ _ hc) (.refl _)
    · cases e
      rw [hb] at hb1; cases hb1
      have hxm : x.isMap = false := by
        have k := hR.rows b1 l true x hb hm
        cases x <;> first | rfl | (obtain ⟨es, c, k1, _⟩ := k; rw [hh] at k1; cases k1)
      obtain ⟨cs1, t1, fr, k1, k2, k3, k4⟩ := hR.cells hb hm hxm
      rw [hh] at k1; cases k1
      exact .of hmp ⟨cs', t, (0, 0), setRow_heap w l.c cs cs' t (0, 0) hh, hn, hy, fun _ => ⟨rfl, by rw [hs]; exact (k4 rfl).2⟩⟩
  · rcases set_row k1 with ⟨e1, m1⟩ | ⟨rfl, e1⟩ <;> rcases set_row k2 with ⟨e2, m2⟩ | ⟨rfl, e2⟩
    · exact hR.inj b1 b2 l1 l2 o1 o2 z1 z2 hne h1 h2 m1 m2 ho
    · exact hR.inj b1 b2 l1 l2 o1 true z1 x hne h1 h2 m1 hm (.inr rfl)
    · exact hR.inj b1 b2 l1 l2 true o2 x z2 hne h1 h2 hm m2 (.inl rfl)
    · exact absurd rfl hne
  · obtain ⟨b1, l1, z, h1, k1, rfl⟩ := hc
    rcases set_row k1 with ⟨e1, k1⟩ | ⟨rfl, e1⟩
    · exact .inr ⟨b1, l1, z, h1, k1, rfl⟩
    · exact .inr ⟨b1, l1, x, h1, hm, rfl⟩
  · rw [List.getElem?_set_ne (fun e => by subst e; rw [hm] at hm1; cases hm1)]; exact hm1
  · rcases set_row hm1 with ⟨hne, hm1⟩ | ⟨rfl, e⟩
    · exact ⟨z, hm1⟩
    · cases e; exact ⟨x, hm⟩
theorem kill_step {ι : Emb} {M : Mem} {w : World} (hR : R ι M w) {b : Nat} {x : Arr} (hm : M[b]? = some (.row true x)) : Step M.length ι M w ι (M.set b .dead) w := by
  refine Step.make hR (fun b hb => hR.dom b (by simpa using hb)) (fun b1 l1 own z hb1 hm1 => ?_) (fun b1 b2 l1 l2 o1 o2 z1 z2 hne h1 h2 k1 k2 ho => ?_) ⟨rfl, rfl, rfl, Nat.le_refl _, fun _ _ _ => rfl, fun c hc => ?_⟩ rfl (fun _ _ => rfl) (by simp) (fun b1 z hb1 hm1 => ?_) (fun b1 own z hb1 hm1 => ?_) (fun b1 l1 own z hb1 h1 h2 => (no_row (by simpa using hb1) h2).elim)
  · rcases set_row hm1 with ⟨hne, hm1⟩ | ⟨rfl, e⟩
    · exact hR.rows b1 l1 own z hb1 hm1
    · cases e
  · rcases set_row k1 with ⟨e1, k1⟩ | ⟨rfl, e1⟩ <;> rcases set_row k2 with ⟨e2, k2⟩ | ⟨rfl, e2⟩
    · exact hR.inj b1 b2 l1 l2 o1 o2 z1 z2 hne h1 h2 k1 k2 ho
    · cases e2
    · cases e1
    · cases e1
  · obtain ⟨b1, l1, z, h1, k1, rfl⟩ := hc
    rcases set_row k1 with ⟨e1, k1⟩ | ⟨rfl, e1⟩
    · exact .inr ⟨b1, l1, z, h1, k1, rfl⟩
    · cases e1
  · rw [List.getElem?_set_ne (fun e => by subst e; rw [hm] at hm1; cases hm1)]; exact hm1
  · rcases set_row hm1 with ⟨hne, hm1⟩ | ⟨rfl, e⟩
    · exact ⟨z, hm1⟩
    · cases e
theorem grow_step {ι : Emb} {M : Mem} {w : World} (hR : R ι M w) {b : Nat} {l : Loc} {x y : Arr} (hb : ι b = some l) (hm : M[b]? = some (.row true x)) {cs cs' : Array Value} {t : TypeId} (hh : w.heap[l.c]? = some (.cells cs t (0, 0)))
    (hs : cs'.size = cs.size) {o : Nat} (ho : o ≤ l.n) (hn : y.size ≤ l.n - o) (hy : y.relAt ι cs' (l.off + o)) (hmp : y.isMap = false) :
    Step M.length ι M w (ι.upd M.length ⟨l.c, l.off + o, l.n - o⟩) (M.set b .dead ++ [.row true y]) (w.setRow l.c cs') ∧ ι.le (ι.upd M.length ⟨l.c, l.off + o, l.n - o⟩) := by
  have hown : Owned ι M l.c := ⟨b, l, x, hb, hm, rfl⟩
  have hle := hR.upd_le ⟨l.c, l.off + o, l.n - o⟩
  have hlen : (M.set b Row.dead).length = M.length := by simp
  have pick : ∀ {b1 : Nat} {own : Bool} {z : Arr}, (M.set b .dead ++ [.row true y])[b1]? = some (.row own z) → (b1 ≠ b ∧ b1 < M.length ∧ M[b1]? = some (.row own z)) ∨ (b1 = M.length ∧ own = true ∧ z = y) := by
    intro b1 own z h
    rcases app_row h with ⟨hlt, h⟩ | ⟨rfl, e⟩
    · rcases set_row h with ⟨hne, h⟩ | ⟨rfl, e⟩
      · exact .inl ⟨hne, by omega, h⟩
      · cases e
    · cases e; exact .inr ⟨hlen, rfl, rfl⟩
  have apart : ∀ {b1 : Nat} {l1 : Loc} {own : Bool} {z : Arr}, b1 ≠ b → ι b1 = some l1 → M[b1]? = some (.row own z) → l1.c ≠ l.c := fun hne h1 k1 => hR.inj _ b _ l _ true _ x hne h1 hb k1 hm (.inr rfl)
  refine ⟨Step.make hR (fun b1 hb1 => ?_) (fun b1 l1 own z hb1 hm1 => ?_) (fun b1 b2 l1 l2 o1 o2 z1 z2 hne h1 h2 k1 k2 ho => ?_) ⟨rfl, rfl, rfl, Nat.le_of_eq (size_setRow w l.c cs').symm, fun c hc hn => heap_setRow_if w l.c cs' c (fun e => hn (by rw [e]; exact hown)), fun c hc => ?_⟩ rfl (fun b1 hb1 => Emb.upd_ne (by omega)) (by simp) (fun b1 z hb1 hm1 => ?_) (fun b1 own z hb1 hm1 => ?_) (fun b1 l1 own z hb1 h1 h2 => ?_), hle⟩
  · simp at hb1
    rw [Emb.upd_ne (by omega)]; exact hR.dom b1 (by omega)
  · rcases pick hm1 with ⟨hne, hlt, hm1⟩ | ⟨rfl, rfl, rfl⟩
    · rw [Emb.upd_ne (by omega)] at hb1
      exact (hR.rows b1 l1 own z hb1 hm1).heap (heap_setRow_if _ _ _ _ (apart hne hb1 hm1)) hle
    · rw [Emb.upd_eq] at hb1; cases hb1
      have hxm : x.isMap = false := by
        have k := hR.rows b l true x hb hm
        cases x <;> first | rfl | (obtain ⟨es, c, k1, _⟩ := k; rw [hh] at k1; cases k1)
      obtain ⟨cs1, t1, fr, k1, k2, k3, k4⟩ := hR.cells hb hm hxm
      rw [hh] at k1; cases k1
      refine .of hmp ⟨cs', t, (0, 0), setRow_heap w l.c cs cs' t (0, 0) hh, hn, hy.mono' hle, fun _ => ⟨rfl, ?_⟩⟩
      have := (k4 rfl).2
      simp only
      omega
  · rcases pick k1 with ⟨e1, g1, m1⟩ | ⟨e1, _, _⟩ <;> rcases pick k2 with ⟨e2, g2, m2⟩ | ⟨e2, _, _⟩
    · rw [Emb.upd_ne (by omega)] at h1 h2
      exact hR.inj b1 b2 l1 l2 o1 o2 z1 z2 hne h1 h2 m1 m2 ho
    · rw [Emb.upd_ne (by omega)] at h1
      rw [e2, Emb.upd_eq] at h2; cases h2
      exact apart e1 h1 m1
    · rw [Emb.upd_ne (by omega)] at h2
      rw [e1, Emb.upd_eq] at h1; cases h1
      exact fun e => apart e2 h2 m2 e.symm
    · exact absurd (e1.trans e2.symm) hne
  · obtain ⟨b1, l1, z, h1, k1, rfl⟩ := hc
    rcases pick k1 with ⟨e1, g1, k1⟩ | ⟨rfl, _, rfl⟩
    · rw [Emb.upd_ne (by omega)] at h1
      exact .inr ⟨b1, l1, z, h1, k1, rfl⟩
    · rw [Emb.upd_eq] at h1; cases h1
      exact .inr hown
  · rw [List.getElem?_append_left (by simpa using hb1), List.getElem?_set_ne (fun e => by subst e; rw [hm] at hm1; cases hm1)]; exact hm1
  · rcases pick hm1 with ⟨_, _, hm1⟩ | ⟨rfl, _, _⟩
    · exact ⟨z, hm1⟩
    · omega
  · rcases pick h2 with ⟨_, hlt, _⟩ | ⟨rfl, _, _⟩
    · omega
    · rw [Emb.upd_eq] at h1
      cases h1
      exact .inr (.inl hown)
end Go.Proofs.YtmbepikkgkcgkaaGreatDoor
namespace Go.Proofs.YtmbepikkgkcgkaaGreatDoor
open Go.RowKit
def srcOf (M : Mem) (sz : Nat) : AV → Option (Nat × Arr)
  | .c (.sl b o n _ sz') =>
    match M[b]? with
    | some (.row _ y) => if sz' = sz ∧ o + n * sz ≤ y.size then some (n, winA y o (n * sz)) else none
    | _ => none
  | .c (.bs l) => if sz = 1 then some (l.length, .a8 l) else none
  | .c (.is l) => if sz = 1 then some (l.length, .ai l) else none
  | _ => none
structure Shows (w : World) (ι : Emb) (sz : Nat) (p : Option Addr) (n : Nat) (y : Arr) (l : List Value) : Prop where
  len : l.length = n * sz
  size : y.size = n * sz
  rel : ∀ i, i < y.size → ∃ v, l[i]? = some v ∧ (y.get i).rel ι v
  nil : p = none → l = []
  cells : ∀ a, p = some a → ∀ j u, l[j]? = some u → w.cell? (a.add j) = some u
theorem stay_shows {M : Mem} {n : Nat} {y : Arr} {g : Nat → Value} (hn : y.size = n) {ι : Emb} {w : World} (hR : R ι M w) {v : Value} (hx : StayRel ι g n v) (hg : ∀ i, i < n → (y.get i).rel ι (g i)) : ∃ p c l, v = .slice p n c ∧ n ≤ c ∧ Shows w ι 1 p n y l := by
  obtain ⟨p, cap, rfl, h1, h2⟩ := hx
  refine ⟨p, cap, (List.range n).map g, rfl, h1, by simp, by omega, fun i hi => ⟨g i, by simp [show i < n by omega], hg i (by omega)⟩, fun hp => ?_, fun a ha j u hu => ?_⟩
  · rcases h2 with h2 | ⟨c, o, rfl, _⟩
    · have : n = 0 := by omega
      subst this; rfl
    · cases hp
  · rcases h2 with h2 | ⟨c, o, rfl, _, hr⟩
    · have : n = 0 := by omega
      subst this; simp at hu
    · cases ha
      have hj : j < n := by
        have := (List.getElem?_eq_some_iff.1 hu).1
        simpa using this
      simp only [List.getElem?_map, List.getElem?_range hj, Option.map_some, Option.some.injEq] at hu
      subst hu
      obtain ⟨⟨cs, t, fr, e1, e2⟩, _⟩ := hR.txt _ _ _ (hr j hj)
      rw [addr_at, cell_of e1]
      exact e2
theorem srcOf_sound {M : Mem} {sz n : Nat} {x : AV} {y : Arr} (h : srcOf M sz x = some (n, y)) (hsz : 0 < sz) {ι : Emb} {w : World} (hR : R ι M w) {v : Value} (hx : x.rel ι v) : ∃ p c l, v = .slice p n c ∧ n ≤ c ∧ Shows w ι sz p n y l := by
  unfold srcOf at h
  split at h
  · rename_i b o n' cap sz'
    split at h
    · rename_i own z hm
      split at h
      · rename_i hc
        obtain ⟨rfl, hle⟩ := hc
        cases h
        obtain ⟨p, c, rfl, h1, h2, h3⟩ := hx
        by_cases hn : n = 0
        · subst hn
          exact ⟨p, c, [], rfl, h2, by simp, by rw [winA_size (by omega)], fun i hi => by rw [winA_size (by omega)] at hi; omega, fun _ => rfl, fun a _ j u hu => by simp at hu⟩
        · rcases h3 with h3 | ⟨l, hb, rfl, hl⟩
          · omega
          · obtain ⟨cs, t, fr, k1, k2, k3, k4⟩ := hR.cells hb hm (Arr.noMap (by have hp : 0 < n * sz' := Nat.mul_pos (by omega) hsz; omega))
            have hfit : l.off + o + n * sz' ≤ cs.size := by
              have hp : 0 < n * sz' := Nat.mul_pos (by omega) hsz
              obtain ⟨u, hu, _⟩ := k3 (o + n * sz' - 1) (by omega)
              have := (Array.getElem?_eq_some_iff.1 hu).1
              omega
            refine ⟨_, c, (cs.extract (l.off + o) (l.off + o + n * sz')).toList, rfl, h2, by simp; omega, winA_size hle, fun i hi => ?_, fun h => (by cases h), fun a ha j u hu => ?_⟩
            · rw [winA_size hle] at hi
              obtain ⟨u, hu, hr⟩ := k3 (o + i) (by omega)
              refine ⟨u, ?_, by rw [winA_get hi hle]; exact hr⟩
              rw [Array.getElem?_toList, Array.getElem?_extract, if_pos (by omega), ← hu, Nat.add_assoc]
            · cases ha
              rw [addr_at, cell_of k1]
              rw [Array.getElem?_toList, Array.getElem?_extract] at hu
              split at hu
              · exact hu
              · cases hu
      · cases h
    · cases h
  · rename_i l0
    split at h
    · rename_i h1
      subst h1
      cases h
      exact stay_shows (y := .a8 l0) (g := fun i => U8 (nth l0 i)) rfl hR hx fun i hi => rfl
    · cases h
  · rename_i l0
    split at h
    · rename_i h1
      subst h1
      cases h
      exact stay_shows (y := .ai l0) (g := fun i => .int .i64 (l0.getD i 0)) rfl hR hx fun i hi => rfl
    · cases h
  · cases h
theorem Shows.first {w : World} {ι : Emb} {sz n : Nat} {p : Option Addr} {y : Arr} {l : List Value} (h : Shows w ι sz p n y l) (P : Program) (c : Nat) (w' : World) (hw : w'.heap = w.heap) : (Builtin.firstCells sz n (.slice p n c)).run P w' = .ok l.toArray w' := by
  cases p with
  | none => rw [h.nil rfl]; exact run_firstCells_none w' sz n n c
  | some a => exact run_firstCells_some w' sz n a n c l h.len fun j v hv => by have := h.cells a rfl j v hv; rw [← this]; simp [World.cell?, hw]
structure Elem (P : Program) (el : TypeId) (sz : Nat) where
  i : TypeInfo
  z : Value
  hi : P.info? el = some i
  hz : i.zero = some z
  hs : i.size = sz
  hc : z.cells.size = sz
def elemOk (P : Program) (el : TypeId) : Option (Nat × Nat) :=
  match P.info? el with
  | some i => match i.zero with
    | some z => if z.cells.size = i.size ∧ 0 < i.size then some (i.size, i.bytes) else none
    | none => none
  | none => none
theorem elemOk_spec {P : Program} {el : TypeId} {sz by' : Nat} (h : elemOk P el = some (sz, by')) : ∃ i z, P.info? el = some i ∧ i.zero = some z ∧ i.size = sz ∧ i.bytes = by' ∧ z.cells.size = sz ∧ 0 < sz := by
  unfold elemOk at h
  split at h
  · rename_i i hi
    split at h
    · rename_i z hz
      split at h
      · rename_i hc
        cases h
        exact ⟨i, z, hi, hz, rfl, rfl, hc.1, hc.2⟩
      · cases h
    · cases h
  · cases h
def noIntT (P : Program) (t : TypeId) : Bool := match P.underlying t with | some (.slice _) => true | _ => false
theorem run_zeros {P : Program} {t : TypeId} (h : noIntT P t = true) : ∃ e, P.underlying t = some (.slice e) := by
  unfold noIntT at h
  split at h
  · rename_i e he; exact ⟨e, he⟩
  · cases h
theorem run_append_any {P : Program} {w : World} (t t' ty el : TypeId) (i : TypeInfo) (z : Value) (ht : P.underlying t = some (.slice el)) (ht' : noIntT P t' = true) (hi : P.info? el = some i) (hz : i.zero = some z)
    (p q : Option Addr) (sLen sCap n c : Nat) (olds news : List Value)
    (ho : ∀ w', w'.heap = w.heap → (Builtin.firstCells i.size sLen (.slice p sLen sCap)).run P w' = .ok olds.toArray w') (hn : ∀ w', w'.heap = w.heap → (Builtin.firstCells i.size n (.slice q n c)).run P w' = .ok news.toArray w')
    (hby : (sLen + n) * i.bytes ≤ 140737488355328) (h63 : sLen + n ≤ 9223372036854775807) :
    (sLen + n ≤ sCap ∧ (Builtin.append_ #[t, t'] ty #[.slice p sLen sCap, .slice q n c]).run P w = ((match p with | some a => (storeCells (a.add (sLen * i.size)) news).run P w | none => .ok () w).andThen fun _ w' => .ok (.slice p (sLen + n) sCap) w')) ∨
    (sCap < sLen + n ∧ ∃ cap', sLen + n ≤ cap' ∧ (Builtin.append_ #[t, t'] ty #[.slice p sLen sCap, .slice q n c]).run P w = .ok (.slice (some ⟨w.heap.size, 0, none⟩) (sLen + n) cap') (w.drew.alloc (.cells (olds.toArray ++ news.toArray ++ Builtin.zeroCells z.cells (cap' - (sLen + n))) el))) := by
  obtain ⟨e', ht'⟩ := run_zeros ht'
  by_cases hr : sLen + n ≤ sCap
  · refine .inl ⟨hr, ?_⟩
    have h2 := hn w rfl
    cases p with
    | none => simp [Builtin.append_, run_underlying ht, run_underlying ht', sizeOf, typeInfo, hi, Builtin.lenOf, hr, h2]
    | some a => simp [Builtin.append_, run_underlying ht, run_underlying ht', sizeOf, typeInfo, hi, Builtin.lenOf, hr, h2]
  · refine .inr ⟨by omega, grownCap w (sLen + n) sCap el, grownCap_ge w _ _ _, ?_⟩
    have hfit := growslice_fits (show sCap < sLen + n by omega) hby
    have h63' : ¬ (9223372036854775807 < ((sLen : Int) + (n : Int))) := by omega
    have h48' : ¬ (281474976710656 < Builtin.nextslicecap (sLen + n) sCap * i.bytes) := by omega
    have h1 := ho w.drew rfl
    have h2 := hn w.drew rfl
    simp [Builtin.append_, run_underlying ht, run_underlying ht', sizeOf, typeInfo, zeroValue, hi, hz, Builtin.lenOf, hr, h63', h48', Question.forced, h1, h2, newRow, grownCap]
    congr 2
    apply Array.ext'
    simp
def evAppend (P : Program) (M : Mem) (t t' : TypeId) (s x : AV) : Option (AV × Mem) :=
  match P.underlying t, noIntT P t' with
  | some (.slice el), true =>
    match elemOk P el with
    | some (sz, by') =>
      match x with
      | .c .nsl | .c .esl => match s with
        | .c (.sl ..) | .c .nsl | .c .esl => some (s, M)
        | _ => none
      | x =>
        match srcOf M sz x with
        | some (n, y) =>
          if y.one = true ∧ n * by' ≤ 140737488355328 ∧ n ≤ 9223372036854775807 then
            match s with
            | .c .nsl | .c .esl => some (.c (.sl M.length 0 n n sz), M ++ [.row true y])
            | .c (.sl b o len _ sz') =>
              match M[b]? with
              | some (.row true u) =>
                if sz' = sz ∧ o + len * sz ≤ u.size ∧ (len + n) * by' ≤ 140737488355328 ∧ len + n ≤ 9223372036854775807 then
                  match (winA u o (len * sz)).app y with
                  | some z => some (.c (.sl M.length 0 (len + n) (len + n) sz), M.set b .dead ++ [.row true z])
                  | none => none
                else none
              | _ => none
            | _ => none
          else none
        | none => none
    | none => none
  | _, _ => none
theorem app_none {k : Nat} {ι : Emb} {M : Mem} {w : World} (hR : R ι M w) (r : Row) (hk : k ≤ M.length) : Step k ι M w ι (M ++ [r]) w := by
  have pick : ∀ {b : Nat} {l : Loc} {own : Bool} {x : Arr}, ι b = some l → (M ++ [r])[b]? = some (.row own x) → M[b]? = some (.row own x) := by
    intro b l own x hb h
    rcases app_row h with ⟨_, h⟩ | ⟨rfl, _⟩
    · exact h
    · rw [hR.dom M.length (Nat.le_refl _)] at hb; cases hb
  refine Step.make hR (fun b hb => hR.dom b (by simp at hb; omega)) (fun b l own x hb hm => hR.rows b l own x hb (pick hb hm)) (fun b b' l l' o o' x x' hne h1 h2 k1 k2 ho => hR.inj b b' l l' o o' x x' hne h1 h2 (pick h1 k1) (pick h2 k2) ho)
    ⟨rfl, rfl, rfl, Nat.le_refl _, fun _ _ _ => rfl, fun c hc => ?_⟩ rfl (fun _ _ => rfl) (by simp; omega) (fun b x hb hm => by rw [List.getElem?_append_left (by omega)]; exact hm) (fun b own x hb hm => ⟨x, by rwa [List.getElem?_append_left (by omega)] at hm⟩) (fun b l own x hb h1 h2 => .inr (.inr ⟨b, l, own, x, hb, h1, pick h1 h2, rfl⟩))
  obtain ⟨b, l, x, hb, hm, rfl⟩ := hc
  exact .inr ⟨b, l, x, hb, pick hb hm, rfl⟩
theorem relAt_list {ι : Emb} {y : Arr} {l : List Value} (h : ∀ i, i < y.size → ∃ v, l[i]? = some v ∧ (y.get i).rel ι v) (rest : Array Value) : y.relAt ι (l.toArray ++ rest) 0 := fun i hi => by
  obtain ⟨v, hv, hr⟩ := h i hi
  refine ⟨v, ?_, hr⟩
  rw [Nat.zero_add, Array.getElem?_append_left (by have := (List.getElem?_eq_some_iff.1 hv).1; simpa using this)]
  simpa using hv
theorem app_list {ι : Emb} {x y z : Arr} (hz : x.app y = some z) {l m : List Value} (hl : l.length = x.size) (h : ∀ i, i < x.size → ∃ v, l[i]? = some v ∧ (x.get i).rel ι v) (k : ∀ i, i < y.size → ∃ v, m[i]? = some v ∧ (y.get i).rel ι v) :
    ∀ i, i < z.size → ∃ v, (l ++ m)[i]? = some v ∧ (z.get i).rel ι v := by
  obtain ⟨h1, h2⟩ := Arr.app_spec hz
  intro i hi
  rw [h2 i hi]
  by_cases hx : i < x.size
  · rw [if_pos hx, List.getElem?_append_left (by omega)]
    exact h i hx
  · rw [if_neg hx, List.getElem?_append_right (by omega), hl]
    exact k (i - x.size) (by omega)
theorem evAppend_sound {P : Program} {M M' : Mem} {t t' ty : TypeId} {s x v : AV} (h : evAppend P M t t' s x = some (v, M')) {ι : Emb} {w : World} (hR : R ι M w) {p q : Value} (hs : s.rel ι p) (hx : x.rel ι q) :
    ∃ u w' ι', (Builtin.append_ #[t, t'] ty #[p, q]).run P w = .ok u w' ∧ v.rel ι' u ∧ Step M.length ι M w ι' M' w' := by
  unfold evAppend at h
  split at h
  · rename_i el ht ht'
    split at h
    · rename_i sz by' hel
      obtain ⟨i, z, hi, hz, rfl, rfl, hzs, hsz⟩ := elemOk_spec hel
      obtain ⟨e', ht2⟩ := run_zeros ht'
      have triv : ∀ c, (∃ pp, q = .slice pp 0 c) → (v, M') = (s, M) → (∃ pp n c, p = .slice pp n c ∧ n ≤ c) → ∃ u w' ι', (Builtin.append_ #[t, t'] ty #[p, q]).run P w = .ok u w' ∧ v.rel ι' u ∧ Step M.length ι M w ι' M' w' := by
        rintro c ⟨pq, rfl⟩ he ⟨pp, n, cc, rfl, hn⟩
        cases he
        refine ⟨.slice pp n cc, w, ι, ?_, hs, Step.refl hR (Nat.le_refl _)⟩
        have hf : (Builtin.firstCells i.size 0 (.slice pq 0 c)).run P w = .ok #[] w := by
          cases pq with
          | none => exact run_firstCells_none w _ _ _ _
          | some a => exact run_firstCells_some w _ 0 a 0 c [] (by simp) (fun j v h => by simp at h)
        cases pp with
        | none => simp [Builtin.append_, run_underlying ht, run_underlying ht2, sizeOf, typeInfo, hi, Builtin.lenOf, hn, hf]
        | some a => simp [Builtin.append_, run_underlying ht, run_underlying ht2, sizeOf, typeInfo, hi, Builtin.lenOf, hn, hf, storeCells]
      have shape : ∀ (b o len cap sz : Nat), s = .c (.sl b o len cap sz) ∨ s = .c .nsl ∨ s = .c .esl → ∃ pp n c, p = .slice pp n c ∧ n ≤ c := by
        rintro b o len cap sz (rfl | rfl | rfl)
        · obtain ⟨pp, c, rfl, _, h2, _⟩ := hs
          exact ⟨pp, _, c, rfl, h2⟩
        · exact ⟨none, 0, 0, hs, Nat.le_refl _⟩
        · obtain ⟨pp, rfl⟩ := hs
          exact ⟨pp, 0, 0, rfl, Nat.le_refl _⟩
      split at h
      · obtain rfl : q = .slice none 0 0 := hx
        split at h
        · cases h; exact triv 0 ⟨none, rfl⟩ rfl (shape _ _ _ _ _ (.inl rfl))
        · cases h; exact triv 0 ⟨none, rfl⟩ rfl (shape 0 0 0 0 0 (.inr (.inl rfl)))
        · cases h; exact triv 0 ⟨none, rfl⟩ rfl (shape 0 0 0 0 0 (.inr (.inr rfl)))
        · cases h
      · obtain ⟨pq, rfl⟩ := hx
        split at h
        · cases h; exact triv 0 ⟨pq, rfl⟩ rfl (shape _ _ _ _ _ (.inl rfl))
        · cases h; exact triv 0 ⟨pq, rfl⟩ rfl (shape 0 0 0 0 0 (.inr (.inl rfl)))
        · cases h; exact triv 0 ⟨pq, rfl⟩ rfl (shape 0 0 0 0 0 (.inr (.inr rfl)))
        · cases h
      · split at h
        · rename_i n y hsrc
          obtain ⟨qa, c, l, rfl, hnc, hsh⟩ := srcOf_sound hsrc hsz hR hx
          split at h
          · rename_i hc
            obtain ⟨hone, hby, h63⟩ := hc
            -- what is stored is of single cells
            have hl1 : ∀ u ∈ l, u.oneCell' = true := by
              intro u hu
              obtain ⟨j, hj, rfl⟩ := List.mem_iff_getElem.1 hu
              obtain ⟨v', hv', hr⟩ := hsh.rel j (by rw [hsh.size, ← hsh.len]; exact hj)
              rw [List.getElem?_eq_getElem hj] at hv'
              cases hv'
              exact Cell.rel_one hr (Arr.get_one hone (by rw [hsh.size, ← hsh.len]; exact hj))
            -- an empty beginning
            have zero : ∀ pp, p = .slice pp 0 0 → (v, M') = (.c (.sl M.length 0 n n i.size), M ++ [.row true y]) → ∃ u w' ι', (Builtin.append_ #[t, t'] ty #[p, .slice qa n c]).run P w = .ok u w' ∧ v.rel ι' u ∧ Step M.length ι M w ι' M' w' := by
              rintro pp rfl he
              cases he
              have hf : ∀ w', w'.heap = w.heap → (Builtin.firstCells i.size 0 (.slice pp 0 0)).run P w' = .ok ([] : List Value).toArray w' := by
                intro w' _
                cases pp with
                | none => exact run_firstCells_none w' _ _ _ _
                | some a => exact run_firstCells_some w' _ 0 a 0 0 [] (by simp) (fun j v h => by simp at h)
              rcases run_append_any (P := P) (w := w) t t' ty el i z ht ht' hi hz pp qa 0 0 n c [] l hf (fun w' hw => hsh.first P c w' hw) (by simpa using hby) (by simpa using h63) with ⟨hr, e⟩ | ⟨hr, cap', hcap, e⟩
              · obtain rfl : n = 0 := by omega
                obtain rfl : l = [] := List.eq_nil_of_length_eq_zero (by rw [hsh.len]; simp)
                refine ⟨.slice pp 0 0, w, ι, ?_, ⟨pp, 0, rfl, Nat.le_refl _, Nat.le_refl _, .inl rfl⟩, app_none hR _ (Nat.le_refl _)⟩
                rw [e]
                cases pp <;> simp [storeCells]
              · rw [Nat.zero_add] at e hcap hr
                have hst := alloc_step (w' := w.drew.alloc (.cells (([] : List Value).toArray ++ l.toArray ++ Builtin.zeroCells z.cells (cap' - n)) el)) (x := y) (t := el) hR (cs := ([] : List Value).toArray ++ l.toArray ++ Builtin.zeroCells z.cells (cap' - n)) rfl rfl rfl rfl
                  (by simp [hsh.size, hsh.len]) (by
                    have := relAt_list hsh.rel (Builtin.zeroCells z.cells (cap' - n))
                    simpa using this) (Arr.one_noMap hone)
                refine ⟨_, _, _, e, ⟨_, cap', rfl, hcap, hcap, .inr ⟨_, Emb.upd_eq _ _ _, rfl, ?_⟩⟩, hst.1⟩
                simp [hsh.len, size_zeroCells, hzs]
                rw [← Nat.add_mul]; apply Nat.le_of_eq; congr 1; omega
            split at h
            · cases h
              obtain rfl : p = .slice none 0 0 := hs
              exact zero none rfl rfl
            · cases h
              obtain ⟨pp, rfl⟩ := hs
              exact zero pp rfl rfl
            · rename_i b o len cap sz'
              split at h
              · rename_i u0 hm
                split at h
                · rename_i hc
                  obtain ⟨rfl, hle, hby2, h632⟩ := hc
                  split at h
                  · rename_i zz happ
                    cases h
                    have hss : srcOf M i.size (.c (.sl b o len cap i.size)) = some (len, winA u0 o (len * i.size)) := by
                      simp [srcOf, hm, hle]
                    obtain ⟨pa, ca, olds, he, hlc, hold⟩ := srcOf_sound hss hsz hR hs
                    obtain ⟨pa', ca', he', hcc, hlc', h3⟩ := hs
                    rw [he] at he'; cases he'
                    subst he
                    have hrel := app_list happ (by rw [hold.len, hold.size]) hold.rel hsh.rel
                    have hzsize : zz.size = len * i.size + n * i.size := by rw [(Arr.app_spec happ).1, hold.size, hsh.size]
                    have hkill := kill_step hR hm
                    have hum : u0.isMap = false := by
                      cases u0 <;> first | rfl | skip
                      simp only [Arr.size] at hle
                      have e0 : o = 0 ∧ len * i.size = 0 := by omega
                      rw [e0.1, e0.2] at happ
                      simp [winA, Arr.size, Arr.app] at happ
                    rcases run_append_any (P := P) (w := w) t t' ty el i z ht ht' hi hz pa qa len ca n c olds l (fun w' hw => hold.first P ca w' hw) (fun w' hw => hsh.first P c w' hw) hby2 h632 with ⟨hr, e⟩ | ⟨hr, cap', hcap, e⟩
                    · rcases h3 with h3 | ⟨loc, hb, rfl, hfit⟩
                      · subst h3
                        obtain rfl : n = 0 := by omega
                        obtain rfl : len = 0 := by omega
                        obtain rfl : l = [] := List.eq_nil_of_length_eq_zero (by rw [hsh.len]; simp)
                        refine ⟨.slice pa 0 0, w, ι, ?_, ⟨pa, 0, rfl, Nat.le_refl _, Nat.le_refl _, .inl rfl⟩, hkill.comp (app_none hkill.r _ (by simp))⟩
                        rw [e]
                        cases pa <;> simp [storeCells]
                      · obtain ⟨cs, tt, fr, k1, k2, k3, k4⟩ := hR.cells hb hm hum
                        obtain ⟨rfl, k5⟩ := k4 rfl
                        have hcn : (len + n) * i.size ≤ ca * i.size := Nat.mul_le_mul_right _ hr
                        rw [Nat.add_mul] at hcn
                        have hst := run_storeCells_at P loc.c (loc.off + o + len * i.size) tt l 0 cs w k1 (by rw [hsh.len]; omega) hl1
                        simp only [Nat.add_zero] at hst
                        simp only [addr_at, hst, Result.andThen_ok] at e
                        have hcs' : (cs.toList.take (loc.off + o + len * i.size) ++ l ++ cs.toList.drop (loc.off + o + len * i.size + l.length)).toArray.size = cs.size := by
                          simp; rw [hsh.len]; omega
                        have hg := grow_step (y := zz) (o := o) hR hb hm k1 hcs' (by omega) (by omega) (by
                          intro j hj
                          obtain ⟨v', hv', hr'⟩ := hrel j hj
                          refine ⟨v', ?_, hr'⟩
                          rw [← hv']
                          simp only [List.getElem?_toArray]
                          by_cases hj2 : j < len * i.size
                          · rw [List.append_assoc, List.getElem?_append_left (by simp; omega), List.getElem?_take, if_pos (by omega), List.getElem?_append_left (by rw [hold.len]; exact hj2)]
                            have hj3 : j < olds.length := by rw [hold.len]; exact hj2
                            have h7 : olds[j]? = some (olds[j]'hj3) := List.getElem?_eq_getElem hj3
                            have := hold.cells _ rfl j _ h7
                            rw [addr_at, cell_of k1] at this
                            rw [h7, ← this, Array.getElem?_toList]
                          · rw [List.getElem?_append_left (by simp; rw [hsh.len]; omega), List.getElem?_append_right (by simp; omega), List.getElem?_append_right (by rw [hold.len]; omega)]
                            congr 1
                            rw [hold.len]
                            simp; omega) (Arr.app_noMap happ)
                        refine ⟨_, _, _, e, ⟨_, ca, rfl, hr, hr, .inr ⟨_, Emb.upd_eq _ _ _, rfl, ?_⟩⟩, hg.1⟩
                        simp only
                        omega
                    · have hst := alloc_step (w' := w.drew.alloc (.cells (olds.toArray ++ l.toArray ++ Builtin.zeroCells z.cells (cap' - (len + n))) el)) (x := zz) (t := el) hkill.r (cs := olds.toArray ++ l.toArray ++ Builtin.zeroCells z.cells (cap' - (len + n))) rfl rfl rfl rfl
                        (by simp [hzsize, hsh.len, hold.len]) (by
                          have := relAt_list hrel (Builtin.zeroCells z.cells (cap' - (len + n)))
                          simpa using this) (Arr.app_noMap happ)
                      simp only [List.length_set] at hst
                      refine ⟨_, _, _, e, ⟨_, cap', rfl, hcap, hcap, .inr ⟨_, Emb.upd_eq _ _ _, rfl, ?_⟩⟩, hkill.comp hst.1⟩
                      simp [hsh.len, hold.len, size_zeroCells, hzs]
                      rw [← Nat.add_mul, ← Nat.add_mul]; apply Nat.le_of_eq; congr 1; omega
                  · cases h
                · cases h
              · cases h
            · cases h
          · cases h
        · cases h
    · cases h
  · cases h
end Go.Proofs.YtmbepikkgkcgkaaGreatDoor
namespace Go.Proofs.YtmbepikkgkcgkaaGreatDoor
open Go.RowKit
def fillA (pl : Nat → Option (Nat × Nat)) : Arr → List (Nat × AV) → Option Arr
  | x, [] => some x
  | x, (i, v) :: r =>
    match pl i, v with
    | some (off, sz), .c y => if sz = 1 ∧ y.one = true ∧ off < x.size then (x.set off y).bind (fillA pl · r) else none
    | some (off, sz), .agg y => if sz = y.size ∧ off + y.size ≤ x.size then (x.putW off y).bind (fillA pl · r) else none
    | _, _ => none
def PartsRel (ι : Emb) : List (Nat × AV) → List (Nat × Value) → Prop
  | [], [] => True
  | (i, a) :: l, (j, v) :: m => i = j ∧ a.rel ι v ∧ PartsRel ι l m
  | _, _ => False
theorem cells_one {v : Value} (h : v.oneCell' = true) : v.cells = #[v] := by cases v <;> first | rfl | cases h
theorem fillA_sound {pl : Nat → Option (Nat × Nat)} {ι : Emb} : ∀ {parts : List (Nat × AV)} {vs : List (Nat × Value)} {x y : Arr} {cs : Array Value}, fillA pl x parts = some y → PartsRel ι parts vs → cs.size = x.size → x.relAt ι cs 0 →
    ∃ cs', Instr.fill pl cs vs = some cs' ∧ cs'.size = y.size ∧ y.relAt ι cs' 0
  | [], vs, x, y, cs, h, hp, hs, hr => by
    cases vs with
    | nil => cases h; exact ⟨cs, rfl, hs, hr⟩
    | cons => exact hp.elim
  | (i, a) :: l, vs, x, y, cs, h, hp, hs, hr => by
    cases vs with
    | nil => exact hp.elim
    | cons p m =>
      obtain ⟨j, v⟩ := p
      obtain ⟨rfl, ha, hp⟩ := hp
      unfold fillA at h
      split at h
      · rename_i off sz c hpl
        split at h
        · rename_i hc
          obtain ⟨rfl, hone, hlt⟩ := hc
          obtain ⟨x', hx', h⟩ := Option.bind_eq_some_iff.1 h
          obtain ⟨s1, s2⟩ := Arr.set_spec hx'
          have h1 : v.oneCell' = true := Cell.rel_one ha hone
          have hv := cells_one h1
          have hset : (cs.setIfInBounds off v).size = x'.size := by simp [s1, hs]
          obtain ⟨cs', hf, r1, r2⟩ := fillA_sound (cs := cs.setIfInBounds off v) h hp hset (fun k hk => by
            rw [s1] at hk
            rw [s2 k hk, Nat.zero_add]
            by_cases e : k = off
            · subst e; rw [if_pos rfl]
              exact ⟨v, by simp [hs, hk], ha⟩
            · rw [if_neg e]
              obtain ⟨u, hu, hru⟩ := hr k hk
              exact ⟨u, by rw [Array.getElem?_setIfInBounds_ne (fun h => e h.symm)]; rw [Nat.zero_add] at hu; exact hu, hru⟩)
          refine ⟨cs', ?_, r1, r2⟩
          unfold Instr.fill
          simp only [hpl, hv]
          rw [if_neg (by simp; omega)]
          rw [← hf]
          simp
        · cases h
      · rename_i off sz z hpl
        split at h
        · rename_i hc
          obtain ⟨rfl, hle⟩ := hc
          obtain ⟨x', hx', h⟩ := Option.bind_eq_some_iff.1 h
          obtain ⟨s1, s2⟩ := Arr.putW_spec hx' hle
          obtain ⟨zs, rfl, hzs, hzr⟩ := ha
          obtain ⟨g1, g2⟩ := Great.foldl_set off zs.toList 0 cs
          obtain ⟨cs', hf, r1, r2⟩ := fillA_sound (cs := (zs.toList.zipIdx 0).foldl (fun cs (x : Value × Nat) => cs.setIfInBounds (off + x.2) x.1) cs) h hp (by rw [g1, s1, hs]) (fun k hk => by
            rw [s1] at hk
            rw [s2 k hk, Nat.zero_add, g2 k]
            by_cases e : off ≤ k ∧ k < off + z.size
            · rw [if_pos e, if_pos ⟨by omega, by simp; omega, by omega⟩]
              obtain ⟨u, hu, hru⟩ := hzr (k - off) (by omega)
              rw [Nat.zero_add] at hu
              refine ⟨u, ?_, hru⟩
              rw [Nat.add_zero]
              simpa using hu
            · rw [if_neg e, if_neg (by simp; omega)]
              obtain ⟨u, hu, hru⟩ := hr k hk
              rw [Nat.zero_add] at hu
              exact ⟨u, hu, hru⟩)
          refine ⟨cs', ?_, r1, r2⟩
          unfold Instr.fill
          have e1 : (Value.agg zs).cells = zs := rfl
          simp only [hpl, e1]
          rw [if_neg (by simp; omega)]
          rw [← hf]
          congr 1
          simp only [← Array.foldl_toList, Array.toList_zipIdx]
        · cases h
      · cases h
def denseA : Nat → List (Nat × AV) → Option (List Value)
  | _, [] => some []
  | i, (j, .c (.val v)) :: r => if j = i ∧ v.oneCell' = true then (denseA (i + 1) r).map (v :: ·) else none
  | _, _ => none
theorem denseA_sound {ι : Emb} : ∀ {i : Nat} {parts : List (Nat × AV)} {vs : List Value} {ps : List (Nat × Value)}, denseA i parts = some vs → PartsRel ι parts ps → ps = (vs.zipIdx i).map (fun x => (x.2, x.1)) ∧ ∀ v ∈ vs, v.oneCell' = true
  | i, [], vs, ps, h, hp => by
    cases ps with
    | nil => simp only [denseA, Option.some.injEq] at h; subst h; exact ⟨rfl, fun v h => by cases h⟩
    | cons => exact hp.elim
  | i, (j, a) :: l, vs, ps, h, hp => by
    cases ps with
    | nil => exact hp.elim
    | cons p m =>
      obtain ⟨j', u⟩ := p
      obtain ⟨rfl, ha, hp⟩ := hp
      unfold denseA at h
      split at h
      · rename_i heq; cases heq
      · rename_i j2 v2 r2 heq
        cases heq
        split at h
        · rename_i hc
          obtain ⟨rfl, hone⟩ := hc
          obtain ⟨ws, hw, rfl⟩ := Option.map_eq_some_iff.1 h
          obtain ⟨e1, e2⟩ := denseA_sound hw hp
          obtain rfl : u = _ := ha
          refine ⟨by rw [e1]; rfl, fun x hx => ?_⟩
          rcases List.mem_cons.1 hx with rfl | hx
          · exact hone
          · exact e2 x hx
        · cases h
      · cases h
theorem fill_flat1 {vs : List Value} {cs : Array Value} (h1 : ∀ v ∈ vs, v.oneCell' = true) (hs : cs.size = vs.length) : Instr.fill (fun i => some (i * 1, 1)) cs ((vs.zipIdx 0).map fun x => (x.2, x.1)) = some vs.toArray :=
  Great.fill_flat _ _ (fun v hv => by rw [cells_one (h1 v hv)]) hs.symm
def evBuild (P : Program) (t : TypeId) (parts : List (Nat × AV)) : Option AV :=
  match P.info? t, P.underlying t with
  | some it, some (.array n e) =>
    match it.zero, P.info? e with
    | some z, some ie =>
      match (if ie.size = 1 ∧ parts.length = n ∧ z.cells.size = n then denseA 0 parts else none) with
      | some vs => some (.agg (absArr vs))
      | none => (fillA (fun i => some (i * ie.size, ie.size)) (absArr z.cells.toList) parts).map .agg
    | _, _ => none
  | some it, some (.struct fields) =>
    match it.zero, fields.toList.mapM (fun f => (P.info? f.type).map fun i => (f.offset, i.size)) with
    | some z, some places => (fillA (places.toArray[·]?) (absArr z.cells.toList) parts).map .agg
    | _, _ => none
  | _, _ => none
theorem denseA_len : ∀ {i : Nat} {parts : List (Nat × AV)} {vs : List Value}, denseA i parts = some vs → vs.length = parts.length
  | i, [], vs, h => by simp only [denseA, Option.some.injEq] at h; subst h; rfl
  | i, (j, a) :: l, vs, h => by
    unfold denseA at h
    split at h
    · rename_i heq; cases heq
    · rename_i heq
      cases heq
      split at h
      · obtain ⟨ws, hw, rfl⟩ := Option.map_eq_some_iff.1 h
        simp [denseA_len hw]
      · cases h
    · cases h
theorem absArr_list (ι : Emb) (vs : List Value) : (absArr vs).relAt ι vs.toArray 0 := by have := absArr_at ι vs.toArray; simpa using this
theorem evBuild_sound {P : Program} {t : TypeId} {parts : List (Nat × AV)} {v : AV} (h : evBuild P t parts = some v) {ι : Emb} {vs : Array (Nat × Value)} (hp : PartsRel ι parts vs.toList) (w : World) : ∃ u, (Instr.build t vs).run P w = .ok u w ∧ v.rel ι u := by
  unfold evBuild at h
  split at h
  · rename_i it n e hit hu
    split at h
    · rename_i z ie hz hie
      split at h
      · rename_i us hus
        split at hus
        · rename_i hc
          cases h
          obtain ⟨e1, e2⟩ := denseA_sound hus hp
          have hl := denseA_len hus
          refine ⟨.agg us.toArray, run_build w t vs _ ?_, ⟨_, rfl, by rw [(absArr_rel ι us).1]; simp, absArr_list ι us⟩⟩
          unfold Program.built
          simp only [hit, hu, hz, hie]
          rw [e1, hc.1]
          exact fill_flat1 e2 (by omega)
        · cases hus
      · obtain ⟨y, hy, rfl⟩ := Option.map_eq_some_iff.1 h
        obtain ⟨cs', k1, k2, k3⟩ := fillA_sound hy hp (cs := z.cells) (by rw [(absArr_rel ι _).1]; simp) (absArr_at ι _)
        refine ⟨.agg cs', run_build w t vs _ ?_, ⟨_, rfl, k2, k3⟩⟩
        unfold Program.built
        simp only [hit, hu, hz, hie]
        exact k1
    · cases h
  · rename_i it fields hit hu
    split at h
    · rename_i z places hz hpl
      obtain ⟨y, hy, rfl⟩ := Option.map_eq_some_iff.1 h
      obtain ⟨cs', k1, k2, k3⟩ := fillA_sound hy hp (cs := z.cells) (by rw [(absArr_rel ι _).1]; simp) (absArr_at ι _)
      refine ⟨.agg cs', run_build w t vs _ ?_, ⟨_, rfl, k2, k3⟩⟩
      unfold Program.built
      simp only [hit, hu, hz, hpl]
      exact k1
    · cases h
  · cases h
def MemOk (P : Program) (ι : Emb) (M : Mem) (w : World) (v : AV) (M' : Mem) (s : Sem Value) : Prop := ∃ u w' ι', s.run P w = .ok u w' ∧ v.rel ι' u ∧ Step M.length ι M w ι' M' w'
def repArr (P : Program) (el : TypeId) (n : Nat) : Option Arr :=
  match P.info? el with
  | some i => match i.zero with
    | some (.int .u8 0) => some (.a8 (List.replicate n 0#8))
    | some (.int .u32 0) => some (.a32 (List.replicate n 0#32))
    | some (.int .u64 0) => some (.a64 (List.replicate n 0#64))
    | some (.int .i64 0) => some (.ai (List.replicate n 0))
    | some z => if z.oneCell' then some (.ac (List.replicate n (absCell z))) else if n * i.size ≤ 4096 then some (absArr ((List.range (n * i.size)).map fun k => z.cells[k % z.cells.size]!)) else none
    | none => none
  | none => none
theorem absArr_noMap (vs : List Value) : (absArr vs).isMap = false := by
  unfold absArr
  split
  · rfl
  · split
    · rfl
    · split
      · rfl
      · split <;> rfl
theorem repArr_noMap {P : Program} {el : TypeId} {n : Nat} {x : Arr} (h : repArr P el n = some x) : x.isMap = false := by
  unfold repArr at h
  split at h
  · split at h <;> first | (cases h; rfl) | skip
    split at h
    · cases h; rfl
    · split at h
      · cases h; exact absArr_noMap _
      · cases h
    · cases h
  · cases h
theorem repArr_sound {P : Program} {el : TypeId} {n : Nat} {x : Arr} (h : repArr P el n = some x) {i : TypeInfo} {z : Value} (hi : P.info? el = some i) (hz : i.zero = some z) (hs : z.cells.size = i.size) (ι : Emb) :
    x.size = n * i.size ∧ x.relAt ι ((Array.range (n * i.size)).map (z.cells[· % z.cells.size]!)) 0 := by
  have one : ∀ (c : Cell) (l : Arr), z.oneCell' = true → l.size = n → (∀ k, k < n → l.get k = c) → c.rel ι z → l.size = n * i.size ∧ l.relAt ι ((Array.range (n * i.size)).map (z.cells[· % z.cells.size]!)) 0 := by
    intro c l h1 hl hg hr
    have hc := cells_one h1
    have h1' : i.size = 1 := by rw [← hs, hc]; rfl
    refine ⟨by rw [hl, h1']; omega, fun k hk => ⟨z, ?_, by rw [hg k (by omega)]; exact hr⟩⟩
    have hkn : k < n * i.size := by rw [h1']; omega
    rw [Nat.zero_add, Array.getElem?_map, Array.getElem?_range, if_pos hkn, hc]
    simp [Nat.mod_one]
  unfold repArr at h
  rw [hi] at h
  simp only [hz] at h
  split at h <;> (try cases h)
  · rename_i e; cases e
    exact one (.val (.int .u8 0)) _ rfl (by simp [Arr.size]) (fun k hk => by simp [Arr.get, nth, hk, tn]) rfl
  · rename_i e; cases e
    exact one (.val (.int .u32 0)) _ rfl (by simp [Arr.size]) (fun k hk => by simp [Arr.get, nth, hk, tn]) rfl
  · rename_i e; cases e
    exact one (.val (.int .u64 0)) _ rfl (by simp [Arr.size]) (fun k hk => by simp [Arr.get, nth, hk, tn]) rfl
  · rename_i e; cases e
    exact one (.val (.int .i64 0)) _ rfl (by simp [Arr.size]) (fun k hk => by simp [Arr.get, geti, hk]) rfl
  · rename_i z' _ _ _ _ e; cases e
    split at h
    · rename_i h1
      cases h
      exact one (absCell z) _ h1 (by simp [Arr.size]) (fun k hk => by simp [Arr.get, getc, hk]) (absCell_rel ι z)
    · split at h
      · cases h
        refine ⟨by rw [(absArr_rel ι _).1]; simp, ?_⟩
        have := absArr_list ι ((List.range (n * i.size)).map fun k => z.cells[k % z.cells.size]!)
        have e : ((List.range (n * i.size)).map fun k => z.cells[k % z.cells.size]!).toArray = (Array.range (n * i.size)).map (z.cells[· % z.cells.size]!) := by
          apply Array.ext'; simp
        rw [e] at this
        exact this
      · cases h
def evBuildSlice (P : Program) (M : Mem) (t : TypeId) (len : Nat) (parts : List (Nat × AV)) : Option (AV × Mem) :=
  match P.underlying t with
  | some (.slice el) =>
    match elemOk P el with
    | some (sz, _) =>
      if len = 0 then (if parts.length = 0 then some (.c .esl, M) else none)
      else if len * sz ≤ 16777216 then
        match (if sz = 1 ∧ parts.length = len then denseA 0 parts else none) with
        | some vs => some (.c (.sl M.length 0 len len sz), M ++ [.row true (absArr vs)])
        | none => match repArr P el len with
          | some x => match fillA (fun i => some (i * sz, sz)) x parts with
            | some y => some (.c (.sl M.length 0 len len sz), M ++ [.row true y])
            | none => none
          | none => none
      else none
    | none => none
  | _ => none
theorem run_buildSlice0 {P : Program} {t el : TypeId} {i : TypeInfo} (hu : P.underlying t = some (.slice el)) (hi : P.info? el = some i) (w : World) : (Instr.buildSlice t 0 #[]).run P w = .ok (.slice (some ⟨w.heap.size, 0, none⟩) 0 0) (w.alloc (.cells #[] el)) := by
  simp [Instr.buildSlice, run_underlying hu, sizeOf, typeInfo, hi, Instr.fill, newRow, show Array.range 0 = #[] from rfl]
theorem alloc_plain {ι : Emb} {M : Mem} {w : World} (hR : R ι M w) (cs : Array Value) (t : TypeId) : Step M.length ι M w ι M (w.alloc (.cells cs t)) := by
  have old : ∀ c, c < w.heap.size → (w.alloc (.cells cs t)).heap[c]? = w.heap[c]? := fun c hc => by rw [heap_alloc_if, if_neg (by omega)]
  refine Step.make hR hR.dom (fun b l own x hb hm => ?_) hR.inj ⟨rfl, rfl, rfl, by rw [size_alloc]; omega, fun c hc _ => old c hc, fun c h => .inr h⟩ rfl (fun _ _ => rfl) (Nat.le_refl _) (fun _ _ _ h => h) (fun _ _ x _ h => ⟨x, h⟩) (fun b l own x hb h1 h2 => (no_row hb h2).elim)
  exact (hR.rows b l own x hb hm).heap (old _ (hR.lt hb hm)) (.refl _)
theorem new_slice {P : Program} {ι : Emb} {M : Mem} {w : World} (hR : R ι M w) {cs : Array Value} {t : TypeId} {x : Arr} {len sz : Nat} {s : Sem Value} (hs : cs.size = len * sz) (hxs : x.size ≤ cs.size) (hx : x.relAt ι cs 0) (hmp : x.isMap = false)
    (hrun : s.run P w = .ok (.slice (some ⟨w.heap.size, 0, none⟩) len len) (w.alloc (.cells cs t))) : MemOk P ι M w (.c (.sl M.length 0 len len sz)) (M ++ [.row true x]) s := by
  have hst := alloc_step (w' := w.alloc (.cells cs t)) (t := t) hR rfl rfl rfl rfl hxs hx hmp
  exact ⟨_, _, _, hrun, ⟨_, len, rfl, Nat.le_refl _, Nat.le_refl _, .inr ⟨_, Emb.upd_eq _ _ _, rfl, by simp only; omega⟩⟩, hst.1⟩
theorem evBuildSlice_sound {P : Program} {M M' : Mem} {t : TypeId} {len : Nat} {parts : List (Nat × AV)} {v : AV} (h : evBuildSlice P M t len parts = some (v, M')) {ι : Emb} {w : World} (hR : R ι M w) {vs : Array (Nat × Value)} (hp : PartsRel ι parts vs.toList) :
    MemOk P ι M w v M' (Instr.buildSlice t len vs) := by
  unfold evBuildSlice at h
  split at h
  · rename_i el hu
    split at h
    · rename_i sz by' hel
      obtain ⟨i, z, hi, hz, rfl, rfl, hzs, hsz⟩ := elemOk_spec hel
      split at h
      · rename_i h0
        subst h0
        split at h
        · rename_i hpl
          cases h
          obtain rfl : parts = [] := List.eq_nil_of_length_eq_zero hpl
          have hv : vs = #[] := by
            cases hl : vs.toList with
            | nil => exact Array.toList_eq_nil_iff.1 hl
            | cons a b => rw [hl] at hp; exact hp.elim
          subst hv
          exact ⟨_, _, ι, run_buildSlice0 hu hi w, ⟨_, rfl⟩, alloc_plain hR _ _⟩
        · cases h
      · rename_i h0
        split at h
        · rename_i hle
          have hpos : ¬ len * i.size = 0 := by
            have := Nat.mul_pos (Nat.pos_of_ne_zero h0) hsz
            omega
          split at h
          · rename_i us hus
            split at hus
            · rename_i hc
              cases h
              obtain ⟨e1, e2⟩ := denseA_sound hus hp
              have hl := denseA_len hus
              refine new_slice hR (cs := us.toArray) (by rw [hc.1]; simp; omega) (by rw [(absArr_rel ι us).1]; simp) (absArr_list ι us) (absArr_noMap us) (run_buildSlice w t el len vs _ i z hu hi hz (by omega) hpos ?_)
              rw [e1, hc.1]
              exact fill_flat1 e2 (by simp; omega)
            · cases hus
          · split at h
            · rename_i x hx
              split at h
              · rename_i y hy
                cases h
                obtain ⟨r1, r2⟩ := repArr_sound hx hi hz hzs ι
                obtain ⟨cs', k1, k2, k3⟩ := fillA_sound hy hp (cs := (Array.range (len * i.size)).map (z.cells[· % z.cells.size]!)) (by rw [r1]; simp) r2
                have hys : y.size = len * i.size := by
                  have : ∀ {pl : Nat → Option (Nat × Nat)} {parts : List (Nat × AV)} {x y : Arr}, fillA pl x parts = some y → y.size = x.size := by
                    intro pl parts
                    induction parts with
                    | nil => intro x y h; cases h; rfl
                    | cons p l ih =>
                      intro x y h
                      obtain ⟨j, a⟩ := p
                      unfold fillA at h
                      split at h
                      · split at h
                        · obtain ⟨x', hx', h⟩ := Option.bind_eq_some_iff.1 h
                          rw [ih h, (Arr.set_spec hx').1]
                        · cases h
                      · split at h
                        · rename_i hc
                          obtain ⟨x', hx', h⟩ := Option.bind_eq_some_iff.1 h
                          rw [ih h, (Arr.putW_spec hx' hc.2).1]
                        · cases h
                      · cases h
                  rw [this hy, r1]
                exact new_slice hR (by rw [k2, hys]) (by rw [k2]; exact Nat.le_refl _) k3 (Arr.noMap (by rw [hys]; omega)) (run_buildSlice w t el len vs _ i z hu hi hz (by omega) hpos k1)
              · cases h
            · cases h
        · cases h
    · cases h
  · cases h
def evMakeSlice (P : Program) (M : Mem) (t : TypeId) (l c : AV) : Option (AV × Mem) :=
  match P.underlying t, intOf? l, intOf? c with
  | some (.slice el), some n, some m =>
    match elemOk P el with
    | some (sz, by') =>
      if 0 ≤ n ∧ n ≤ m ∧ m * by' ≤ 281474976710656 ∧ m ≤ 9223372036854775807 then
        (repArr P el m.toNat).map fun x => (.c (.sl M.length 0 n.toNat m.toNat sz), M ++ [.row true x])
      else none
    | none => none
  | _, _, _ => none
theorem wrap_small {m : Int} (h0 : 0 ≤ m) (h1 : m ≤ 9223372036854775807) : IntKind.i64.wrap m = m :=
  IntWalk.i64_in m (by omega)
theorem evMakeSlice_sound {P : Program} {M M' : Mem} {t : TypeId} {l c v : AV} (h : evMakeSlice P M t l c = some (v, M')) {ι : Emb} {w : World} (hR : R ι M w) {p q : Value} (hl : l.rel ι p) (hc : c.rel ι q) :
    MemOk P ι M w v M' (Instr.makeSlice t p q) := by
  unfold evMakeSlice at h
  split at h
  · rename_i el n m hu hn hm
    obtain ⟨k1, rfl⟩ := intOf_rel hn hl
    obtain ⟨k2, rfl⟩ := intOf_rel hm hc
    split at h
    · rename_i sz by' hel
      obtain ⟨i, z, hi, hz, rfl, rfl, hzs, hsz⟩ := elemOk_spec hel
      split at h
      · rename_i hcc
        obtain ⟨c0, c1, c2, c3⟩ := hcc
        obtain ⟨x, hx, he⟩ := Option.map_eq_some_iff.1 h
        cases he
        obtain ⟨nn, rfl⟩ := Int.eq_ofNat_of_zero_le c0
        obtain ⟨mm, rfl⟩ := Int.eq_ofNat_of_zero_le (Int.le_trans c0 c1)
        simp only [Int.toNat_natCast] at hx ⊢
        obtain ⟨r1, r2⟩ := repArr_sound hx hi hz hzs ι
        have w1 := wrap_small (m := (nn : Int)) (by omega) (by omega)
        have w2 := wrap_small (m := (mm : Int)) (by omega) c3
        have hb : ¬ (281474976710656 : Int) < i.bytes * mm := by rw [Int.mul_comm]; omega
        have e0 : (if mm * i.size = 0 then #[] else z.cells : Array Value) = #[] ∨ (if mm * i.size = 0 then #[] else z.cells : Array Value) = z.cells := by split <;> simp
        have hrun : (Instr.makeSlice t (.int k1 nn) (.int k2 mm)).run P w = .ok (.slice (some ⟨w.heap.size, 0, none⟩) nn mm) (w.alloc (.cells ((Array.range (mm * i.size)).map (z.cells[· % z.cells.size]!)) el)) := by
          by_cases hz0 : mm * i.size = 0
          · have hmm : ¬ (mm < nn) := by omega
            simp [Instr.makeSlice, run_underlying hu, asInt, asIntOf, typeInfo, sizeOf, hi, w1, w2, hb, hmm, hz0, newRow, show Array.range 0 = #[] from rfl]
            intro hneg; exfalso; omega
          · have hmm : ¬ (mm < nn) := by omega
            simp [Instr.makeSlice, run_underlying hu, asInt, asIntOf, typeInfo, sizeOf, zeroValue, hi, hz, w1, w2, hb, hmm, hz0, newRow]
            intro hneg; exfalso; omega
        have hst := alloc_step (w' := w.alloc (.cells ((Array.range (mm * i.size)).map (z.cells[· % z.cells.size]!)) el)) (t := el) hR rfl rfl rfl rfl (by rw [r1]; simp) r2 (repArr_noMap hx)
        exact ⟨_, _, _, hrun, ⟨_, mm, rfl, Nat.le_refl _, by omega, .inr ⟨_, Emb.upd_eq _ _ _, rfl, by simp⟩⟩, hst.1⟩
      · cases h
    · cases h
  · cases h
def rowOfV : AV → Option Arr
  | .agg y => if y.isMap = true then none else some y
  | .c (.val v) => if v.oneCell' then some (absArr [v]) else none
  | .c .any => none
  | .c y => some (.ac [y])
  | .tup _ => none
theorem rowOfV_sound {v : AV} {x : Arr} (h : rowOfV v = some x) {ι : Emb} {u : Value} (hr : v.rel ι u) : x.size = u.cells.size ∧ x.relAt ι u.cells 0 := by
  unfold rowOfV at h
  split at h <;> (try cases h)
  · split at h
    · cases h
    · cases h
      obtain ⟨cs, rfl, h1, h2⟩ := hr
      exact ⟨h1.symm, h2⟩
  · split at h
    · rename_i h1
      cases h
      obtain rfl : u = _ := hr
      rw [cells_one h1]
      exact ⟨by rw [(absArr_rel ι _).1]; rfl, absArr_list ι [u]⟩
    · cases h
  · rename_i y hn1 hn2
    have hone : y.one = true := by
      cases y with
      | any => exact absurd rfl hn2
      | val v => exact absurd rfl (hn1 v)
      | _ => rfl
    have h1 := Cell.rel_one hr hone
    rw [cells_one h1]
    refine ⟨rfl, fun i hi => ⟨u, ?_, ?_⟩⟩
    · obtain rfl : i = 0 := by simp [Arr.size] at hi; exact hi
      rfl
    · obtain rfl : i = 0 := by simp [Arr.size] at hi; exact hi
      exact hr
theorem rowOfV_noMap {v : AV} {x : Arr} (h : rowOfV v = some x) : x.isMap = false := by
  unfold rowOfV at h
  split at h <;> (try cases h)
  · split at h
    · cases h
    · rename_i hm; cases h; simpa using hm
  · split at h
    · cases h; exact absArr_noMap _
    · cases h
  · rfl
def evAlloc (P : Program) (M : Mem) (t : TypeId) : Option (AV × Mem) :=
  match P.info? t with
  | some i => match i.zero with
    | some z => some (.c (.ptr M.length 0), M ++ [.row true (absArr z.cells.toList)])
    | none => none
  | none => none
theorem evAlloc_sound {P : Program} {M M' : Mem} {t : TypeId} {v : AV} (h : evAlloc P M t = some (v, M')) {ι : Emb} {w : World} (hR : R ι M w) : MemOk P ι M w v M' (Instr.alloc t true (.tuple #[])) := by
  unfold evAlloc at h
  split at h
  · rename_i i hi
    split at h
    · rename_i z hz
      cases h
      have hst := alloc_step (w' := w.alloc (.cells z.cells t)) (t := t) hR rfl rfl rfl rfl (by rw [(absArr_rel ι z.cells.toList).1]; simp) (absArr_at ι z.cells) (absArr_noMap _)
      refine ⟨.pointer (some ⟨w.heap.size, 0, none⟩), _, _, ?_, ⟨_, Emb.upd_eq _ _ _, rfl⟩, hst.1⟩
      simp [Instr.alloc, zeroValue, typeInfo, hi, hz, newVar, newRow]
    · cases h
  · cases h
def evBox (M : Mem) (v : AV) : Option (AV × Mem) := (rowOfV v).map fun x => (.c (.ptr M.length 0), M ++ [.row true x])
theorem evBox_sound {P : Program} {M M' : Mem} {t : TypeId} {x v : AV} (h : evBox M x = some (v, M')) {ι : Emb} {w : World} (hR : R ι M w) {u : Value} (hx : x.rel ι u) : MemOk P ι M w v M' (Instr.box t u) := by
  obtain ⟨y, hy, he⟩ := Option.map_eq_some_iff.1 h
  cases he
  obtain ⟨r1, r2⟩ := rowOfV_sound hy hx
  have hst := alloc_step (w' := w.alloc (.cells u.cells t)) (t := t) hR rfl rfl rfl rfl (by rw [r1]; exact Nat.le_refl _) r2 (rowOfV_noMap hy)
  refine ⟨.pointer (some ⟨w.heap.size, 0, none⟩), _, _, ?_, ⟨_, Emb.upd_eq _ _ _, rfl⟩, hst.1⟩
  simp [Instr.box, newVar, newRow]
def evStore (P : Program) (M : Mem) (t : TypeId) (a v : AV) : Option Mem :=
  match a with
  | .c (.ptr b o) =>
    match M[b]? with
    | some (.row true x) =>
      match v with
      | .c y => if y.one = true ∧ szT P t = some 1 ∧ o < x.size then (x.set o y).map fun z => M.set b (.row true z) else none
      | .agg y => if y.one = true ∧ szT P t = some y.size ∧ o + y.size ≤ x.size ∧ x.isMap = false then
          (if o = 0 ∧ y.size = x.size then some (M.set b (.row true y)) else (x.putW o y).map fun z => M.set b (.row true z)) else none
      | .tup _ => none
    | _ => none
  | _ => none
theorem run_storeVar_cells {P : Program} {w : World} {t : TypeId} {c o : Nat} {cs : Array Value} {t' : TypeId} {v : Value} (hsz : szT P t = some v.cells.size) (h : w.heap[c]? = some (.cells cs t' (0, 0))) (hfit : o + v.cells.size ≤ cs.size) (h1 : ∀ u ∈ v.cells.toList, u.oneCell' = true) :
    (storeVar t ⟨c, o, none⟩ v).run P w = .ok () (w.setRow c (cs.toList.take o ++ v.cells.toList ++ cs.toList.drop (o + v.cells.toList.length)).toArray) := by
  have hst := run_storeCells_at P c o t' v.cells.toList 0 cs w h (by simpa using hfit) h1
  simp only [Nat.add_zero] at hst
  simp only [storeVar, Sem.run_bind, run_sizeT hsz, Result.andThen_ok]
  rw [if_neg (by simp)]
  simpa using hst
theorem over_rel {ι : Emb} {x z : Arr} {cs vs : Array Value} {off o : Nat} {g : Nat → Cell} (hx : x.relAt ι cs off) (hz : z.size = x.size) (hfit : o + vs.size ≤ x.size)
    (hg : ∀ j, j < x.size → z.get j = if o ≤ j ∧ j < o + vs.size then g (j - o) else x.get j) (hv : ∀ j, j < vs.size → ∃ v, vs[j]? = some v ∧ (g j).rel ι v) :
    z.relAt ι (cs.toList.take (off + o) ++ vs.toList ++ cs.toList.drop (off + o + vs.toList.length)).toArray off := by
  intro j hj
  rw [hz] at hj
  rw [hg j hj]
  obtain ⟨u, hu, hr⟩ := hx j hj
  have hjc := (Array.getElem?_eq_some_iff.1 hu).1
  obtain ⟨u2, hu2, _⟩ := hx (o + vs.size - 1) (by omega)
  have hjc2 := (Array.getElem?_eq_some_iff.1 hu2).1
  have htl : (List.take (off + o) cs.toList).length = off + o := by simp; omega
  simp only [List.getElem?_toArray]
  by_cases e : o ≤ j ∧ j < o + vs.size
  · rw [if_pos e]
    obtain ⟨v, hv', hr'⟩ := hv (j - o) (by omega)
    refine ⟨v, ?_, hr'⟩
    rw [List.getElem?_append_left (by rw [List.length_append, htl]; simp; omega), List.getElem?_append_right (by omega), htl, ← hv', Array.getElem?_toList]
    congr 1; omega
  · rw [if_neg e]
    refine ⟨u, ?_, hr⟩
    by_cases e2 : j < o
    · rw [List.append_assoc, List.getElem?_append_left (by omega), List.getElem?_take, if_pos (by omega), Array.getElem?_toList]; exact hu
    · rw [List.getElem?_append_right (by rw [List.length_append, htl]; simp; omega), List.getElem?_drop, List.length_append, htl, Array.getElem?_toList, ← hu]
      congr 1
      simp; omega
theorem evStore_sound {P : Program} {M M' : Mem} {t : TypeId} {a v : AV} (h : evStore P M t a v = some M') {ι : Emb} {w : World} (hR : R ι M w) {p q : Value} (ha : a.rel ι p) (hv : v.rel ι q) :
    ∃ w', (Instr.storeAt t p q).run P w = .ok () w' ∧ Step M.length ι M w ι M' w' := by
  unfold evStore at h
  split at h
  · rename_i b o
    obtain ⟨loc, hb, rfl⟩ := ha
    split at h
    · rename_i x hm
      have hxm : x.isMap = false := by
        split at h
        · split at h
          · rename_i hc; exact Arr.noMap (by omega)
          · cases h
        · split at h
          · rename_i hc; exact hc.2.2.2
          · cases h
        · cases h
      obtain ⟨cs, t', fr, k1, k2, k3, k4⟩ := hR.cells hb hm hxm
      obtain ⟨rfl, k5⟩ := k4 rfl
      have sz : ∀ {vs : Array Value}, loc.off + o + vs.size ≤ cs.size → (cs.toList.take (loc.off + o) ++ vs.toList ++ cs.toList.drop (loc.off + o + vs.toList.length)).toArray.size = cs.size := by
        intro vs h; simp; omega
      split at h
      · rename_i y
        split at h
        · rename_i hc
          obtain ⟨hone, hsz, hlt⟩ := hc
          obtain ⟨z, hz, rfl⟩ := Option.map_eq_some_iff.1 h
          obtain ⟨s1, s2⟩ := Arr.set_spec hz
          have h1 : q.oneCell' = true := Cell.rel_one hv hone
          have hq := cells_one h1
          have hfit : loc.off + o + q.cells.size ≤ cs.size := by rw [hq]; simp; omega
          have hrun := run_storeVar_cells (P := P) (t := t) (o := loc.off + o) (v := q) (by rw [hq]; exact hsz) k1 hfit (by rw [hq]; intro u hu; simp at hu; subst hu; exact h1)
          have hst := store_step (y := z) hR hb hm k1 (sz hfit) (by omega) (over_rel (g := fun _ => y) k3 s1 (by rw [hq]; simp; omega) (by
            intro j hj
            rw [s2 j hj, hq]
            by_cases e : j = o
            · rw [if_pos e, if_pos ⟨by omega, by simp; omega⟩]
            · rw [if_neg e, if_neg (by simp; omega)]) (by
            intro j hj
            rw [hq] at hj ⊢
            obtain rfl : j = 0 := by simpa using hj
            exact ⟨q, rfl, hv⟩)) (Arr.set_noMap hz)
          refine ⟨_, ?_, hst⟩
          simp only [Instr.storeAt, Instr.sureAddr, Sem.run_bind, Sem.run_pure, Result.andThen_ok, hrun]
        · cases h
      · rename_i y
        split at h
        · rename_i hc
          obtain ⟨hone, hsz, hle, _⟩ := hc
          obtain ⟨vs, rfl, hvs, hvr⟩ := hv
          have h1 : ∀ u ∈ (Value.agg vs).cells.toList, u.oneCell' = true := by
            intro u hu
            have hu : u ∈ vs.toList := hu
            obtain ⟨j, hj, rfl⟩ := List.mem_iff_getElem.1 hu
            have hj' : j < vs.size := by simpa using hj
            obtain ⟨v', hv', hr⟩ := hvr j (by omega)
            rw [Nat.zero_add, Array.getElem?_eq_getElem hj'] at hv'
            cases hv'
            have := Cell.rel_one hr (Arr.get_one hone (by omega))
            simpa using this
          have hfit : loc.off + o + vs.size ≤ cs.size := by omega
          have hrun := run_storeVar_cells (P := P) (t := t) (o := loc.off + o) (v := .agg vs) (by rw [show (Value.agg vs).cells = vs from rfl, hvs]; exact hsz) k1 hfit h1
          have hvr' : ∀ j, j < vs.size → ∃ v, vs[j]? = some v ∧ (y.get j).rel ι v := fun j hj => by have := hvr j (by omega); rwa [Nat.zero_add] at this
          have fin : ∀ z : Arr, z.size = x.size → (∀ j, j < x.size → z.get j = if o ≤ j ∧ j < o + y.size then y.get (j - o) else x.get j) → z.isMap = false → M' = M.set b (.row true z) → ∃ w', (Instr.storeAt t (.pointer (some ⟨loc.c, loc.off + o, none⟩)) (.agg vs)).run P w = .ok () w' ∧ Step M.length ι M w ι M' w' := by
            rintro z s1 s2 s3 rfl
            have hst := store_step (y := z) hR hb hm k1 (sz hfit) (by omega) (over_rel (g := y.get) k3 s1 (by omega) (by rw [hvs]; exact s2) hvr') s3
            refine ⟨_, ?_, hst⟩
            simp only [Instr.storeAt, Instr.sureAddr, Sem.run_bind, Sem.run_pure, Result.andThen_ok, hrun]
            rfl
          split at h
          · rename_i hw
            cases h
            refine fin y hw.2 (fun j hj => ?_) (Arr.one_noMap hone) rfl
            rw [if_pos ⟨by omega, by omega⟩, hw.1, Nat.sub_zero]
          · obtain ⟨z, hz, rfl⟩ := Option.map_eq_some_iff.1 h
            obtain ⟨s1, s2⟩ := Arr.putW_spec hz hle
            exact fin z s1 s2 (Arr.putW_noMap hz) rfl
        · cases h
      · cases h
    · cases h
  · cases h
end Go.Proofs.YtmbepikkgkcgkaaGreatDoor
namespace Go.Proofs.YtmbepikkgkcgkaaGreatDoor
open Go.RowKit
theorem same_step {ι : Emb} {M : Mem} {w : World} (hR : R ι M w) {b : Nat} {x y : Arr} (hm : M[b]? = some (.row true x)) (hs : y.size = x.size) (hg : ∀ j, j < x.size → y.get j = x.get j) (hxm : x.isMap = false) (hym : y.isMap = false) : Step M.length ι M w ι (M.set b (.row true y)) w := by
  refine Step.make hR (fun b hb => hR.dom b (by simpa using hb)) (fun b1 l1 own z hb1 hm1 => ?_) (fun b1 b2 l1 l2 o1 o2 z1 z2 hne h1 h2 k1 k2 ho => ?_) ⟨rfl, rfl, rfl, Nat.le_refl _, fun _ _ _ => rfl, fun c hc => ?_⟩ rfl (fun _ _ => rfl) (by simp) (fun b1 z hb1 hm1 => ?_) (fun b1 own z hb1 hm1 => ?_) (fun b1 l1 own z hb1 h1 h2 => (no_row (by simpa using hb1) h2).elim)
  · rcases set_row hm1 with ⟨hne, hm1⟩ | ⟨rfl, e⟩
    · exact hR.rows b1 l1 own z hb1 hm1
    · cases e
      obtain ⟨cs, t, fr, k1, k2, k3, k4⟩ := hR.cells hb1 hm hxm
      exact .of hym ⟨cs, t, fr, k1, by omega, fun i hi => by rw [hg i (by omega)]; exact k3 i (by omega), k4⟩
  · rcases set_row k1 with ⟨e1, m1⟩ | ⟨rfl, e1⟩ <;> rcases set_row k2 with ⟨e2, m2⟩ | ⟨rfl, e2⟩
    · exact hR.inj b1 b2 l1 l2 o1 o2 z1 z2 hne h1 h2 m1 m2 ho
    · exact hR.inj b1 b2 l1 l2 o1 true z1 x hne h1 h2 m1 hm (.inr rfl)
    · exact hR.inj b1 b2 l1 l2 true o2 x z2 hne h1 h2 hm m2 (.inl rfl)
    · exact absurd rfl hne
  · obtain ⟨b1, l1, z, h1, k1, rfl⟩ := hc
    rcases set_row k1 with ⟨e1, k1⟩ | ⟨rfl, e1⟩
    · exact .inr ⟨b1, l1, z, h1, k1, rfl⟩
    · exact .inr ⟨b1, l1, x, h1, hm, rfl⟩
  · rw [List.getElem?_set_ne (fun e => by subst e; rw [hm] at hm1; cases hm1)]; exact hm1
  · rcases set_row hm1 with ⟨hne, hm1⟩ | ⟨rfl, e⟩
    · exact ⟨z, hm1⟩
    · cases e; exact ⟨x, hm⟩
theorem alloc_ro {ι : Emb} {M : Mem} {w w' : World} (hR : R ι M w) {cs : Array Value} {t : TypeId} {fr : Nat × Nat} {x : Arr} (hh : w'.heap = w.heap.push (.cells cs t fr)) (ho : w'.os = w.os) (ht : w'.tape = w.tape) (hu : w'.output = w.output)
    (hs : x.size ≤ cs.size) (hx : x.relAt ι cs 0) (hmp : x.isMap = false) : Step M.length ι M w (ι.upd M.length ⟨w.heap.size, 0, cs.size⟩) (M ++ [.row false x]) w' := by
  have hle := hR.upd_le ⟨w.heap.size, 0, cs.size⟩
  have old : ∀ c, c < w.heap.size → w'.heap[c]? = w.heap[c]? := fun c hc => by rw [hh, Array.getElem?_push, if_neg (by omega)]
  refine Step.make hR (fun b hb => ?_) (fun b l own y hb hm => ?_) (fun b b' l l' own own' y y' hne hb hb' hm hm' ho => ?_) ⟨ho, ht, hu, by rw [hh]; simp, fun c hc _ => old c hc, fun c hc => ?_⟩ rfl (fun b hb => Emb.upd_ne (by omega)) (by simp) (fun b x hb hm => by rw [List.getElem?_append_left hb]; exact hm) (fun b own x hb hm => ⟨x, by rwa [List.getElem?_append_left hb] at hm⟩) (fun b l own y hb h1 h2 => ?_)
  · simp at hb
    rw [Emb.upd_ne (by omega)]; exact hR.dom b (by omega)
  · rcases app_row hm with ⟨hlt, hm⟩ | ⟨rfl, e⟩
    · rw [Emb.upd_ne (by omega)] at hb
      exact (hR.rows b l own y hb hm).heap (old _ (hR.lt hb hm)) hle
    · cases e
      rw [Emb.upd_eq] at hb
      cases hb
      exact .of hmp ⟨cs, t, fr, by rw [hh, Array.getElem?_push, if_pos rfl], hs, hx.mono' hle, fun h => by cases h⟩
  · rcases app_row hm with ⟨hlt, hm⟩ | ⟨rfl, e⟩ <;> rcases app_row hm' with ⟨hlt', hm'⟩ | ⟨rfl, e'⟩
    · rw [Emb.upd_ne (by omega)] at hb hb'
      exact hR.inj b b' l l' own own' y y' hne hb hb' hm hm' ho
    · rw [Emb.upd_ne (by omega)] at hb
      rw [Emb.upd_eq] at hb'
      cases hb'
      have := hR.lt hb hm
      show l.c ≠ w.heap.size
      omega
    · rw [Emb.upd_ne (by omega)] at hb'
      rw [Emb.upd_eq] at hb
      cases hb
      have := hR.lt hb' hm'
      show w.heap.size ≠ l'.c
      omega
    · exact absurd rfl hne
  · obtain ⟨b, l, y, hb, hm, rfl⟩ := hc
    rcases app_row hm with ⟨hlt, hm⟩ | ⟨rfl, e⟩
    · rw [Emb.upd_ne (by omega)] at hb
      exact .inr ⟨b, l, y, hb, hm, rfl⟩
    · cases e
  · rcases app_row h2 with ⟨hlt, h2⟩ | ⟨rfl, e⟩
    · omega
    · rw [Emb.upd_eq] at h1
      cases h1
      exact .inl (Nat.le_refl _)
def evCopy (P : Program) (M : Mem) (t : TypeId) (d s : AV) : Option (AV × Mem) :=
  match P.underlying t, d with
  | some (.slice el), .c (.sl b o dl _ sz) =>
    if szT P el = some sz ∧ 0 < sz then
      match s with
      | .c .nsl | .c .esl => some (.c (.val (.int .i64 0)), M)
      | .c (.sl b2 o2 n2 _ sz2) =>
        match M[b]?, M[b2]? with
        | some (.row true x), some (.row _ y) =>
          let n := min n2 dl
          if sz2 = sz ∧ o2 + n * sz ≤ y.size ∧ o + n * sz ≤ x.size ∧ (y.win o2 (n * sz)).one = true then
            (x.putW o (y.win o2 (n * sz))).map fun z => (.c (.val (.int .i64 n)), M.set b (.row true z))
          else none
        | _, _ => none
      | _ => none
    else none
  | _, _ => none
theorem evCopy_sound {P : Program} {M M' : Mem} {t t' ty : TypeId} {d s v : AV} (h : evCopy P M t d s = some (v, M')) {ι : Emb} {w : World} (hR : R ι M w) {p q : Value} (hd : d.rel ι p) (hs : s.rel ι q) :
    MemOk P ι M w v M' (Builtin.copy_ #[t, t'] ty #[p, q]) := by
  unfold evCopy at h
  split at h
  · rename_i el b o dl cap sz hu
    obtain ⟨pp, cap', rfl, h1, h2, h3⟩ := hd
    split at h
    · rename_i hc
      obtain ⟨hsz, hsz0⟩ := hc
      have nothing : ∀ pq c, (Builtin.copy_ #[t, t'] ty #[.slice pp dl cap', .slice pq 0 c]).run P w = .ok (.int .i64 0) w := by
        intro pq c
        have hf : ∀ k, (Builtin.firstCells k 0 (.slice pq 0 c)).run P w = .ok #[] w := by
          intro k
          cases pq with
          | none => exact run_firstCells_none w _ _ _ _
          | some a => exact run_firstCells_some w _ 0 a 0 c [] (by simp) (fun j v h => by simp at h)
        cases pp <;> simp [Builtin.copy_, run_underlying hu, Builtin.lenOf, run_sizeT hsz, hf, storeCells, goInt]
      split at h
      · cases h
        obtain rfl : q = .slice none 0 0 := hs
        exact ⟨_, w, ι, nothing _ _, rfl, Step.refl hR (Nat.le_refl _)⟩
      · cases h
        obtain ⟨pq, rfl⟩ := hs
        exact ⟨_, w, ι, nothing _ _, rfl, Step.refl hR (Nat.le_refl _)⟩
      · rename_i b2 o2 n2 cap2 sz2
        split at h
        · rename_i x own2 y hm hm2
          simp only at h
          split at h
          · rename_i hc
            obtain ⟨rfl, hle2, hle, hone⟩ := hc
            obtain ⟨z, hz, he⟩ := Option.map_eq_some_iff.1 h
            cases he
            have hwin : (y.win o2 (min n2 dl * sz2)).size = min n2 dl * sz2 := by rw [Arr.win_size]; omega
            obtain ⟨s1, s2⟩ := Arr.putW_spec hz (by rw [hwin]; exact hle)
            have hss : srcOf M sz2 (.c (.sl b2 o2 (min n2 dl) 0 sz2)) = some (min n2 dl, winA y o2 (min n2 dl * sz2)) := by simp [srcOf, hm2, hle2]
            obtain ⟨pq, cq, rfl, g1, g2, g3⟩ := hs
            have hs' : AV.rel ι (.c (.sl b2 o2 (min n2 dl) 0 sz2)) (.slice pq (min n2 dl) cq) := ⟨pq, cq, rfl, Nat.zero_le _, by omega, g3⟩
            obtain ⟨pq', cq', l, heq, _, hsh⟩ := srcOf_sound hss hsz0 hR hs'
            cases heq
            have hf := hsh.first P cq w rfl
            have hf' : (Builtin.firstCells sz2 (min n2 dl) (.slice pq n2 cq)).run P w = .ok l.toArray w := by
              have : (Builtin.firstCells sz2 (min n2 dl) (.slice pq n2 cq)) = Builtin.firstCells sz2 (min n2 dl) (.slice pq (min n2 dl) cq) := by cases pq <;> rfl
              rw [this]; exact hf
            have hl1 : ∀ u ∈ l, u.oneCell' = true := by
              intro u hu
              obtain ⟨j, hj, rfl⟩ := List.mem_iff_getElem.1 hu
              have hj' : j < min n2 dl * sz2 := by rw [← hsh.len]; exact hj
              obtain ⟨v', hv', hr⟩ := hsh.rel j (by rw [hsh.size]; exact hj')
              rw [List.getElem?_eq_getElem hj] at hv'
              cases hv'
              rw [winA_get hj' hle2] at hr
              have := Arr.get_one hone (i := j) (by rw [hwin]; exact hj')
              rw [Arr.win_get' _ _ _ _ hj' (by omega)] at this
              exact Cell.rel_one hr this
            have hcell : ∀ j, j < l.toArray.size → ∃ v, l.toArray[j]? = some v ∧ ((y.win o2 (min n2 dl * sz2)).get j).rel ι v := by
              intro j hj
              have hj' : j < min n2 dl * sz2 := by rw [← hsh.len]; simpa using hj
              obtain ⟨v', hv', hr⟩ := hsh.rel j (by rw [hsh.size]; exact hj')
              refine ⟨v', by simpa using hv', ?_⟩
              rw [winA_get hj' hle2] at hr
              rw [Arr.win_get' _ _ _ _ hj' (by omega)]; exact hr
            have hn : Nat.min n2 dl = min n2 dl := rfl
            rcases h3 with h3 | ⟨loc, hb, rfl, hfit⟩
            · have hdl : dl = 0 := by omega
              subst hdl
              obtain rfl : l = [] := List.eq_nil_of_length_eq_zero (by rw [hsh.len]; simp)
              refine ⟨.int .i64 (min n2 0 : Nat), w, ι, ?_, rfl, same_step hR hm s1 (fun j hj => by rw [s2 j hj, if_neg (by rw [hwin]; simp)]) (Arr.putW_noMap0 hz) (Arr.putW_noMap hz)⟩
              have hf0 : (Builtin.firstCells sz2 0 (.slice pq n2 cq)).run P w = .ok #[] w := by simpa using hf'
              cases pp <;> simp [Builtin.copy_, run_underlying hu, Builtin.lenOf, run_sizeT hsz, hf0, storeCells, goInt]
            · obtain ⟨cs, tt, fr, k1, k2, k3, k4⟩ := hR.cells hb hm (Arr.putW_noMap0 hz)
              obtain ⟨rfl, k5⟩ := k4 rfl
              have hll : l.length = min n2 dl * sz2 := hsh.len
              have hst := run_storeCells_at P loc.c (loc.off + o) tt l 0 cs w k1 (by omega) hl1
              simp only [Nat.add_zero] at hst
              have hsize : (cs.toList.take (loc.off + o) ++ l ++ cs.toList.drop (loc.off + o + l.length)).toArray.size = cs.size := by simp; omega
              have hrel := over_rel (g := (y.win o2 (min n2 dl * sz2)).get) (vs := l.toArray) k3 s1 (o := o) (by simp; omega) (by
                intro j hj
                have := s2 j hj
                rw [hwin] at this
                simp only [List.size_toArray, hll]
                exact this) hcell
              have hst2 := store_step (y := z) hR hb hm k1 hsize (by omega) (by simpa using hrel) (Arr.putW_noMap hz)
              refine ⟨.int .i64 (min n2 dl : Nat), _, ι, ?_, rfl, hst2⟩
              simp [Builtin.copy_, run_underlying hu, Builtin.lenOf, run_sizeT hsz, hn, hf', hst, goInt]
          · cases h
        · cases h
      · cases h
    · cases h
  · cases h
def strBytes (s : ByteArray) : List (BitVec 8) := s.data.toList.map (·.toBitVec)
def evStrBytes (P : Program) (M : Mem) (s d : TypeId) (x : AV) : Option (AV × Mem) :=
  match P.underlying s, P.underlying d, x with
  | some .string, some (.slice e), .c (.val (.string b)) =>
    match P.underlying e with
    | some (.int .u8) => some (.c (.sl M.length 0 b.size b.size 1), M ++ [.row false (.a8 (strBytes b))])
    | _ => none
  | _, _, _ => none
theorem evStrBytes_sound {P : Program} {M M' : Mem} {s d : TypeId} {x v : AV} (h : evStrBytes P M s d x = some (v, M')) {ι : Emb} {w : World} (hR : R ι M w) {p : Value} (hx : x.rel ι p) : MemOk P ι M w v M' (convert s d p) := by
  unfold evStrBytes at h
  split at h
  · rename_i e b hs hd
    obtain rfl : p = .string b := hx
    split at h
    · rename_i he
      cases h
      obtain ⟨cap, hcap, hrun⟩ : ∃ cap, b.size ≤ cap ∧ (convert s d (.string b)).run P w = .ok (.slice (some ⟨w.heap.size, 0, none⟩) b.size cap) ((w.drew.alloc (.cells (b.data.map (fun b => Value.int .u8 b.toNat) ++ Array.replicate (cap - b.size) (.int .u8 0)) e)).freeze ⟨w.heap.size, cap, none⟩ 1) := by
        refine ⟨(Question.appendCap b.size 0 e).cut (w.tape w.drawn (.appendCap b.size 0 e)), by simp [Question.cut], ?_⟩
        have hc : b.size ≤ (Question.appendCap b.size 0 e).cut (w.tape w.drawn (.appendCap b.size 0 e)) := by simp [Question.cut]
        have hsh : (w.drew.alloc (.cells (b.data.map (fun b => Value.int .u8 b.toNat) ++ Array.replicate ((Question.appendCap b.size 0 e).cut (w.tape w.drawn (.appendCap b.size 0 e)) - b.size) (.int .u8 0)) e)).shape? w.heap.size = some (e, (Question.appendCap b.size 0 e).cut (w.tape w.drawn (.appendCap b.size 0 e))) := by
          have e1 : b.data.size = b.size := rfl
          simp only [World.shape?]
          rw [heap_alloc_if, if_pos (show w.heap.size = w.drew.heap.size from rfl)]
          simp only [Array.size_append, Array.size_map, Array.size_replicate, e1]
          congr 2
          omega
        simp [convert, run_underlying hs, run_underlying hd, run_underlying he, Conv.stringToBytes, newRow, markStringish, Question.forced]
        rw [hsh]
        simp
      have hheap : ∃ fr, ((w.drew.alloc (.cells (b.data.map (fun b => Value.int .u8 b.toNat) ++ Array.replicate (cap - b.size) (.int .u8 0)) e)).freeze ⟨w.heap.size, cap, none⟩ 1).heap = w.heap.push (.cells (b.data.map (fun b => Value.int .u8 b.toNat) ++ Array.replicate (cap - b.size) (.int .u8 0)) e fr) := by
        refine ⟨(cap, cap + 1), ?_⟩
        unfold World.freeze
        rw [if_neg (by omega)]
        apply Array.ext_getElem?
        intro i
        simp only [Array.getElem?_modify]
        rw [heap_alloc_if, Array.getElem?_push]
        show (if w.heap.size = i then _ else _) = _
        by_cases hi : w.heap.size = i
        · subst hi
          rw [if_pos rfl, if_pos rfl]
          show Option.map _ (if w.drew.heap.size = w.drew.heap.size then _ else _) = _
          rw [if_pos rfl]
          rfl
        · rw [if_neg hi, if_neg (fun h => hi h.symm)]
          show w.heap[i]? = _
          rw [if_neg (fun h => hi h.symm)]
      obtain ⟨fr, hheap⟩ := hheap
      have hfz : ∀ (W : World) (a : Addr) (n : Nat), (W.freeze a n).os = W.os ∧ (W.freeze a n).tape = W.tape ∧ (W.freeze a n).output = W.output := by
        intro W a n; unfold World.freeze; split <;> exact ⟨rfl, rfl, rfl⟩
      have e1 : b.data.size = b.size := rfl
      have hst := alloc_ro (x := .a8 (strBytes b)) hR hheap (hfz _ _ _).1 (hfz _ _ _).2.1 (hfz _ _ _).2.2 (by simp [Arr.size, strBytes, e1]) (by
        intro i hi
        have hi' : i < b.data.size := by simpa [Arr.size, strBytes] using hi
        refine ⟨.int .u8 b.data[i].toNat, ?_, ?_⟩
        · rw [Nat.zero_add, Array.getElem?_append_left (by simpa using hi'), Array.getElem?_map, Array.getElem?_eq_getElem hi']
          rfl
        · have h7 : (strBytes b).getD i 0 = b.data[i].toBitVec := by
            rw [List.getD_eq_getElem?_getD, strBytes, List.getElem?_map, Array.getElem?_toList, Array.getElem?_eq_getElem hi']; rfl
          simp only [Arr.get, Cell.rel, nth]
          rw [h7]
          rfl) rfl
      refine ⟨_, _, _, hrun, ⟨_, cap, rfl, hcap, hcap, .inr ⟨_, Emb.upd_eq _ _ _, rfl, ?_⟩⟩, hst⟩
      simp [e1]; omega
    · cases h
  · cases h
def evMark (P : Program) (M : Mem) (s d : TypeId) (x : AV) : Option (AV × Mem) :=
  match P.underlying s, P.underlying d, x with
  | some (.slice _), some (.slice e), .c (.sl b o len cap sz) =>
    match P.underlying e, M[b]? with
    | some (.int .u8), some (.row true y) => if s = d ∧ 0 < len ∧ y.isMap = false then some (.c (.sl M.length o len cap sz), M.set b .dead ++ [.row false y]) else none
    | _, _ => none
  | _, _, _ => none
theorem mark_step {ι : Emb} {M : Mem} {w w' : World} (hR : R ι M w) {b : Nat} {l : Loc} {y : Arr} (hb : ι b = some l) (hm : M[b]? = some (.row true y)) (ho : w'.os = w.os) (ht : w'.tape = w.tape) (hu : w'.output = w.output) (hsz : w'.heap.size = w.heap.size)
    (hoth : ∀ c, c ≠ l.c → w'.heap[c]? = w.heap[c]?) (hat : ∀ cs t fr, w.heap[l.c]? = some (.cells cs t fr) → ∃ fr', w'.heap[l.c]? = some (.cells cs t fr')) (hmp : y.isMap = false) :
    Step M.length ι M w (ι.upd M.length l) (M.set b .dead ++ [.row false y]) w' := by
  have hown : Owned ι M l.c := ⟨b, l, y, hb, hm, rfl⟩
  have hle := hR.upd_le l
  have hlen : (M.set b Row.dead).length = M.length := by simp
  have pick : ∀ {b1 : Nat} {own : Bool} {z : Arr}, (M.set b .dead ++ [.row false y])[b1]? = some (.row own z) → (b1 ≠ b ∧ b1 < M.length ∧ M[b1]? = some (.row own z)) ∨ (b1 = M.length ∧ own = false ∧ z = y) := by
    intro b1 own z h
    rcases app_row h with ⟨hlt, h⟩ | ⟨rfl, e⟩
    · by_cases e1 : b = b1
      · subst e1
        rw [List.getElem?_set_self (by omega)] at h
        cases h
      · rw [List.getElem?_set_ne e1] at h
        exact .inl ⟨fun e => e1 e.symm, by omega, h⟩
    · cases e; exact .inr ⟨hlen, rfl, rfl⟩
  have apart : ∀ {b1 : Nat} {l1 : Loc} {own : Bool} {z : Arr}, b1 ≠ b → ι b1 = some l1 → M[b1]? = some (.row own z) → l1.c ≠ l.c := fun hne h1 k1 => hR.inj _ b _ l _ true _ y hne h1 hb k1 hm (.inr rfl)
  refine Step.make hR (fun b1 hb1 => ?_) (fun b1 l1 own z hb1 hm1 => ?_) (fun b1 b2 l1 l2 o1 o2 z1 z2 hne h1 h2 k1 k2 ho => ?_) ⟨ho, ht, hu, Nat.le_of_eq hsz.symm, fun c _ hn => hoth c (fun e => hn (by rw [e]; exact hown)), fun c hc => ?_⟩ rfl (fun b1 hb1 => Emb.upd_ne (by omega)) (by simp) (fun b1 z hb1 hm1 => ?_) (fun b1 own z hb1 hm1 => ?_) (fun b1 l1 own z hb1 h1 h2 => ?_)
  · simp at hb1
    rw [Emb.upd_ne (by omega)]; exact hR.dom b1 (by omega)
  · rcases pick hm1 with ⟨hne, hlt, hm1⟩ | ⟨rfl, rfl, rfl⟩
    · rw [Emb.upd_ne (by omega)] at hb1
      exact (hR.rows b1 l1 own z hb1 hm1).heap (hoth _ (apart hne hb1 hm1)) hle
    · rw [Emb.upd_eq] at hb1; cases hb1
      obtain ⟨cs1, t1, fr, k1, k2, k3, _⟩ := hR.cells hb hm hmp
      obtain ⟨fr', hat⟩ := hat cs1 t1 fr k1
      exact .of hmp ⟨cs1, t1, fr', hat, k2, k3.mono' hle, fun h => by cases h⟩
  · rcases pick k1 with ⟨e1, g1, m1⟩ | ⟨e1, g1, _⟩ <;> rcases pick k2 with ⟨e2, g2, m2⟩ | ⟨e2, g2, _⟩
    · rw [Emb.upd_ne (by omega)] at h1 h2
      exact hR.inj b1 b2 l1 l2 o1 o2 z1 z2 hne h1 h2 m1 m2 ho
    · rw [Emb.upd_ne (by omega)] at h1
      rw [e2, Emb.upd_eq] at h2; cases h2
      exact apart e1 h1 m1
    · rw [Emb.upd_ne (by omega)] at h2
      rw [e1, Emb.upd_eq] at h1; cases h1
      exact fun e => apart e2 h2 m2 e.symm
    · exact absurd (e1.trans e2.symm) hne
  · obtain ⟨b1, l1, z, h1, k1, rfl⟩ := hc
    rcases pick k1 with ⟨e1, g1, k1⟩ | ⟨_, g, _⟩
    · rw [Emb.upd_ne (by omega)] at h1
      exact .inr ⟨b1, l1, z, h1, k1, rfl⟩
    · cases g
  · rw [List.getElem?_append_left (by simpa using hb1), List.getElem?_set_ne (fun e => by subst e; rw [hm] at hm1; cases hm1)]; exact hm1
  · rcases pick hm1 with ⟨_, _, hm1⟩ | ⟨rfl, _, _⟩
    · exact ⟨z, hm1⟩
    · omega
  · rcases pick h2 with ⟨_, hlt, _⟩ | ⟨rfl, _, _⟩
    · omega
    · rw [Emb.upd_eq] at h1
      cases h1
      exact .inr (.inl hown)
theorem evMark_sound {P : Program} {M M' : Mem} {s d : TypeId} {x v : AV} (h : evMark P M s d x = some (v, M')) {ι : Emb} {w : World} (hR : R ι M w) {p : Value} (hx : x.rel ι p) : MemOk P ι M w v M' (convert s d p) := by
  unfold evMark at h
  split at h
  · rename_i e0 e b o len cap sz hs hd
    split at h
    · rename_i y he hm
      split at h
      · rename_i hc
        obtain ⟨rfl, hlen, hym⟩ := hc
        rw [hd] at hs
        cases hs
        cases h
        obtain ⟨q, cap', rfl, h1, h2, h3⟩ := hx
        rcases h3 with h3 | ⟨l, hl, rfl, h4⟩
        · omega
        · obtain ⟨cs, t, fr, k1, k2, k3, k4⟩ := hR.cells hl hm hym
          have hsh : w.shape? l.c = some (t, cs.size) := by simp only [World.shape?, k1]
          have hrun : (convert s s (.slice (some ⟨l.c, l.off + o, none⟩) len cap')).run P w = .ok (.slice (some ⟨l.c, l.off + o, none⟩) len cap') (w.freeze ⟨l.c, cs.size, none⟩ 1) := by
            simp [convert, run_underlying hd, run_underlying he, markStringish, hsh]
          have hw : (w.freeze ⟨l.c, cs.size, none⟩ 1).os = w.os ∧ (w.freeze ⟨l.c, cs.size, none⟩ 1).tape = w.tape ∧ (w.freeze ⟨l.c, cs.size, none⟩ 1).output = w.output ∧ (w.freeze ⟨l.c, cs.size, none⟩ 1).heap.size = w.heap.size := by
            unfold World.freeze
            rw [if_neg (by omega)]
            exact ⟨rfl, rfl, rfl, by simp⟩
          refine ⟨_, _, _, hrun, ⟨_, cap', rfl, h1, h2, .inr ⟨l, Emb.upd_eq _ _ _, rfl, h4⟩⟩, mark_step hR hl hm hw.1 hw.2.1 hw.2.2.1 hw.2.2.2 (fun c hc => ?_) (fun cs' t' fr' hc => ?_) hym⟩
          · unfold World.freeze
            rw [if_neg (by omega)]
            simp only [Array.getElem?_modify]
            rw [if_neg (fun h => hc h.symm)]
          · unfold World.freeze
            rw [if_neg (by omega)]
            simp only [Array.getElem?_modify, if_true, hc]
            exact ⟨_, rfl⟩
      · cases h
    · cases h
  · cases h
def evConvM (P : Program) (M : Mem) (s d : TypeId) (x : AV) : Option (AV × Mem) := match evStrBytes P M s d x with
  | some r => some r
  | none => evMark P M s d x
def evMin : List AV → Option AV
  | [.c (.val (.int k x)), .c (.val (.int k' y))] => if k = k' then some (.c (.val (.int k (if y < x then y else x)))) else none
  | _ => none
def evMax : List AV → Option AV
  | [.c (.val (.int k x)), .c (.val (.int k' y))] => if k = k' then some (.c (.val (.int k (if x < y then y else x)))) else none
  | _ => none
def evLen (P : Program) (t : TypeId) : AV → Option AV
  | .c (.sl _ _ n _ _) => if isSliceT P t then some (.c (.val (.int .i64 n))) else none
  | .c .nsl => if isSliceT P t then some (.c (.val (.int .i64 0))) else none
  | .c .esl => if isSliceT P t then some (.c (.val (.int .i64 0))) else none
  | .c (.bs l) => if isSliceT P t then some (.c (.val (.int .i64 l.length))) else none
  | .c (.is l) => if isSliceT P t then some (.c (.val (.int .i64 l.length))) else none
  | _ => match P.underlying t with
    | some (.array n _) => some (.c (.val (.int .i64 n)))
    | _ => none
def evField (P : Program) (t : TypeId) (x : AV) (f : Nat) : Option AV :=
  match P.underlying t, x with
  | some (.struct fs), .agg y => match fs[f]? with
    | some fd => partA P fd.type y fd.offset
    | none => none
  | _, _ => none
def evFieldAddr (P : Program) (t : TypeId) (x : AV) (f : Nat) : Option AV :=
  match P.underlying t, x with
  | some (.struct fs), .c (.ptr b o) => match fs[f]? with
    | some fd => match szT P fd.type with
      | some n => if n = 0 then none else some (.c (.ptr b (o + fd.offset)))
      | none => none
    | none => none
  | _, _ => none
def evIdx (P : Program) (t : TypeId) (x i : AV) : Option AV :=
  match P.underlying t, x, intOf? i with
  | some (.array n el), .agg y, some i => match szT P el with
    | some sz => if 0 ≤ i ∧ i < n then partA P el y (i.toNat * sz) else none
    | none => none
  | _, _, _ => none
def evArrPtr (P : Program) (t : TypeId) : AV → Option AV
  | .c (.sl b o len _ _) => match P.underlying t with
    | some (.array n _) => if n ≤ len ∧ 0 < n then some (.c (.ptr b o)) else none
    | _ => none
  | .c (.bs l) => match P.underlying t with
    | some (.array n _) => if n ≤ l.length ∧ 0 < n then some (.c (.qb l 0)) else none
    | _ => none
  | _ => none
def evVal (P : Program) (e : Operand → AV) (M : Mem) : Op → Option AV
  | .move x => some (e x)
  | .assign x => some (e x)
  | .pick c a b => match e c with
    | .c (.val (.bool t)) => some (if t then e a else e b)
    | _ => none
  | .load t a => match e a with
    | .c (.ptr b o) => match M[b]? with
      | some (.row _ x) => partA P t x o
      | _ => none
    | .c (.qb l o) => partA P t (.a8 l) o
    | .c (.qi l o) => partA P t (.ai l) o
    | _ => none
  | .nilCheck x => match e x with
    | .c (.ptr b o) => some (.c (.ptr b o))
    | _ => none
  | .binOp op t x y _ => evBin P op t x y (e x) (e y)
  | .unOp op _ x => match e x with
    | .c (.val v) => (pureOf (Op.unary op v)).map fun u => .c (.val u)
    | _ => none
  | .convert s d x => evConv P s d (e x)
  | .sliceToArrayPointer t x => evArrPtr P t (e x)
  | .slice t x lo hi none => evSlice P M t (e x) (lo.map e) (hi.map e)
  | .fieldAddr t x f => evFieldAddr P t (e x) f
  | .field t x f => evField P t (e x) f
  | .indexAddr t x i => evIndex P t (e x) (e i)
  | .index t x i => evIdx P t (e x) (e i)
  | .extract x i => match e x with
    | .tup l => l[i]?
    | _ => none
  | .build t ps => evBuild P t (ps.toList.map fun p => (p.1, e p.2))
  | .call c => match c.callee, c.args.toList, c.argTypes.toList with
    | .builtin .len, [x], [t] => evLen P t (e x)
    | .builtin .min, [x, y], _ => evMin [e x, e y]
    | .builtin .max, [x, y], _ => evMax [e x, e y]
    | _, _, _ => none
  | _ => none
def evMem (P : Program) (e : Operand → AV) (M : Mem) : Op → Option (AV × Mem)
  | .alloc t => evAlloc P M t
  | .box _ x => evBox M (e x)
  | .store t a x => (evStore P M t (e a) (e x)).map fun M' => (.c .any, M')
  | .convert s d x => evConvM P M s d (e x)
  | .makeSlice t l c => evMakeSlice P M t (e l) (e c)
  | .buildSlice t n ps => evBuildSlice P M t n (ps.toList.map fun p => (p.1, e p.2))
  | .call c => match c.callee, c.args.toList, c.argTypes.toList with
    | .builtin .append, [s, x], [t, t'] => evAppend P M t t' (e s) (e x)
    | .builtin .copy, [d, s], [t, _] => evCopy P M t (e d) (e s)
    | _, _, _ => none
  | _ => none
def OpOk (P : Program) (ι : Emb) (M : Mem) (w : World) (v : AV) (M' : Mem) (s : Sem Next) : Prop :=
  ∃ u w' ι', (s.run P w = .ok (.value u) w' ∨ (s.run P w = .ok .skip w' ∧ u = undef)) ∧ v.rel ι' u ∧ Step M.length ι M w ι' M' w'
theorem partsRel_map {ι : Emb} {e : Operand → AV} {ρ : Operand → Value} : ∀ (l : List (Nat × Operand)), (∀ p ∈ l, (e p.2).rel ι (ρ p.2)) → PartsRel ι (l.map fun p => (p.1, e p.2)) (l.map fun p => (p.1, ρ p.2))
  | [], _ => trivial
  | p :: l, h => ⟨rfl, h p List.mem_cons_self, partsRel_map l fun q hq => h q (List.mem_cons_of_mem _ hq)⟩
theorem len_case (P : Program) (e : Operand → AV) (ρ : Operand → Value) (dst : Option Tmp) (type : TypeId) (pos : String) (after : Array Edge) (guard : Option (Nat × Bool)) (x : Operand) (t : TypeId) (v : AV) (h : evLen P t (e x) = some v) (ι : Emb) (w : World)
    (hρ : ∀ y ∈ (Op.call { callee := .builtin .len, args := [x].toArray, argTypes := [t].toArray }).operands, (e y).rel ι (ρ y)) : ∃ u, (execOp ρ ⟨dst, .call { callee := .builtin .len, args := [x].toArray, argTypes := [t].toArray }, type, pos, after, guard⟩).run P w = .ok (.value u) w ∧ v.rel ι u := by
  have hxr := hρ x (by simp [Op.operands, Call.operands])
  have fin : ∀ n : Int, (Builtin.len_ #[t] type #[ρ x]).run P w = .ok (goInt n) w → v = .c (.val (.int .i64 n)) → ∃ u, (execOp ρ ⟨dst, .call { callee := .builtin .len, args := #[x], argTypes := #[t] }, type, pos, after, guard⟩).run P w = .ok (.value u) w ∧ v.rel ι u := by
    rintro n hn rfl
    exact ⟨goInt n, by simp [execOp, resolve, invoke, builtin, hn], rfl⟩
  unfold evLen at h
  split at h
  · rename_i b o n cap sz hx
    rw [hx] at hxr
    obtain ⟨p, cap', hp, _⟩ := hxr
    split at h
    · rename_i ht
      cases h
      unfold isSliceT at ht
      split at ht
      · rename_i el hu
        exact fin n (by simp [Builtin.len_, run_underlying hu, hp]) rfl
      · cases ht
    · cases h
  · rename_i hx
    rw [hx] at hxr
    have hp : ρ x = .slice none 0 0 := hxr
    split at h
    · rename_i ht
      cases h
      unfold isSliceT at ht
      split at ht
      · rename_i el hu
        exact fin 0 (by simp [Builtin.len_, run_underlying hu, hp]) rfl
      · cases ht
    · cases h
  · rename_i hx
    rw [hx] at hxr
    obtain ⟨p, hp⟩ := hxr
    split at h
    · rename_i ht
      cases h
      unfold isSliceT at ht
      split at ht
      · rename_i el hu
        exact fin 0 (by simp [Builtin.len_, run_underlying hu, hp]) rfl
      · cases ht
    · cases h
  · rename_i l hx
    rw [hx] at hxr
    obtain ⟨p, cap, hp, _⟩ := hxr
    split at h
    · rename_i ht
      cases h
      unfold isSliceT at ht
      split at ht
      · rename_i el hu
        exact fin l.length (by simp [Builtin.len_, run_underlying hu, hp]) rfl
      · cases ht
    · cases h
  · rename_i l hx
    rw [hx] at hxr
    obtain ⟨p, cap, hp, _⟩ := hxr
    split at h
    · rename_i ht
      cases h
      unfold isSliceT at ht
      split at ht
      · rename_i el hu
        exact fin l.length (by simp [Builtin.len_, run_underlying hu, hp]) rfl
      · cases ht
    · cases h
  · split at h
    · rename_i n el hu
      cases h
      exact fin n (by simp [Builtin.len_, run_underlying hu]) rfl
    · cases h
theorem min_case (P : Program) (e : Operand → AV) (ρ : Operand → Value) (dst : Option Tmp) (type : TypeId) (pos : String) (after : Array Edge) (guard : Option (Nat × Bool)) (x y : Operand) (ts : Array TypeId) (v : AV) (h : evMin [e x, e y] = some v) (ι : Emb) (w : World)
    (hρ : ∀ z ∈ (Op.call { callee := .builtin .min, args := [x, y].toArray, argTypes := ts }).operands, (e z).rel ι (ρ z)) : ∃ u, (execOp ρ ⟨dst, .call { callee := .builtin .min, args := [x, y].toArray, argTypes := ts }, type, pos, after, guard⟩).run P w = .ok (.value u) w ∧ v.rel ι u := by
  unfold evMin at h
  split at h
  · rename_i k a k' b heq
    split at h
    · rename_i hk
      cases h
      simp only [List.cons.injEq, and_true] at heq
      have h1 := hρ x (by simp [Op.operands, Call.operands])
      have h2 := hρ y (by simp [Op.operands, Call.operands])
      rw [heq.1] at h1
      rw [heq.2] at h2
      have e1 : ρ x = .int k a := h1
      have e2 : ρ y = .int k' b := h2
      exact ⟨_, by simp [execOp, resolve, invoke, builtin, Builtin.min_, Builtin.min2, e1, e2], rfl⟩
    · cases h
  · cases h
theorem max_case (P : Program) (e : Operand → AV) (ρ : Operand → Value) (dst : Option Tmp) (type : TypeId) (pos : String) (after : Array Edge) (guard : Option (Nat × Bool)) (x y : Operand) (ts : Array TypeId) (v : AV) (h : evMax [e x, e y] = some v) (ι : Emb) (w : World)
    (hρ : ∀ z ∈ (Op.call { callee := .builtin .max, args := [x, y].toArray, argTypes := ts }).operands, (e z).rel ι (ρ z)) : ∃ u, (execOp ρ ⟨dst, .call { callee := .builtin .max, args := [x, y].toArray, argTypes := ts }, type, pos, after, guard⟩).run P w = .ok (.value u) w ∧ v.rel ι u := by
  unfold evMax at h
  split at h
  · rename_i k a k' b heq
    split at h
    · rename_i hk
      cases h
      simp only [List.cons.injEq, and_true] at heq
      have h1 := hρ x (by simp [Op.operands, Call.operands])
      have h2 := hρ y (by simp [Op.operands, Call.operands])
      rw [heq.1] at h1
      rw [heq.2] at h2
      have e1 : ρ x = .int k a := h1
      have e2 : ρ y = .int k' b := h2
      exact ⟨_, by simp [execOp, resolve, invoke, builtin, Builtin.max_, Builtin.max2, e1, e2], rfl⟩
    · cases h
  · cases h
theorem evVal_sound {P : Program} {e : Operand → AV} {ρ : Operand → Value} {M : Mem} {o : Oper} {v : AV} (h : evVal P e M o.op = some v) {ι : Emb} {w : World} (hR : R ι M w) (hρ : ∀ x ∈ o.op.operands, (e x).rel ι (ρ x)) :
    ∃ u, (execOp ρ o).run P w = .ok (.value u) w ∧ v.rel ι u := by
  obtain ⟨dst, op, type, pos, after, guard⟩ := o
  simp only at h hρ ⊢
  have val : ∀ {s : Sem Value} {u : Value}, s.run P w = .ok u w → (do pure (.value (← s)) : Sem Next).run P w = .ok (.value u) w := by
    intro s u hs; simp [hs]
  unfold evVal at h
  split at h
  · rename_i x; cases h; exact ⟨_, rfl, hρ x (by simp [Op.operands])⟩
  · rename_i x; cases h; exact ⟨_, rfl, hρ x (by simp [Op.operands])⟩
  · rename_i c a b
    split at h
    · rename_i t hc
      cases h
      have := hρ c (by simp [Op.operands])
      rw [hc] at this
      have hcv : ρ c = .bool t := this
      refine ⟨if t then ρ a else ρ b, ?_, ?_⟩
      · simp [execOp, hcv, asBool]
      · cases t
        · exact hρ b (by simp [Op.operands])
        · exact hρ a (by simp [Op.operands])
    · cases h
  · rename_i t a
    split at h
    · rename_i b o ha
      have har := hρ a (by simp [Op.operands])
      rw [ha] at har
      obtain ⟨l, hb, hp⟩ := har
      split at h
      · rename_i own x hm
        obtain ⟨cs, t', fr, k1, k2, k3, k4⟩ := hR.cells hb hm (partA_noMap h)
        obtain ⟨u, hu, hv⟩ := run_loadPart h k1 k3
        refine ⟨u, ?_, AV.rel_of0 hv⟩
        refine val ?_
        rw [hp]
        simp only [Instr.loadAt, Instr.sureAddr, Sem.run_bind, Sem.run_pure, Result.andThen_ok, hu]
      · cases h
    · rename_i l o ha
      have har := hρ a (by simp [Op.operands])
      rw [ha] at har
      obtain ⟨c, o', hp, hr⟩ := har
      have hpos : 0 < l.length := Nat.lt_of_lt_of_le (Nat.pos_of_ne_zero fun e => by
        have := partA_pos h
        simp only [Arr.size] at this
        omega) (Nat.le_refl _)
      obtain ⟨⟨cs, t', fr, e1, e2⟩, _⟩ := hR.txt _ _ _ (hr 0 hpos)
      obtain ⟨u, hu, hv⟩ := run_loadPart h e1 (off := o') (ι := ι) (fun i hi => by
        obtain ⟨⟨cs', t'', fr', f1, f2⟩, _⟩ := hR.txt _ _ _ (hr i hi)
        rw [e1] at f1; cases f1
        exact ⟨_, f2, rfl⟩)
      refine ⟨u, ?_, AV.rel_of0 hv⟩
      refine val ?_
      rw [hp]
      simp only [Instr.loadAt, Instr.sureAddr, Sem.run_bind, Sem.run_pure, Result.andThen_ok, hu]
    · rename_i l o ha
      have har := hρ a (by simp [Op.operands])
      rw [ha] at har
      obtain ⟨c, o', hp, hr⟩ := har
      have hpos : 0 < l.length := Nat.lt_of_lt_of_le (Nat.pos_of_ne_zero fun e => by
        have := partA_pos h
        simp only [Arr.size] at this
        omega) (Nat.le_refl _)
      obtain ⟨⟨cs, t', fr, e1, e2⟩, _⟩ := hR.txt _ _ _ (hr 0 hpos)
      obtain ⟨u, hu, hv⟩ := run_loadPart h e1 (off := o') (ι := ι) (fun i hi => by
        obtain ⟨⟨cs', t'', fr', f1, f2⟩, _⟩ := hR.txt _ _ _ (hr i hi)
        rw [e1] at f1; cases f1
        exact ⟨_, f2, rfl⟩)
      refine ⟨u, ?_, AV.rel_of0 hv⟩
      refine val ?_
      rw [hp]
      simp only [Instr.loadAt, Instr.sureAddr, Sem.run_bind, Sem.run_pure, Result.andThen_ok, hu]
    · cases h
  · rename_i x
    split at h
    · rename_i b o hx
      cases h
      have hxr := hρ x (by simp [Op.operands])
      rw [hx] at hxr
      obtain ⟨l, hb, hp⟩ := hxr
      exact ⟨_, by simp [execOp, hp], ⟨l, hb, rfl⟩⟩
    · cases h
  · rename_i op t x y yt
    obtain ⟨u, hu, hv⟩ := evBin_sound h (hρ x (by simp [Op.operands])) (hρ y (by simp [Op.operands])) w
    exact ⟨u, val hu, hv⟩
  · rename_i op t x
    split at h
    · rename_i y hx
      obtain ⟨u, hu, rfl⟩ := Option.map_eq_some_iff.1 h
      have hxr := hρ x (by simp [Op.operands])
      rw [hx] at hxr
      have hxv : ρ x = y := hxr
      refine ⟨u, val ?_, rfl⟩
      rw [hxv]; exact pureOf_run hu P w
    · cases h
  · rename_i s d x
    unfold evConv at h
    split at h
    · rename_i k n hx
      have hxr := hρ x (by simp [Op.operands])
      rw [hx] at hxr
      have hxv : ρ x = .int k n := hxr
      split at h
      · rename_i ds k' hs hd
        cases h
        refine ⟨_, val ?_, rfl⟩
        rw [hxv]
        exact conv_int (by rw [hs]; rfl) hd k n
      · cases h
    · cases h
  · rename_i t x
    unfold evArrPtr at h
    split at h
    · rename_i b o len cap sz hx
      have hxr := hρ x (by simp [Op.operands])
      rw [hx] at hxr
      obtain ⟨p, cap', hp, h1, h2, h3⟩ := hxr
      split at h
      · rename_i n el hu
        split at h
        · rename_i hc
          cases h
          rcases h3 with h3 | ⟨l, hb, rfl, _⟩
          · omega
          · refine ⟨_, val ?_, ⟨l, hb, rfl⟩⟩
            rw [hp]
            have : ¬ len < n := by omega
            simp [Instr.arrayAt, run_underlying hu, this]
        · cases h
      · cases h
    · rename_i l hx
      have hxr := hρ x (by simp [Op.operands])
      rw [hx] at hxr
      obtain ⟨p, cap', hp, h1, h3⟩ := hxr
      split at h
      · rename_i n el hu
        split at h
        · rename_i hc
          cases h
          rcases h3 with h3 | ⟨c, o, rfl, hb, hr⟩
          · omega
          · refine ⟨_, val ?_, ⟨c, o, rfl, hr⟩⟩
            rw [hp]
            have : ¬ l.length < n := by omega
            simp [Instr.arrayAt, run_underlying hu, this]
        · cases h
      · cases h
    · cases h
  · rename_i t x lo hi
    have og : ∀ a : Option Operand, (∀ y ∈ a.toList, (e y).rel ι (ρ y)) → orel ι (a.map e) (a.map ρ) := by
      intro a ha
      cases a with
      | none => trivial
      | some y => exact ha y (by simp)
    obtain ⟨u, hu, hv⟩ := evSlice_sound h hR (hρ x (by simp [Op.operands])) (og lo fun y hy => hρ y (by simp [Op.operands] at hy ⊢; simp [hy])) (og hi fun y hy => hρ y (by simp [Op.operands] at hy ⊢; simp [hy]))
    exact ⟨u, val hu, hv⟩
  · rename_i t x f
    unfold evFieldAddr at h
    split at h
    · rename_i fs b o hu hx
      have hxr := hρ x (by simp [Op.operands])
      rw [hx] at hxr
      obtain ⟨l, hb, hp⟩ := hxr
      split at h
      · rename_i fd hf
        split at h
        · rename_i n hn
          split at h
          · cases h
          · rename_i h0
            cases h
            refine ⟨_, val ?_, ⟨l, hb, rfl⟩⟩
            rw [hp]
            simp [Instr.fieldAt, run_underlying hu, hf, Instr.sureAddr, fieldPlace, run_sizeT hn, h0, addr_at, Nat.add_assoc]
        · cases h
      · cases h
    · cases h
  · rename_i t x f
    unfold evField at h
    split at h
    · rename_i fs y hu hx
      have hxr := hρ x (by simp [Op.operands])
      rw [hx] at hxr
      obtain ⟨cs, hp, hs, hr⟩ := hxr
      split at h
      · rename_i fd hf
        obtain ⟨u, hu2, hv⟩ := run_part h hr w
        refine ⟨u, val ?_, AV.rel_of0 hv⟩
        rw [hp]
        simp [Instr.field, run_underlying hu, hf, asAgg, hu2]
      · cases h
    · cases h
  · rename_i t x i
    obtain ⟨u, hu, hv⟩ := evIndex_sound h w (hρ x (by simp [Op.operands])) (hρ i (by simp [Op.operands]))
    exact ⟨u, val hu, hv⟩
  · rename_i t x i
    unfold evIdx at h
    split at h
    · rename_i n el y iv hu hx hi
      have hxr := hρ x (by simp [Op.operands])
      rw [hx] at hxr
      obtain ⟨cs, hp, hs, hr⟩ := hxr
      obtain ⟨k, hk⟩ := intOf_rel hi (hρ i (by simp [Op.operands]))
      split at h
      · rename_i sz hsz
        split at h
        · rename_i hc
          obtain ⟨u, hu2, hv⟩ := run_part h hr w
          refine ⟨u, val ?_, AV.rel_of0 hv⟩
          rw [hp, hk]
          simp [Instr.index, asIntOf, run_underlying hu, hc, run_sizeT hsz, hu2]
        · cases h
      · cases h
    · cases h
  · rename_i x i
    split at h
    · rename_i l hx
      have hxr := hρ x (by simp [Op.operands])
      rw [hx] at hxr
      obtain ⟨vs, hp, hl, hr⟩ := hxr
      have hi : i < vs.size := by have := (List.getElem?_eq_some_iff.1 h).1; omega
      refine ⟨vs[i], val ?_, AV.rel_of0 (hr i v vs[i] h (by simp [hi]))⟩
      rw [hp]
      simp [Instr.extract, hi]
    · cases h
  · rename_i t ps
    have hpr := partsRel_map (e := e) (ρ := ρ) ps.toList fun p hp => hρ p.2 (by simp [Op.operands]; exact ⟨p.1, by simpa using hp⟩)
    obtain ⟨u, hu, hv⟩ := evBuild_sound (vs := ps.map fun (i, x) => (i, ρ x)) h (by simpa using hpr) w
    exact ⟨u, val hu, hv⟩
  · rename_i c
    obtain ⟨callee, args, argTypes⟩ := c
    have lit : ∀ {α : Type} {a : Array α} {l : List α}, a.toList = l → a = l.toArray := fun h => by rw [← h]
    simp only at h
    split at h
    · rename_i x t hargs htys
      obtain rfl := lit hargs
      obtain rfl := lit htys
      exact len_case P e ρ dst type pos after guard x t v h ι w hρ
    · rename_i x y hargs
      obtain rfl := lit hargs
      exact min_case P e ρ dst type pos after guard x y argTypes v h ι w hρ
    · rename_i x y hargs
      obtain rfl := lit hargs
      exact max_case P e ρ dst type pos after guard x y argTypes v h ι w hρ
    · cases h
  · cases h
end Go.Proofs.YtmbepikkgkcgkaaGreatDoor
