/- Merged and shortened by a program: part 1. -/
import Derived.Test.YtmbepikkgkcgkaaGreatDoorRows
import Derived.WalkKit
import Derived.WalkSpells
import Derived.WalkLawsBesides
import Derived.Deep.QuietTactic
import Derived.BigQuiet
import Derived.StillTailTactics
import Derived.Deep.WholeRow
import Derived.Deep.MidRow
import Derived.Laws.CopyOwn
import Derived.Handy
import Derived.Deep.DeepCutAuto
import Derived.Deep.CutBlock
import Derived.Lib.LaidTab
import Derived.Lib.ItoaNum
import Derived.Laws.Externs
import Derived.ChangeKeysEq
import Derived.Laws.StructEq
import Derived.Laws.AppendOwn
import Derived.Great.BuildSlice
import Derived.Scope
import Derived.Laws.AppendOwnNone
import Derived.Deep.RegionLaw
import Derived.ProofKit
import Derived.OpenShut
import Derived.ShutString
import Derived.ChangeOld
import Derived.Below
import Derived.Deep.Matrix
import Derived.LaidMore
import Derived.Stop.Joined
import Derived.Shelf.Strconv.AppendIntPublic10
import Derived.Test.YtmbepikkgkcgkaaGreatDoorProg
import Derived.Lib.AppendIntMem
import Derived.Lib.ItoaLen
import Derived.Lib.Slices
import Derived.Lib.Hide
import Derived.Laws.IdiomStrings
import Derived.OwnWalk
import Derived.BigCall
import Derived.MapKept
import Derived.Lib.SliceRun
import Derived.Lib.Mul64
import Derived.Laws.Pointers
set_option maxRecDepth 100000
set_option maxHeartbeats 8000000
namespace Go.Proofs.YtmbepikkgkcgkaaGreatDoor
open Go.RowKit
variable {g r : Prop}
open Go.Proofs.Tryz
def tn{n:Nat}(x:BitVec n):Int:=x.toNat
abbrev FL(x:BitVec 32):Value:= .int .u32 (tn x)
abbrev BW(x:BitVec 64):Value:= .int .u64 (tn x)
abbrev U8(x:BitVec 8):Value:= .int .u8 (tn x)
@[simp] theorem Pn{n:Nat}(x:BitVec n):0≤tn x:=Int.natCast_nonneg _
@[simp] theorem AA8{n:Nat}(x:BitVec n):(tn x).toNat=x.toNat:=rfl
theorem Hz(n:Int):IntKind.u32.wrap n=((BitVec.ofInt 32 n).toNat:Int):=by
 simp [IntKind.wrap,IntKind.bits,IntKind.signed];omega
theorem FG(n:Int):IntKind.u64.wrap n=((BitVec.ofInt 64 n).toNat:Int):=by
 simp [IntKind.wrap,IntKind.bits,IntKind.signed];omega
theorem Na(n:Int):IntKind.u8.wrap n=((BitVec.ofInt 8 n).toNat:Int):=by
 simp [IntKind.wrap,IntKind.bits,IntKind.signed];omega
theorem ofInt_add{n:Nat}(x y:BitVec n):BitVec.ofInt n (x.toNat+y.toNat)=x+y:=by
 apply BitVec.eq_of_toNat_eq
 rw [BitVec.toNat_ofInt,BitVec.toNat_add,←Int.natCast_add];omega
theorem Sh{n:Nat}(x y:BitVec n):BitVec.ofInt n (x.toNat-y.toNat)=x-y:=by
 have hx:=x.isLt
 have hy:=y.isLt
 apply BitVec.eq_of_toNat_eq
 rw [BitVec.toNat_ofInt,BitVec.toNat_sub]
 generalize hp:2^n=p at*
 have h:((x.toNat:Int)-y.toNat)%(p:Int)=((p-y.toNat+x.toNat:Nat):Int)%(p:Int):=by
  rw [show ((p-y.toNat+x.toNat:Nat):Int)=((x.toNat:Int)-y.toNat)+p from by omega,Int.add_emod_right]
 rw [h];omega
theorem ofInt_mul{n:Nat}(x y:BitVec n):BitVec.ofInt n (x.toNat*y.toNat)=x*y:=by
 apply BitVec.eq_of_toNat_eq
 rw [BitVec.toNat_ofInt,BitVec.toNat_mul]
 rw [←Int.natCast_mul];omega
theorem Az{n:Nat}(x:BitVec n):BitVec.ofInt n x.toNat=x:=by
 apply BitVec.eq_of_toNat_eq;rw [BitVec.toNat_ofInt];have:=x.isLt
 rw [show ((x.toNat:Int)%((2^n:Nat):Int))=((x.toNat%2^n:Nat):Int) from by omega,Nat.mod_eq_of_lt this];rfl
theorem EW{n m:Nat}(x:BitVec n):BitVec.ofInt m x.toNat=x.setWidth m:=by
 apply BitVec.eq_of_toNat_eq
 rw [BitVec.toNat_ofInt,BitVec.toNat_setWidth,←Int.natCast_emod];rfl
section
variable {P:Program} {w:World} {t u:TypeId}
@[go_sem 6000] theorem zi(x y:BitVec 32):binOp .add t (FL x) (FL y)=(pure (FL (x+y)):Sem Value):=by
 show (pure (Value.int .u32 (IntKind.u32.wrap (x.toNat+y.toNat))):Sem Value)=_
 rw [Hz,ofInt_add];rfl
@[go_sem 6000] theorem add64(x y:BitVec 64):binOp .add t (BW x) (BW y)=(pure (BW (x+y)):Sem Value):=by
 show (pure (Value.int .u64 (IntKind.u64.wrap (x.toNat+y.toNat))):Sem Value)=_
 rw [FG,ofInt_add];rfl
@[go_sem 6000] theorem ACn(x y:BitVec 8):binOp .add t (U8 x) (U8 y)=(pure (U8 (x+y)):Sem Value):=by
 show (pure (Value.int .u8 (IntKind.u8.wrap (x.toNat+y.toNat))):Sem Value)=_
 rw [Na,ofInt_add];rfl
@[go_sem 6000] theorem ACj(x y:BitVec 32):binOp .sub t (FL x) (FL y)=(pure (FL (x-y)):Sem Value):=by
 show (pure (Value.int .u32 (IntKind.u32.wrap (x.toNat-y.toNat))):Sem Value)=_
 rw [Hz,Sh];rfl
@[go_sem 6000] theorem sub64(x y:BitVec 64):binOp .sub t (BW x) (BW y)=(pure (BW (x-y)):Sem Value):=by
 show (pure (Value.int .u64 (IntKind.u64.wrap (x.toNat-y.toNat))):Sem Value)=_
 rw [FG,Sh];rfl
@[go_sem 6000] theorem AB9(x y:BitVec 8):binOp .sub t (U8 x) (U8 y)=(pure (U8 (x-y)):Sem Value):=by
 show (pure (Value.int .u8 (IntKind.u8.wrap (x.toNat-y.toNat))):Sem Value)=_
 rw [Na,Sh];rfl
@[go_sem 6000] theorem ACg(x y:BitVec 32):binOp .mul t (FL x) (FL y)=(pure (FL (x*y)):Sem Value):=by
 show (pure (Value.int .u32 (IntKind.u32.wrap (x.toNat*y.toNat))):Sem Value)=_
 rw [Hz,ofInt_mul];rfl
@[go_sem 6000] theorem ABN(x y:BitVec 64):binOp .mul t (BW x) (BW y)=(pure (BW (x*y)):Sem Value):=by
 show (pure (Value.int .u64 (IntKind.u64.wrap (x.toNat*y.toNat))):Sem Value)=_
 rw [FG,ofInt_mul];rfl
theorem gc(r:BitVec 32):(pure (Value.int .u32 (IntKind.u32.wrap r.toNat)):Sem Value)=pure (FL r):=by rw [Hz,Az];rfl
theorem jD(r:BitVec 64):(pure (Value.int .u64 (IntKind.u64.wrap r.toNat)):Sem Value)=pure (BW r):=by rw [FG,Az];rfl
theorem wZ(r:BitVec 8):(pure (Value.int .u8 (IntKind.u8.wrap r.toNat)):Sem Value)=pure (U8 r):=by rw [Na,Az];rfl
@[go_sem 6000] theorem zw(x y:BitVec 32):binOp .and t (FL x) (FL y)=(pure (FL (x&&&y)):Sem Value):=by
 show (pure (Value.int .u32 (IntKind.u32.wrap (BitVec.ofInt 32 x.toNat&&&BitVec.ofInt 32 y.toNat).toNat)):Sem Value)=_
 rw [Az,Az];exact gc _
@[go_sem 6000] theorem ACM(x y:BitVec 32):binOp .or t (FL x) (FL y)=(pure (FL (x ||| y)):Sem Value):=by
 show (pure (Value.int .u32 (IntKind.u32.wrap (BitVec.ofInt 32 x.toNat ||| BitVec.ofInt 32 y.toNat).toNat)):Sem Value)=_
 rw [Az,Az];exact gc _
@[go_sem 6000] theorem zY(x y:BitVec 32):binOp .xor t (FL x) (FL y)=(pure (FL (x^^^y)):Sem Value):=by
 show (pure (Value.int .u32 (IntKind.u32.wrap (BitVec.ofInt 32 x.toNat^^^BitVec.ofInt 32 y.toNat).toNat)):Sem Value)=_
 rw [Az,Az];exact gc _
@[go_sem 6000] theorem zu(x y:BitVec 64):binOp .and t (BW x) (BW y)=(pure (BW (x&&&y)):Sem Value):=by
 show (pure (Value.int .u64 (IntKind.u64.wrap (BitVec.ofInt 64 x.toNat&&&BitVec.ofInt 64 y.toNat).toNat)):Sem Value)=_
 rw [Az,Az];exact jD _
@[go_sem 6000] theorem ACb(x y:BitVec 64):binOp .or t (BW x) (BW y)=(pure (BW (x ||| y)):Sem Value):=by
 show (pure (Value.int .u64 (IntKind.u64.wrap (BitVec.ofInt 64 x.toNat ||| BitVec.ofInt 64 y.toNat).toNat)):Sem Value)=_
 rw [Az,Az];exact jD _
@[go_sem 6000] theorem AAz(x y:BitVec 64):binOp .xor t (BW x) (BW y)=(pure (BW (x^^^y)):Sem Value):=by
 show (pure (Value.int .u64 (IntKind.u64.wrap (BitVec.ofInt 64 x.toNat^^^BitVec.ofInt 64 y.toNat).toNat)):Sem Value)=_
 rw [Az,Az];exact jD _
@[go_sem 6000] theorem ABx(x y:BitVec 8):binOp .and t (U8 x) (U8 y)=(pure (U8 (x&&&y)):Sem Value):=by
 show (pure (Value.int .u8 (IntKind.u8.wrap (BitVec.ofInt 8 x.toNat&&&BitVec.ofInt 8 y.toNat).toNat)):Sem Value)=_
 rw [Az,Az];exact wZ _
@[go_sem 6000] theorem or8(x y:BitVec 8):binOp .or t (U8 x) (U8 y)=(pure (U8 (x ||| y)):Sem Value):=by
 show (pure (Value.int .u8 (IntKind.u8.wrap (BitVec.ofInt 8 x.toNat ||| BitVec.ofInt 8 y.toNat).toNat)):Sem Value)=_
 rw [Az,Az];exact wZ _
@[go_sem 6000] theorem ABt(x y:BitVec 8):binOp .xor t (U8 x) (U8 y)=(pure (U8 (x^^^y)):Sem Value):=by
 show (pure (Value.int .u8 (IntKind.u8.wrap (BitVec.ofInt 8 x.toNat^^^BitVec.ofInt 8 y.toNat).toNat)):Sem Value)=_
 rw [Az,Az];exact wZ _
@[go_sem 5000] theorem AB1(x:BitVec 32)(n:Int):binOp .add t (FL x) (.int .u32 n)=(pure (FL (x+BitVec.ofInt 32 n)):Sem Value):=by
 show (pure (Value.int .u32 (IntKind.u32.wrap (x.toNat+n))):Sem Value)=_
 rw [Hz,BitVec.ofInt_add,Az];rfl
@[go_sem 5000] theorem ACd(x:BitVec 64)(n:Int):binOp .add t (BW x) (.int .u64 n)=(pure (BW (x+BitVec.ofInt 64 n)):Sem Value):=by
 show (pure (Value.int .u64 (IntKind.u64.wrap (x.toNat+n))):Sem Value)=_
 rw [FG,BitVec.ofInt_add,Az];rfl
@[go_sem 5000] theorem AB8(x:BitVec 64)(n:Int):binOp .mul t (BW x) (.int .u64 n)=(pure (BW (x*BitVec.ofInt 64 n)):Sem Value):=by
 show (pure (Value.int .u64 (IntKind.u64.wrap (x.toNat*n))):Sem Value)=_
 rw [FG,BitVec.ofInt_mul,Az];rfl
@[go_sem 5000] theorem ABq(x:BitVec 64)(n:Int):binOp .mul t (.int .u64 n) (BW x)=(pure (BW (BitVec.ofInt 64 n*x)):Sem Value):=by
 show (pure (Value.int .u64 (IntKind.u64.wrap (n*x.toNat))):Sem Value)=_
 rw [FG,BitVec.ofInt_mul,Az];rfl
@[go_sem 5000] theorem ABk(x:BitVec 32)(n:Int):binOp .mul t (.int .u32 n) (FL x)=(pure (FL (BitVec.ofInt 32 n*x)):Sem Value):=by
 show (pure (Value.int .u32 (IntKind.u32.wrap (n*x.toNat))):Sem Value)=_
 rw [Hz,BitVec.ofInt_mul,Az];rfl
@[go_sem 5000] theorem ACS(x:BitVec 64)(n:Int):binOp .sub t (.int .u64 n) (BW x)=(pure (BW (BitVec.ofInt 64 n-x)):Sem Value):=by
 show (pure (Value.int .u64 (IntKind.u64.wrap (n-x.toNat))):Sem Value)=_
 rw [FG,Int.sub_eq_add_neg,BitVec.ofInt_add,BitVec.ofInt_neg,Az,BitVec.sub_eq_add_neg];rfl
@[go_sem 5000] theorem AB5(x:BitVec 64)(n:Int):binOp .sub t (BW x) (.int .u64 n)=(pure (BW (x-BitVec.ofInt 64 n)):Sem Value):=by
 show (pure (Value.int .u64 (IntKind.u64.wrap (x.toNat-n))):Sem Value)=_
 rw [FG,Int.sub_eq_add_neg,BitVec.ofInt_add,BitVec.ofInt_neg,Az,BitVec.sub_eq_add_neg];rfl
@[go_sem 5000] theorem zR(x:BitVec 32):Op.unary .xor (FL x)=(pure (FL (~~~x)):Sem Value):=by
 show (pure (Value.int .u32 (IntKind.u32.wrap (BitVec.ofInt 32 4294967295^^^BitVec.ofInt 32 x.toNat).toNat)):Sem Value)=_
 rw [Az,show BitVec.ofInt 32 4294967295^^^x= ~~~x from by rw [show BitVec.ofInt 32 4294967295=BitVec.allOnes 32 from by decide,BitVec.allOnes_xor]];exact gc _
@[go_sem 5000] theorem ABF(x:BitVec 64):Op.unary .xor (BW x)=(pure (BW (~~~x)):Sem Value):=by
 show (pure (Value.int .u64 (IntKind.u64.wrap (BitVec.ofInt 64 18446744073709551615^^^BitVec.ofInt 64 x.toNat).toNat)):Sem Value)=_
 rw [Az,show BitVec.ofInt 64 18446744073709551615^^^x= ~~~x from by rw [show BitVec.ofInt 64 18446744073709551615=BitVec.allOnes 64 from by decide,BitVec.allOnes_xor]];exact jD _
theorem Zy{n:Nat}(x:BitVec n)(y:Nat):BitVec.ofInt n (x.toNat*2^(min y n))=x<<<y:=by
 apply BitVec.eq_of_toNat_eq
 rw [BitVec.toNat_ofInt,BitVec.toNat_shiftLeft,Nat.shiftLeft_eq]
 have:((x.toNat:Int)*2^(min y n))=((x.toNat*2^(min y n):Nat):Int):=by simp
 rw [this]
 rcases Nat.le_total y n with h | h
 ·rw [Nat.min_eq_left h];omega
 ·rw [Nat.min_eq_right h]
  obtain ⟨d,rfl⟩:=Nat.le.dest h
  have e:((x.toNat*2^n:Nat):Int)%((2^n:Nat):Int)=0:=by
   rw [←Int.natCast_emod,Nat.mul_mod_left];rfl
  rw [e,Nat.pow_add,←Nat.mul_assoc,Nat.mul_right_comm,Nat.mul_mod_left];rfl
theorem O_{p:Prop}(h:p:=by omega):p:=h
theorem ZF{n:Nat}(x:BitVec n)(y:Nat):Int.fdiv x.toNat (2^(min y n))=((x>>>y).toNat:Int):=by
 rw [BitVec.toNat_ushiftRight,Nat.shiftRight_eq_div_pow]
 have h2:(2^(min y n):Int)=((2^(min y n):Nat):Int):=by simp
 rw [h2,Int.fdiv_eq_ediv_of_nonneg _ (Int.natCast_nonneg _),←Int.natCast_ediv]
 rcases Nat.le_total y n with h | h
 ·rw [Nat.min_eq_left h]
 ·rw [Nat.min_eq_right h,Nat.div_eq_of_lt x.isLt,Nat.div_eq_of_lt (Nat.lt_of_lt_of_le x.isLt (Nat.pow_le_pow_right O_ h))]
@[go_sem 5000] theorem AA5(x:BitVec 32)(k:IntKind)(n:Int)(h:0≤n):binOp .shl t (FL x) (.int k n)=(pure (FL (x<<<n.toNat)):Sem Value):=by
 show Op.shift .shl .u32 x.toNat k n=_
 rw [Op.shift,if_neg O_]
 show (pure (Value.int .u32 (IntKind.u32.wrap (x.toNat*2^(min n.toNat 32)))):Sem Value)=_
 rw [Hz,Zy];rfl
@[go_sem 5000] theorem uW(x:BitVec 64)(k:IntKind)(n:Int)(h:0≤n):binOp .shl t (BW x) (.int k n)=(pure (BW (x<<<n.toNat)):Sem Value):=by
 show Op.shift .shl .u64 x.toNat k n=_
 rw [Op.shift,if_neg O_]
 show (pure (Value.int .u64 (IntKind.u64.wrap (x.toNat*2^(min n.toNat 64)))):Sem Value)=_
 rw [FG,Zy];rfl
@[go_sem 5000] theorem ABj(x:BitVec 8)(k:IntKind)(n:Int)(h:0≤n):binOp .shl t (U8 x) (.int k n)=(pure (U8 (x<<<n.toNat)):Sem Value):=by
 show Op.shift .shl .u8 x.toNat k n=_
 rw [Op.shift,if_neg O_]
 show (pure (Value.int .u8 (IntKind.u8.wrap (x.toNat*2^(min n.toNat 8)))):Sem Value)=_
 rw [Na,Zy];rfl
@[go_sem 5000] theorem uo(x:BitVec 32)(k:IntKind)(n:Int)(h:0≤n):binOp .shr t (FL x) (.int k n)=(pure (FL (x>>>n.toNat)):Sem Value):=by
 show Op.shift .shr .u32 x.toNat k n=_
 rw [Op.shift,if_neg O_]
 show (pure (Value.int .u32 (Int.fdiv x.toNat (2^(min n.toNat 32)))):Sem Value)=_
 rw [ZF];rfl
@[go_sem 5000] theorem vO(x:BitVec 64)(k:IntKind)(n:Int)(h:0≤n):binOp .shr t (BW x) (.int k n)=(pure (BW (x>>>n.toNat)):Sem Value):=by
 show Op.shift .shr .u64 x.toNat k n=_
 rw [Op.shift,if_neg O_]
 show (pure (Value.int .u64 (Int.fdiv x.toNat (2^(min n.toNat 64)))):Sem Value)=_
 rw [ZF];rfl
@[go_sem 5000] theorem ACW(x:BitVec 8)(k:IntKind)(n:Int)(h:0≤n):binOp .shr t (U8 x) (.int k n)=(pure (U8 (x>>>n.toNat)):Sem Value):=by
 show Op.shift .shr .u8 x.toNat k n=_
 rw [Op.shift,if_neg O_]
 show (pure (Value.int .u8 (Int.fdiv x.toNat (2^(min n.toNat 8)))):Sem Value)=_
 rw [ZF];rfl
@[go_sem 6000] theorem yV(x:BitVec 32)(y:BitVec 64):binOp .shl t (FL x) (BW y)=(pure (FL (x<<<y.toNat)):Sem Value):=AA5 x .u64 (tn y) (Pn y)
@[go_sem 6000] theorem xW(x:BitVec 32)(y:BitVec 64):binOp .shr t (FL x) (BW y)=(pure (FL (x>>>y.toNat)):Sem Value):=uo x .u64 (tn y) (Pn y)
@[go_sem 6000] theorem wG(x y:BitVec 64):binOp .shl t (BW x) (BW y)=(pure (BW (x<<<y.toNat)):Sem Value):=uW x .u64 (tn y) (Pn y)
@[go_sem 6000] theorem we(x y:BitVec 64):binOp .shr t (BW x) (BW y)=(pure (BW (x>>>y.toNat)):Sem Value):=vO x .u64 (tn y) (Pn y)
theorem aG{n:Nat}(x y:BitVec n):((x.toNat:Int)==(y.toNat:Int))=(x==y):=by
 rw [Bool.eq_iff_iff];simp only [beq_iff_eq]
 exact ⟨fun h=>BitVec.eq_of_toNat_eq O_,fun h=>by rw [h]⟩
theorem xU{n:Nat}(x y:BitVec n):((x.toNat:Int) !=(y.toNat:Int))=(x !=y):=by
 unfold bne;rw [aG]
@[go_sem 6000] theorem ACT(x y:BitVec 8):binOp .eql t (U8 x) (U8 y)=(pure (.bool (x==y)):Sem Value):=by
 show (pure (Value.bool ((x.toNat:Int)==(y.toNat:Int))):Sem Value)=_
 rw [aG]
@[go_sem 6000] theorem ACI(x y:BitVec 8):binOp .neq t (U8 x) (U8 y)=(pure (.bool (x !=y)):Sem Value):=by
 show (pure (Value.bool ((x.toNat:Int) !=(y.toNat:Int))):Sem Value)=_
 rw [xU]
@[go_sem 6000] theorem zq(x y:BitVec 64):binOp .eql t (BW x) (BW y)=(pure (.bool (x==y)):Sem Value):=by
 show (pure (Value.bool ((x.toNat:Int)==(y.toNat:Int))):Sem Value)=_
 rw [aG]
theorem yc{n:Nat}(x:BitVec n)(c:Int)(h0:0≤c)(h1:c.toNat<2^n):((x.toNat:Int)==c)=(x==BitVec.ofInt n c):=by
 obtain ⟨k,rfl⟩:=Int.eq_ofNat_of_zero_le h0
 rw [←aG]
 congr 1
 rw [BitVec.toNat_ofInt]
 rw [Int.toNat_natCast] at h1
 rw [←Int.natCast_emod,Nat.mod_eq_of_lt h1];rfl
@[go_sem 5000] theorem ACk(x:BitVec 8)(c:Int)(h0:0≤c)(h1:c≤255):binOp .neq t (U8 x) (.int .u8 c)=(pure (.bool (x !=BitVec.ofInt 8 c)):Sem Value):=by
 show (pure (Value.bool (!((x.toNat:Int)==c))):Sem Value)=_
 rw [yc x c h0 O_];rfl
theorem Kf(hs:(P.underlying t).isSome=true){k:IntKind}(h:P.underlying u=some (.int k))(j:IntKind)(n:Int):(convert t u (.int j n)).run P w= .ok (.int k (k.wrap n)) w:=by
 obtain ⟨d,hd⟩:=Option.isSome_iff_exists.1 hs
 unfold convert
 simp only [Sem.run_bind,run_underlying hd,run_underlying h,Result.andThen_ok]
 cases d<;>rfl
@[go_sem 5000] theorem zg(hs:(P.underlying t).isSome=true)(h:P.underlying u=some (.int .u64))(x:BitVec 8):(convert t u (U8 x)).run P w= .ok (BW (x.setWidth 64)) w:=by
 rw [Kf hs h,FG];unfold tn;rw [EW];rfl
@[go_sem 5000] theorem zV(hs:(P.underlying t).isSome=true)(h:P.underlying u=some (.int .u32))(x:BitVec 8):(convert t u (U8 x)).run P w= .ok (FL (x.setWidth 32)) w:=by
 rw [Kf hs h,Hz];unfold tn;rw [EW];rfl
@[go_sem 5000] theorem zL(hs:(P.underlying t).isSome=true)(h:P.underlying u=some (.int .u32))(x:BitVec 64):(convert t u (BW x)).run P w= .ok (FL (x.setWidth 32)) w:=by
 rw [Kf hs h,Hz];unfold tn;rw [EW];rfl
@[go_sem 5000] theorem AA4(hs:(P.underlying t).isSome=true)(h:P.underlying u=some (.int .u8))(x:BitVec 64):(convert t u (BW x)).run P w= .ok (U8 (x.setWidth 8)) w:=by
 rw [Kf hs h,Na];unfold tn;rw [EW];rfl
@[go_sem 5000] theorem AAA(hs:(P.underlying t).isSome=true)(h:P.underlying u=some (.int .u8))(x:BitVec 32):(convert t u (FL x)).run P w= .ok (U8 (x.setWidth 8)) w:=by
 rw [Kf hs h,Na];unfold tn;rw [EW];rfl
@[go_sem 5000] theorem zJ(hs:(P.underlying t).isSome=true)(h:P.underlying u=some (.int .u64))(x:BitVec 32):(convert t u (FL x)).run P w= .ok (BW (x.setWidth 64)) w:=by
 rw [Kf hs h,FG];unfold tn;rw [EW];rfl
end
abbrev AB(n:Nat):Type:=List (BitVec n)
def cells{n:Nat}(f:BitVec n→Value)(l:AB n):Array Value:=(l.map f).toArray
def nth{n:Nat}(l:AB n)(i:Nat):BitVec n:=l.getD i 0
def put{n:Nat}(l:AB n)(i:Nat)(v:BitVec n):AB n:=l.set i v
@[simp,go_sem] theorem B1{n:Nat}(l:AB n)(i:Nat)(v:BitVec n):(put l i v).length=l.length:=by simp [put]
theorem DH{n:Nat}(l:AB n)(i j:Nat)(v:BitVec n)(h:i<l.length):nth (put l i v) j=if i=j then v else nth l j:=by
 simp only [nth,put,List.getD_eq_getElem?_getD,List.getElem?_set]
 split<;>simp_all
theorem Qj{n:Nat}(l:AB n)(i:Nat)(h:i<l.length):nth l i=l[i]:=by simp [nth,h]
theorem hid{p:Prop}(h:p):Hid p:=h
theorem Gg(w:World)(o:Obj)(i:Nat):(w.alloc o).heap[i]?=if i=w.heap.size then some o else w.heap[i]?:=by
 show (w.heap.push o)[i]?=_
 rw [Array.getElem?_push]
@[go_sem,simp] theorem rm(w:World)(n:Nat)(a:Addr)(v:Value):(w.drewN n).setCell a v=(w.setCell a v).drewN n:=rfl
theorem size_alloc(w:World)(o:Obj):(w.alloc o).heap.size=w.heap.size+1:=by show (w.heap.push o).size=_;rw [Array.size_push]
theorem HQ(w:World)(b:Nat)(cs:Array Value)(i:Nat)(h:i≠b):(w.setRow b cs).heap[i]?=w.heap[i]?:=by
 simp only [World.setRow,Array.getElem?_modify];rw [if_neg (fun e=>h e.symm)]
def Ag(n:Nat):AB 8:=List.replicate n 0
@[go_sem,simp] theorem A1(n:Nat):(Ag n).length=n:=by simp [Ag]
def OJ(n:Nat):AB 32:=List.replicate n 0#32
def Aj(n:Nat):AB 64:=List.replicate n 0#64
def zX(n:Nat):List Int:=List.replicate n 0
@[go_sem,simp] theorem NV(n:Nat):(OJ n).length=n:=by simp [OJ]
@[go_sem,simp] theorem Ja(n:Nat):(Aj n).length=n:=by simp [Aj]
@[go_sem,simp] theorem ON(n:Nat):(zX n).length=n:=by simp [zX]
def fill{n:Nat}(f:Nat→BitVec n)(o:Nat):Nat→AB n→AB n
 |0,l=>l
 |k+1,l=>put (fill f o k l) (o+k) (f k)
end Go.Proofs.YtmbepikkgkcgkaaGreatDoor
namespace Go.Proofs.YtmbepikkgkcgkaaGreatDoor
variable {g r : Prop}
open Go.Proofs.Tryz
def eT(ob:Obj):Prop:= ∃t fr,ob= .cells (Lib.pow10Tab.map fun z=>Value.int .u64 z).toArray t fr
def Uj:Nat→Option (Obj→Prop):=fun c=>if c=0 then some eT else none
theorem xo{P:Program}{w:World}(hg:P.globalNamed "internal/strconv.uint64pow10" =some 0)(h:∃ob,w.heap[0]?=some ob∧eT ob):Lib.TabIs P w "internal/strconv.uint64pow10" .u64 Lib.pow10Tab:=by
 obtain ⟨ob,h1,t,fr,rfl⟩:=h
 unfold Lib.TabIs World.var?
 rw [hg,Option.bind_some,h1]
end Go.Proofs.YtmbepikkgkcgkaaGreatDoor
namespace Go.Proofs.YtmbepikkgkcgkaaGreatDoor
open Go.RowKit
variable {g r : Prop}
open Go.Proofs.Tryz
structure Loc where
 c:Nat
 off:Nat
 n:Nat
structure Emb where
 f:Nat→Option Loc
 tx:Nat→Nat→Value→Prop
instance:CoeFun Emb (fun _=>Nat→Option Loc):=⟨Emb.f⟩
inductive Cell where
 |any
 |val (v:Value)
 |ptr (b o:Nat)
 |sl (b o len cap sz:Nat)
 |nsl
 |esl
 |bs (l:AB 8)
 |is (l:List Int)
 |qb (l:AB 8) (o:Nat)
 |qi (l:List Int) (o:Nat)
 |mp (b:Nat)
 |xs (b n:Nat)
 |lb (l:AB 8)
structure Nd where
 k:Int
 n:Int
 a:List Int
inductive C6 where
 |val (v:Value)
 |bs (l:AB 8)
 |is (l:List Int)
def C6.cell:C6→Cell
 |.val v=> .val v
 |.bs l=> .bs l
 |.is l=> .is l
inductive Arr where
 |a8 (l:AB 8)
 |a32 (l:AB 32)
 |a64 (l:AB 64)
 |ai (l:List Int)
 |ac (l:List Cell)
 |ab (l:List (AB 8))
 |an (l:List Nd)
 |bl (l:List Bool)
 |al (l:List C6)
 |mp (es:List (Value×C6))
inductive AV where
 |c (x:Cell)
 |agg (x:Arr)
 |tup (l:List AV)
inductive Row where
 |dead
 |row (own:Bool) (x:Arr)
abbrev Ak:=List Row
def Co(ι:Emb)(g:Nat→Value)(n:Nat)(v:Value):Prop:= ∃p cap,v= .slice p n cap∧n≤cap∧(cap=0∨ ∃c o,p=some ⟨c,o,none⟩∧(∃o' v',ι.tx c o' v')∧ ∀i,i<n→ι.tx c (o+i) (g i))
theorem Co.mono{ι ι':Emb}(h:∀c o v,ι.tx c o v→ι'.tx c o v){g:Nat→Value}{n:Nat}{v:Value}(hr:Co ι g n v):Co ι' g n v:=by
 obtain ⟨p,cap,rfl,h1,h2⟩:=hr
 refine ⟨p,cap,rfl,h1,h2.imp id ?_⟩
 rintro ⟨c,o,rfl,⟨o',v',hb⟩,r⟩
 exact ⟨c,o,rfl,⟨o',v',h _ _ _ hb⟩,fun i hi=>h _ _ _ (r i hi)⟩
def Cell.rel(ι:Emb):Cell→Value→Prop
 |.any,_=>True
 |.val x,v=>v=x
 |.ptr b o,v=> ∃l,ι b=some l∧v= .pointer (some ⟨l.c,l.off+o,none⟩)
 |.sl b o len cap sz,v=> ∃p cap',v= .slice p len cap'∧cap≤cap'∧len≤cap'∧(cap'=0∨ ∃l,ι b=some l∧p=some ⟨l.c,l.off+o,none⟩∧o+cap'*sz≤l.n)
 |.nsl,v=>v= .slice none 0 0
 |.esl,v=> ∃p,v= .slice p 0 0
 |.bs x,v=>Co ι (fun i=>U8 (nth x i)) x.length v
 |.is x,v=>Co ι (fun i=> .int .i64 (x.getD i 0)) x.length v
 |.qb x k,v=> ∃c o,v= .pointer (some ⟨c,o+k,none⟩)∧ ∀i,i<x.length→ι.tx c (o+i) (U8 (nth x i))
 |.qi x k,v=> ∃c o,v= .pointer (some ⟨c,o+k,none⟩)∧ ∀i,i<x.length→ι.tx c (o+i) (.int .i64 (x.getD i 0))
 |.mp b,v=> ∃l,ι b=some l∧v= .map (some l.c)
 |.xs b n,v=> ∃l,ι b=some l∧v= .slice (some ⟨l.c,l.off,none⟩) n n
 |.lb x,v=>Co ι (fun i=>U8 (nth x i)) x.length v∧ ∃p,v= .slice p x.length x.length
def Cell.one:Cell→Bool
 |.any=>false
 |.val v=>v.oneCell'
 |_=>true
theorem Cell.rel_one{ι:Emb}{x:Cell}{v:Value}(h:x.rel ι v)(h1:x.one=true):v.oneCell'=true:=by
 cases x with
 |any=>cases h1
 |val y=>simp only [Cell.rel] at h;subst h;exact h1
 |ptr b o=>obtain ⟨l,_,rfl⟩:=h;rfl
 |sl b o len cap sz=>obtain ⟨p,c,rfl,_⟩:=h;rfl
 |nsl=>simp only [Cell.rel] at h;subst h;rfl
 |esl=>obtain ⟨p,rfl⟩:=h;rfl
 |bs x=>obtain ⟨p,c,rfl,_⟩:=h;rfl
 |is x=>obtain ⟨p,c,rfl,_⟩:=h;rfl
 |qb x k=>obtain ⟨c,o,rfl,_⟩:=h;rfl
 |qi x k=>obtain ⟨c,o,rfl,_⟩:=h;rfl
 |mp b=>obtain ⟨l,_,rfl⟩:=h;rfl
 |xs b n=>obtain ⟨l,_,rfl⟩:=h;rfl
 |lb x=>obtain ⟨_,p,rfl⟩:=h;rfl
def w8?:Value→Option (BitVec 8)
 |.int .u8 n=>if (tn (BitVec.ofInt 8 n):Int)=n then some (BitVec.ofInt 8 n) else none
 |_=>none
def pJ:Value→Option (BitVec 32)
 |.int .u32 n=>if (tn (BitVec.ofInt 32 n):Int)=n then some (BitVec.ofInt 32 n) else none
 |_=>none
def ci:Value→Option (BitVec 64)
 |.int .u64 n=>if (tn (BitVec.ofInt 64 n):Int)=n then some (BitVec.ofInt 64 n) else none
 |_=>none
def i?:Value→Option Int
 |.int .i64 n=>some n
 |_=>none
@[simp] theorem xE(x:BitVec 8):w8? (U8 x)=some x:=by
 show (if (tn (BitVec.ofInt 8 (tn x)):Int)=tn x then some (BitVec.ofInt 8 (tn x)) else none)=_
 have:BitVec.ofInt 8 (tn x)=x:=Az x
 rw [this,if_pos rfl]
@[simp] theorem oX(x:BitVec 32):pJ (FL x)=some x:=by
 show (if (tn (BitVec.ofInt 32 (tn x)):Int)=tn x then some (BitVec.ofInt 32 (tn x)) else none)=_
 have:BitVec.ofInt 32 (tn x)=x:=Az x
 rw [this,if_pos rfl]
@[simp] theorem dM(x:BitVec 64):ci (BW x)=some x:=by
 show (if (tn (BitVec.ofInt 64 (tn x)):Int)=tn x then some (BitVec.ofInt 64 (tn x)) else none)=_
 have:BitVec.ofInt 64 (tn x)=x:=Az x
 rw [this,if_pos rfl]
theorem dI{v:Value}{x:BitVec 8}(h:w8? v=some x):v=U8 x:=by
 unfold w8? at h;split at h
 ·split at h
  ·rename_i e;cases h;rw [U8,e]
  ·cases h
 ·cases h
theorem Xn{v:Value}{x:BitVec 32}(h:pJ v=some x):v=FL x:=by
 unfold pJ at h;split at h
 ·split at h
  ·rename_i e;cases h;rw [FL,e]
  ·cases h
 ·cases h
theorem MD{v:Value}{x:BitVec 64}(h:ci v=some x):v=BW x:=by
 unfold ci at h;split at h
 ·split at h
  ·rename_i e;cases h;rw [BW,e]
  ·cases h
 ·cases h
theorem iP{v:Value}{x:Int}(h:i? v=some x):v= .int .i64 x:=by
 unfold i? at h;split at h
 ·cases h;rfl
 ·cases h
def Arr.size:Arr→Nat
 |.a8 l=>l.length
 |.a32 l=>l.length
 |.a64 l=>l.length
 |.ai l=>l.length
 |.ac l=>l.length
 |.ab l=>l.length
 |.an l=>3*l.length
 |.bl l=>l.length
 |.al l=>l.length
 |.mp _=>0
def Fh(l:List (AB 8))(i:Nat):AB 8:=l.getD i []
def Aa(l:List Nd)(i:Nat):Nd:=l.getD i ⟨0,0,[]⟩
def sT(l:List C6)(i:Nat):C6:=l.getD i (.val (.bool false))
def JN(l:List Bool)(i:Nat):Bool:=l.getD i false
def Nd.get(x:Nd):Nat→Cell
 |0=> .val (.int .i64 x.k)
 |1=> .val (.int .i64 x.n)
 |_=> .is x.a
def AX(l:List Int)(i:Nat):Int:=l.getD i 0
def Ti(l:List Cell)(i:Nat):Cell:=l.getD i .any
def Arr.get:Arr→Nat→Cell
 |.a8 l,i=> .val (U8 (nth l i))
 |.a32 l,i=> .val (FL (nth l i))
 |.a64 l,i=> .val (BW (nth l i))
 |.ai l,i=> .val (.int .i64 (AX l i))
 |.ac l,i=>Ti l i
 |.ab l,i=> .bs (Fh l i)
 |.an l,i=>(Aa l (i/3)).get (i%3)
 |.bl l,i=> .val (.bool (JN l i))
 |.al l,i=>(sT l i).cell
 |.mp _,_=> .any
def XF(l:List Int)(i:Nat)(v:Int):List Int:=l.set i v
def sW(l:List Cell)(i:Nat)(v:Cell):List Cell:=l.set i v
def Arr.set:Arr→Nat→Cell→Option Arr
 |.a8 l,i,.val v=>(w8? v).map fun x=> .a8 (put l i x)
 |.a32 l,i,.val v=>(pJ v).map fun x=> .a32 (put l i x)
 |.a64 l,i,.val v=>(ci v).map fun x=> .a64 (put l i x)
 |.ai l,i,.val v=>(i? v).map fun x=> .ai (XF l i x)
 |.ac l,i,c=>some (.ac (sW l i c))
 |.ab l,i,.bs x=>some (.ab (l.set i x))
 |.bl l,i,.val (.bool t)=>some (.bl (l.set i t))
 |_,_,_=>none
def cut{α:Type}(l:List α)(o n:Nat):List α:=(l.drop o).take n
def Arr.win:Arr→Nat→Nat→Arr
 |.a8 l,o,n=> .a8 (cut l o n)
 |.a32 l,o,n=> .a32 (cut l o n)
 |.a64 l,o,n=> .a64 (cut l o n)
 |.ai l,o,n=> .ai (cut l o n)
 |.ac l,o,n=> .ac (cut l o n)
 |.ab l,o,n=> .ab (cut l o n)
 |.bl l,o,n=> .bl (cut l o n)
 |.an l,o,n=> .ac ((List.range (min n (3*l.length-o))).map fun i=>(Aa l ((o+i)/3)).get ((o+i)%3))
 |.al l,o,n=> .al (cut l o n)
 |.mp _,_,_=> .ac []
def over{α:Type}(l:List α)(o:Nat)(m:List α):List α:=l.take o++m++l.drop (o+m.length)
def Arr.cells(x:Arr):List Cell:=(List.range x.size).map x.get
def Arr.putW:Arr→Nat→Arr→Option Arr
 |.a8 l,o,.a8 m=>some (.a8 (over l o m))
 |.a32 l,o,.a32 m=>some (.a32 (over l o m))
 |.a64 l,o,.a64 m=>some (.a64 (over l o m))
 |.ai l,o,.ai m=>some (.ai (over l o m))
 |.ac l,o,m=>some (.ac (over l o m.cells))
 |.ab l,o,.ab m=>some (.ab (over l o m))
 |.bl l,o,.bl m=>some (.bl (over l o m))
 |_,_,_=>none
def Arr.app:Arr→Arr→Option Arr
 |.a8 l,.a8 m=>some (.a8 (l++m))
 |.a32 l,.a32 m=>some (.a32 (l++m))
 |.a64 l,.a64 m=>some (.a64 (l++m))
 |.ai l,.ai m=>some (.ai (l++m))
 |.ac l,.ac m=>some (.ac (l++m))
 |.ab l,.ab m=>some (.ab (l++m))
 |.ab l,.ac [.bs x]=>some (.ab (l++[x]))
 |.an l,.ac [.val (.int .i64 k),.val (.int .i64 n),.is a]=>some (.an (l++[⟨k,n,a⟩]))
 |.bl l,.bl m=>some (.bl (l++m))
 |_,_=>none
def Arr.one:Arr→Bool
 |.ac l=>l.all Cell.one
 |.al _=>false
 |.mp _=>false
 |_=>true
def Arr.isMap:Arr→Bool
 |.mp _=>true
 |_=>false
theorem Arr.noMap{x:Arr}(h:0<x.size):x.isMap=false:=by cases x<;>first | rfl | (simp [Arr.size] at h)
theorem Arr.one_noMap{x:Arr}(h:x.one=true):x.isMap=false:=by cases x<;>first | rfl | cases h
theorem Arr.app_noMap{x y z:Arr}(h:x.app y=some z):z.isMap=false:=by
 unfold Arr.app at h
 split at h<;>(first | (cases h;rfl) | cases h)
theorem Arr.set_noMap{x z:Arr}{i:Nat}{c:Cell}(h:x.set i c=some z):z.isMap=false:=by
 unfold Arr.set at h
 split at h<;>(first | (cases h;rfl) | (obtain ⟨_,_,rfl⟩:=Option.map_eq_some_iff.1 h;rfl) | cases h)
theorem Arr.putW_noMap{x y z:Arr}{i:Nat}(h:x.putW i y=some z):z.isMap=false:=by
 unfold Arr.putW at h
 split at h<;>(first | (cases h;rfl) | cases h)
theorem Arr.putW_noMap0{x y z:Arr}{i:Nat}(h:x.putW i y=some z):x.isMap=false:=by
 cases x<;>(first | rfl | simp [Arr.putW] at h)
theorem Arr.get_one{x:Arr}(h:x.one=true){i:Nat}(hi:i<x.size):(x.get i).one=true:=by
 cases x with
 |ac l=>
  simp only [Arr.one,List.all_eq_true] at h
  simp only [Arr.size] at hi
  simp only [Arr.get,Ti,List.getD_eq_getElem?_getD,List.getElem?_eq_getElem hi,Option.getD_some]
  exact h _ (List.getElem_mem _)
 |an l=>
  simp only [Arr.get]
  generalize i%3=j
  match j with
  |0=>rfl
  |1=>rfl
  |j+2=>rfl
 |mp es=>simp [Arr.size] at hi
 |al l=>cases h
 |_=>rfl
theorem VG{n:Nat}(l:AB n)(i j:Nat)(v:BitVec n)(h:j<l.length):nth (put l i v) j=if j=i then v else nth l j:=by
 simp only [nth,put,List.getD_eq_getElem?_getD,List.getElem?_set]
 by_cases e:i=j
 ·subst e;simp [h]
 ·rw [if_neg e,if_neg (fun h=>e h.symm)]
theorem Arr.set_spec{x y:Arr}{i:Nat}{c:Cell}(h:x.set i c=some y):y.size=x.size∧ ∀j,j<x.size→y.get j=if j=i then c else x.get j:=by
 cases x with
 |a8 l=>
  cases c<;>simp only [Arr.set] at h<;>try (cases h;done)
  obtain ⟨z,hz,rfl⟩:=Option.map_eq_some_iff.1 h
  obtain rfl:=dI hz
  refine ⟨by simp [Arr.size],fun j hj=>?_⟩
  simp only [Arr.get,VG l i j z hj];split<;>rfl
 |a32 l=>
  cases c<;>simp only [Arr.set] at h<;>try (cases h;done)
  obtain ⟨z,hz,rfl⟩:=Option.map_eq_some_iff.1 h
  obtain rfl:=Xn hz
  refine ⟨by simp [Arr.size],fun j hj=>?_⟩
  simp only [Arr.get,VG l i j z hj];split<;>rfl
 |a64 l=>
  cases c<;>simp only [Arr.set] at h<;>try (cases h;done)
  obtain ⟨z,hz,rfl⟩:=Option.map_eq_some_iff.1 h
  obtain rfl:=MD hz
  refine ⟨by simp [Arr.size],fun j hj=>?_⟩
  simp only [Arr.get,VG l i j z hj];split<;>rfl
 |ai l=>
  cases c<;>simp only [Arr.set] at h<;>try (cases h;done)
  obtain ⟨z,hz,rfl⟩:=Option.map_eq_some_iff.1 h
  obtain rfl:=iP hz
  refine ⟨by simp [Arr.size,XF],fun j hj=>?_⟩
  simp only [Arr.size] at hj
  simp only [Arr.get,AX,XF,List.getD_eq_getElem?_getD,List.getElem?_set]
  by_cases e:i=j
  ·subst e;simp [hj]
  ·rw [if_neg e,if_neg (fun h=>e h.symm)]
 |ac l=>
  simp only [Arr.set,Option.some.injEq] at h
  subst h
  refine ⟨by simp [Arr.size,sW],fun j hj=>?_⟩
  simp only [Arr.size] at hj
  simp only [Arr.get,Ti,sW,List.getD_eq_getElem?_getD,List.getElem?_set]
  by_cases e:i=j
  ·subst e;simp [hj]
  ·rw [if_neg e,if_neg (fun h=>e h.symm)]
 |ab l=>
  cases c<;>simp only [Arr.set] at h<;>try (cases h;done)
  cases h
  refine ⟨by simp [Arr.size],fun j hj=>?_⟩
  simp only [Arr.size] at hj
  simp only [Arr.get,Fh,List.getD_eq_getElem?_getD,List.getElem?_set]
  by_cases e:i=j
  ·subst e;simp [hj]
  ·rw [if_neg e,if_neg (fun h=>e h.symm)]
 |bl l=>
  cases c<;>simp only [Arr.set] at h<;>try (cases h;done)
  rename_i v
  cases v<;>simp only at h<;>try (cases h;done)
  cases h
  refine ⟨by simp [Arr.size],fun j hj=>?_⟩
  simp only [Arr.size] at hj
  simp only [Arr.get,JN,List.getD_eq_getElem?_getD,List.getElem?_set]
  by_cases e:i=j
  ·subst e;simp [hj]
  ·rw [if_neg e,if_neg (fun h=>e h.symm)]
 |an l=>cases c<;>simp [Arr.set] at h
 |al l=>cases c<;>simp [Arr.set] at h
 |mp es=>cases c<;>simp [Arr.set] at h
theorem Pa{α:Type}(l:List α)(o n i:Nat)(d:α)(hi:i<n):(cut l o n).getD i d=l.getD (o+i) d:=by
 simp only [cut,List.getD_eq_getElem?_getD,List.getElem?_take,hi,if_true,List.getElem?_drop]
theorem Arr.win_size(x:Arr)(o n:Nat):(x.win o n).size=min n (x.size-o):=by cases x<;>simp [Arr.win,Arr.size,cut]
theorem Arr.win_get'(x:Arr)(o n i:Nat)(hi:i<n)(hs:o+i<x.size):(x.win o n).get i=x.get (o+i):=by
 cases x with
 |an l=>
  simp only [Arr.size] at hs
  have h:i<min n (3*l.length-o):=by omega
  simp only [Arr.win,Arr.get,Ti,List.getD_eq_getElem?_getD,List.getElem?_map,List.getElem?_range h,Option.map_some,Option.getD_some]
 |mp es=>simp [Arr.size] at hs
 |_=>simp only [Arr.win,Arr.get,nth,AX,Ti,Fh,JN,sT,Pa _ _ _ _ _ hi]
theorem Ii{α:Type}(l m:List α)(o j:Nat)(d:α)(h:o+m.length≤l.length):(over l o m).getD j d=if o≤j∧j<o+m.length then m.getD (j-o) d else l.getD j d:=by
 simp only [over,List.getD_eq_getElem?_getD]
 by_cases h1:j<o
 ·rw [if_neg O_,List.append_assoc,List.getElem?_append_left (by simp;omega),List.getElem?_take,if_pos h1]
 ·by_cases h2:j<o+m.length
  ·rw [if_pos ⟨by omega,h2⟩,List.getElem?_append_left (by simp;omega),List.getElem?_append_right (by simp;omega)]
   congr 3;simp;omega
  ·rw [if_neg O_,List.getElem?_append_right (by simp;omega),List.getElem?_drop]
   congr 3;simp;omega
theorem GC{α:Type}(l m:List α)(o:Nat)(h:o+m.length≤l.length):(over l o m).length=l.length:=by simp [over];omega
theorem Arr.cells_length(x:Arr):x.cells.length=x.size:=by simp [Arr.cells]
theorem Arr.cells_get(x:Arr)(i:Nat)(hi:i<x.size):x.cells.getD i .any=x.get i:=by simp [Arr.cells,hi]
theorem Arr.putW_spec{x y z:Arr}{o:Nat}(h:x.putW o y=some z)(hs:o+y.size≤x.size):z.size=x.size∧ ∀j,j<x.size→z.get j=if o≤j∧j<o+y.size then y.get (j-o) else x.get j:=by
 cases x with
 |ac l=>
  simp only [Arr.putW,Option.some.injEq] at h
  subst h
  simp only [Arr.size] at hs
  refine ⟨by simp only [Arr.size];exact GC _ _ _ (by rw [Arr.cells_length];exact hs),fun j hj=>?_⟩
  simp only [Arr.get,Ti]
  rw [Ii _ _ _ _ _ (by rw [Arr.cells_length];exact hs),Arr.cells_length]
  split
  ·rename_i hj'
   exact Arr.cells_get y _ O_
  ·rfl
 |a8 l=>
  cases y<;>simp only [Arr.putW] at h<;>cases h
  refine ⟨GC _ _ _ hs,fun j hj=>?_⟩
  simp only [Arr.get,nth,Arr.size]
  rw [Ii _ _ _ _ _ hs]
  split<;>rename_i h<;>simp only [h,if_true,if_false,and_self]
 |a32 l=>
  cases y<;>simp only [Arr.putW] at h<;>cases h
  refine ⟨GC _ _ _ hs,fun j hj=>?_⟩
  simp only [Arr.get,nth,Arr.size]
  rw [Ii _ _ _ _ _ hs]
  split<;>rename_i h<;>simp only [h,if_true,if_false,and_self]
 |a64 l=>
  cases y<;>simp only [Arr.putW] at h<;>cases h
  refine ⟨GC _ _ _ hs,fun j hj=>?_⟩
  simp only [Arr.get,nth,Arr.size]
  rw [Ii _ _ _ _ _ hs]
  split<;>rename_i h<;>simp only [h,if_true,if_false,and_self]
 |ai l=>
  cases y<;>simp only [Arr.putW] at h<;>cases h
  refine ⟨GC _ _ _ hs,fun j hj=>?_⟩
  simp only [Arr.get,AX,Arr.size]
  rw [Ii _ _ _ _ _ hs]
  split<;>rename_i h<;>simp only [h,if_true,if_false,and_self]
 |ab l=>
  cases y<;>simp only [Arr.putW] at h<;>cases h
  refine ⟨GC _ _ _ hs,fun j hj=>?_⟩
  simp only [Arr.get,Fh,Arr.size]
  rw [Ii _ _ _ _ _ hs]
  split<;>rename_i h<;>simp only [h,if_true,if_false,and_self]
 |bl l=>
  cases y<;>simp only [Arr.putW] at h<;>cases h
  refine ⟨GC _ _ _ hs,fun j hj=>?_⟩
  simp only [Arr.get,JN,Arr.size]
  rw [Ii _ _ _ _ _ hs]
  split<;>rename_i h<;>simp only [h,if_true,if_false,and_self]
 |an l=>cases y<;>simp [Arr.putW] at h
 |al l=>cases y<;>simp [Arr.putW] at h
 |mp es=>cases y<;>simp [Arr.putW] at h
theorem Gd{α:Type}(l m:List α)(j:Nat)(d:α):(l++m).getD j d=if j<l.length then l.getD j d else m.getD (j-l.length) d:=by
 simp only [List.getD_eq_getElem?_getD]
 by_cases h:j<l.length
 ·rw [if_pos h,List.getElem?_append_left h]
 ·rw [if_neg h,List.getElem?_append_right O_]
theorem Arr.app_spec {x y z : Arr} (h : x.app y = some z) : z.size = x.size + y.size ∧ ∀ j, j < z.size → z.get j = if j < x.size then x.get j else y.get (j - x.size) := by
  unfold Arr.app at h
  split at h
  case h_10 => cases h
  all_goals (cases h)
  case h_7 l x =>
    refine ⟨by simp [Arr.size], fun j hj => ?_⟩
    have hj : j < (l ++ [x]).length := hj
    simp only [List.length_append, List.length_singleton] at hj
    by_cases h1 : j < (Arr.ab l).size
    · rw [if_pos h1]
      have h1 : j < l.length := h1
      simp only [Arr.get, Fh, Gd]
      rw [if_pos h1]
    · rw [if_neg h1]
      have h1 : ¬ j < l.length := h1
      simp only [Arr.get, Fh, Ti, Gd]
      rw [if_neg h1, show j - (Arr.ab l).size = 0 by show j - l.length = 0; omega, show j - l.length = 0 by omega]
      rfl
  case h_8 l k n a =>
    refine ⟨by simp [Arr.size]; omega, fun j hj => ?_⟩
    have hj : j < 3 * (l ++ [(⟨k, n, a⟩ : Nd)]).length := hj
    simp only [List.length_append, List.length_singleton] at hj
    by_cases h1 : j < (Arr.an l).size
    · rw [if_pos h1]
      have h1 : j < 3 * l.length := h1
      simp only [Arr.get, Aa, Gd]
      rw [if_pos O_]
    · rw [if_neg h1]
      have h1 : ¬ j < 3 * l.length := h1
      simp only [Arr.get, Aa, Gd]
      rw [if_neg O_, show j - (Arr.an l).size = j - 3 * l.length from rfl]
      rcases (by omega : j = 3 * l.length ∨ j = 3 * l.length + 1 ∨ j = 3 * l.length + 2) with e | e | e <;> subst e
      · rw [show 3 * l.length / 3 - l.length = 0 by omega, show 3 * l.length % 3 = 0 by omega, show 3 * l.length - 3 * l.length = 0 by omega]; rfl
      · rw [show (3 * l.length + 1) / 3 - l.length = 0 by omega, show (3 * l.length + 1) % 3 = 1 by omega, show 3 * l.length + 1 - 3 * l.length = 1 by omega]; rfl
      · rw [show (3 * l.length + 2) / 3 - l.length = 0 by omega, show (3 * l.length + 2) % 3 = 2 by omega, show 3 * l.length + 2 - 3 * l.length = 2 by omega]; rfl
  all_goals
    refine ⟨by simp [Arr.size], fun j hj => ?_⟩
    simp only [Arr.get, nth, AX, Ti, Fh, JN, Arr.size, Gd]
    split <;> (rename_i h; simp only [h, if_true, if_false])
def Arr.relAt(ι:Emb)(x:Arr)(cs:Array Value)(off:Nat):Prop:= ∀i,i<x.size→ ∃v,cs[off+i]?=some v∧(x.get i).rel ι v
def AV.rel0(ι:Emb):AV→Value→Prop
 |.c x,v=>x.rel ι v
 |.agg x,v=> ∃cs,v= .agg cs∧cs.size=x.size∧x.relAt ι cs 0
 |.tup _,_=>False
def AV.rel(ι:Emb):AV→Value→Prop
 |.tup l,v=> ∃vs:Array Value,v= .tuple vs∧vs.size=l.length∧ ∀(i:Nat) (x:AV) (u:Value),l[i]?=some x→vs[i]?=some u→x.rel0 ι u
 |x,v=>x.rel0 ι v
structure Emb.le(ι ι':Emb):Prop where
 f:∀b l,ι b=some l→ι' b=some l
 tx:∀c o v,ι.tx c o v→ι'.tx c o v
theorem Cell.rel_mono{ι ι':Emb}(h:ι.le ι'){x:Cell}{v:Value}(hr:x.rel ι v):x.rel ι' v:=by
 cases x with
 |ptr b o=>obtain ⟨l,hl,rfl⟩:=hr;exact ⟨l,h.f _ _ hl,rfl⟩
 |sl b o len cap sz=>
  obtain ⟨p,c,rfl,h1,h2,h3⟩:=hr
  refine ⟨p,c,rfl,h1,h2,h3.imp id ?_⟩
  rintro ⟨l,hl,r⟩
  exact ⟨l,h.f _ _ hl,r⟩
 |bs x=>exact Co.mono h.tx hr
 |is x=>exact Co.mono h.tx hr
 |qb x k=>obtain ⟨c,o,rfl,r⟩:=hr;exact ⟨c,o,rfl,fun i hi=>h.tx _ _ _ (r i hi)⟩
 |qi x k=>obtain ⟨c,o,rfl,r⟩:=hr;exact ⟨c,o,rfl,fun i hi=>h.tx _ _ _ (r i hi)⟩
 |mp b=>obtain ⟨l,hl,rfl⟩:=hr;exact ⟨l,h.f _ _ hl,rfl⟩
 |xs b n=>obtain ⟨l,hl,rfl⟩:=hr;exact ⟨l,h.f _ _ hl,rfl⟩
 |lb x=>exact ⟨Co.mono h.tx hr.1,hr.2⟩
 |_=>exact hr
theorem Arr.relAt_mono{ι ι':Emb}(h:ι.le ι'){x:Arr}{cs:Array Value}{off:Nat}(hr:x.relAt ι cs off):x.relAt ι' cs off:=fun i hi=>by
 obtain ⟨v,h1,h2⟩:=hr i hi
 exact ⟨v,h1,Cell.rel_mono h h2⟩
theorem Arr.relAt.mono'{ι ι':Emb}{x:Arr}{cs:Array Value}{off:Nat}(hr:x.relAt ι cs off)(h:ι.le ι'):x.relAt ι' cs off:=Arr.relAt_mono h hr
theorem AV.rel0_mono{ι ι':Emb}(h:ι.le ι'){x:AV}{v:Value}(hr:x.rel0 ι v):x.rel0 ι' v:=by
 cases x with
 |c x=>exact Cell.rel_mono h hr
 |agg x=>obtain ⟨cs,rfl,h1,h2⟩:=hr;exact ⟨cs,rfl,h1,Arr.relAt_mono h h2⟩
 |tup l=>exact hr.elim
theorem AV.rel_mono{ι ι':Emb}(h:ι.le ι'){x:AV}{v:Value}(hr:x.rel ι v):x.rel ι' v:=by
 cases x with
 |c x=>exact Cell.rel_mono (x:=x) h hr
 |agg x=>exact AV.rel0_mono (x:= .agg x) h hr
 |tup l=>
  obtain ⟨vs,rfl,h1,h2⟩:=hr
  exact ⟨vs,rfl,h1,fun i x u hx hu=>AV.rel0_mono h (h2 i x u hx hu)⟩
theorem AV.rel_of0{ι:Emb}{x:AV}{v:Value}(h:x.rel0 ι v):x.rel ι v:=by
 cases x with
 |tup l=>exact h.elim
 |_=>exact h
def IOq(ι:Emb)(es:List (Value×C6))(ents:Array MapEntry):Prop:=ents.size=es.length∧ ∀(i:Nat) (p:Value×C6),es[i]?=some p→ ∃e,ents[i]?=some e∧e.key=p.1∧p.2.cell.rel ι e.val
theorem IOq.mono{ι ι':Emb}{es:List (Value×C6)}{ents:Array MapEntry}(h:IOq ι es ents)(hl:ι.le ι'):IOq ι' es ents:=⟨h.1,fun i p hp=>by
 obtain ⟨e,h1,h2,h3⟩:=h.2 i p hp
 exact ⟨e,h1,h2,Cell.rel_mono hl h3⟩⟩
def Holds(ι:Emb)(w:World)(own:Bool)(x:Arr)(l:Loc):Prop:=
 match x with
 |.mp es=> ∃ents clock,w.heap[l.c]?=some (.map ents clock)∧IOq ι es ents
 |x=> ∃cs t fr,w.heap[l.c]?=some (.cells cs t fr)∧x.size≤l.n∧x.relAt ι cs l.off∧(own=true→fr=(0,0)∧cs.size=l.off+l.n)
theorem Holds.cells{ι:Emb}{w:World}{own:Bool}{x:Arr}{l:Loc}(h:Holds ι w own x l)(hx:x.isMap=false):∃cs t fr,w.heap[l.c]?=some (.cells cs t fr)∧x.size≤l.n∧x.relAt ι cs l.off∧(own=true→fr=(0,0)∧cs.size=l.off+l.n):=by
 cases x<;>(first | exact h | cases hx)
theorem Holds.of{ι:Emb}{w:World}{own:Bool}{x:Arr}{l:Loc}(hx:x.isMap=false)(h:∃cs t fr,w.heap[l.c]?=some (.cells cs t fr)∧x.size≤l.n∧x.relAt ι cs l.off∧(own=true→fr=(0,0)∧cs.size=l.off+l.n)):Holds ι w own x l:=by
 cases x<;>(first | exact h | cases hx)
theorem Holds.heap{ι ι':Emb}{w w':World}{own:Bool}{x:Arr}{l:Loc}(h:Holds ι w own x l)(he:w'.heap[l.c]?=w.heap[l.c]?)(hl:ι.le ι'):Holds ι' w' own x l:=by
 cases x<;>first
  |(obtain ⟨cs,t,fr,h1,h2,h3,h4⟩:=h;exact ⟨cs,t,fr,he.trans h1,h2,Arr.relAt_mono hl h3,h4⟩)
  |(obtain ⟨es,c,h1,h2⟩:=h;exact ⟨es,c,he.trans h1,h2.mono hl⟩)
theorem Holds.mono{ι ι':Emb}{w:World}{own:Bool}{x:Arr}{l:Loc}(h:Holds ι w own x l)(hl:ι.le ι'):Holds ι' w own x l:=h.heap rfl hl
theorem Holds.ro{ι:Emb}{w:World}{own:Bool}{x:Arr}{l:Loc}(h:Holds ι w own x l):Holds ι w false x l:=by
 cases x<;>first
  |(obtain ⟨cs,t,fr,h1,h2,h3,h4⟩:=h;exact ⟨cs,t,fr,h1,h2,h3,fun h=>by cases h⟩)
  |exact h
theorem Holds.lt{ι:Emb}{w:World}{own:Bool}{x:Arr}{l:Loc}(h:Holds ι w own x l):l.c<w.heap.size:=by
 cases x<;>first
  |(obtain ⟨cs,t,fr,h1,_⟩:=h;exact (Array.getElem?_eq_some_iff.1 h1).1)
  |(obtain ⟨es,c,h1,_⟩:=h;exact (Array.getElem?_eq_some_iff.1 h1).1)
theorem Emb.le.refl(ι:Emb):ι.le ι:=⟨fun _ _ h=>h,fun _ _ _ h=>h⟩
inductive Il (ι:Emb):Nat→(Obj→Prop)→Prop
 |tx {c o:Nat} {v:Value} (h:ι.tx c o v):Il ι c (fun ob=> ∃cs t fr,ob= .cells cs t fr∧cs[o]?=some v)
 |base {c:Nat} {Φ:Obj→Prop} (h:Uj c=some Φ):Il ι c Φ
theorem Il.mono{ι ι':Emb}(h:∀c o v,ι.tx c o v→ι'.tx c o v){c:Nat}{Φ:Obj→Prop}(hs:Il ι c Φ):Il ι' c Φ:=by
 cases hs with
 |tx k=>exact .tx (h _ _ _ k)
 |base k=>exact .base k
theorem Il.cast{ι ι':Emb}(h:ι.tx=ι'.tx){c:Nat}{Φ:Obj→Prop}(hs:Il ι c Φ):Il ι' c Φ:=hs.mono fun c o v k=>by rw [←h];exact k
theorem Il.to{ι:Emb}{c:Nat}{Φ:Obj→Prop}(hs:Il ι c Φ)(ι':Emb)(h:ι.tx=ι'.tx:=by rfl):Il ι' c Φ:=hs.cast h
structure R(ι:Emb)(M:Ak)(w:World):Prop where
 dom:∀b,M.length≤b→ι b=none
 rows:∀b l own x,ι b=some l→M[b]?=some (.row own x)→Holds ι w own x l
 inj:∀b b' l l' own own' x x',b≠b'→ι b=some l→ι b'=some l'→M[b]?=some (.row own x)→M[b']?=some (.row own' x')→(own=true∨own'=true)→l.c≠l'.c
 stay:∀c Φ,Il ι c Φ→(∃ob,w.heap[c]?=some ob∧Φ ob)∧ ∀b l x,ι b=some l→M[b]?=some (.row true x)→l.c≠c
theorem R.txt{ι:Emb}{M:Ak}{w:World}(h:R ι M w)(c o:Nat)(v:Value)(hc:ι.tx c o v):(∃cs t fr,w.heap[c]?=some (.cells cs t fr)∧cs[o]?=some v)∧ ∀b l x,ι b=some l→M[b]?=some (.row true x)→l.c≠c:=by
 obtain ⟨⟨_,h1,cs,t,fr,rfl,h2⟩,h3⟩:=h.stay c _ (.tx hc)
 exact ⟨⟨cs,t,fr,h1,h2⟩,h3⟩
theorem R.cells{ι:Emb}{M:Ak}{w:World}(h:R ι M w){b:Nat}{l:Loc}{own:Bool}{x:Arr}(hb:ι b=some l)(hm:M[b]?=some (.row own x))(hx:x.isMap=false):∃cs t fr,w.heap[l.c]?=some (.cells cs t fr)∧x.size≤l.n∧x.relAt ι cs l.off∧(own=true→fr=(0,0)∧cs.size=l.off+l.n):=(h.rows b l own x hb hm).cells hx
def C5(ι:Emb)(M:Ak)(c:Nat):Prop:= ∃b l x,ι b=some l∧M[b]?=some (.row true x)∧l.c=c
structure R6(ι:Emb)(M:Ak)(w:World)(ι':Emb)(M':Ak)(w':World):Prop where
 os:w'.os=w.os
 tape:w'.tape=w.tape
 output:w'.output=w.output
 size:w.heap.size≤w'.heap.size
 keep:∀c,c<w.heap.size→ ¬C5 ι M c→w'.heap[c]?=w.heap[c]?
 fresh:∀c,C5 ι' M' c→w.heap.size≤c∨C5 ι M c
theorem R6.refl(ι:Emb)(M:Ak)(w:World):R6 ι M w ι M w:=⟨rfl,rfl,rfl,Nat.le_refl _,fun _ _ _=>rfl,fun _ h=> .inr h⟩
theorem R6.trans{ι ι1 ι2:Emb}{M M1 M2:Ak}{w w1 w2:World}(h:R6 ι M w ι1 M1 w1)(k:R6 ι1 M1 w1 ι2 M2 w2):R6 ι M w ι2 M2 w2:=by
 refine ⟨k.os.trans h.os,k.tape.trans h.tape,k.output.trans h.output,Nat.le_trans h.size k.size,fun c hc hn=>?_,fun c ho=>?_⟩
 ·rw [k.keep c (Nat.lt_of_lt_of_le hc h.size) (fun ho=>?_),h.keep c hc hn]
  rcases h.fresh c ho with h1 | h1
  ·omega
  ·exact hn h1
 ·rcases k.fresh c ho with h1 | h1
  ·exact .inl (Nat.le_trans h.size h1)
  ·exact h.fresh c h1
theorem Jn{ι ι':Emb}{M M':Ak}{w w':World}(h:R ι M w)(hk:∀c,c<w.heap.size→ ¬C5 ι M c→w'.heap[c]?=w.heap[c]?)(hf:∀c,C5 ι' M' c→w.heap.size≤c∨C5 ι M c)(c:Nat)(Φ:Obj→Prop)(hc:Il ι c Φ):
  (∃ob,w'.heap[c]?=some ob∧Φ ob)∧ ∀b l x,ι' b=some l→M'[b]?=some (.row true x)→l.c≠c:=by
 obtain ⟨⟨ob,h1,h2⟩,h4⟩:=h.stay c Φ hc
 have h3:¬C5 ι M c:=fun ⟨b,l,x,hb,hm,e⟩=>h4 b l x hb hm e
 have hlt:c<w.heap.size:=(Array.getElem?_eq_some_iff.1 h1).1
 refine ⟨⟨ob,by rw [hk c hlt h3];exact h1,h2⟩,fun b l x hb hm e=>?_⟩
 rcases hf c ⟨b,l,x,hb,hm,e⟩ with h4 | h4
 ·omega
 ·exact h3 h4
theorem R.lt{ι:Emb}{M:Ak}{w:World}(h:R ι M w){b:Nat}{l:Loc}{own:Bool}{x:Arr}(hb:ι b=some l)(hm:M[b]?=some (.row own x)):l.c<w.heap.size:=by
 exact (h.rows b l own x hb hm).lt
theorem R.size{ι:Emb}{M:Ak}{w:World}(h:R ι M w){b:Nat}{l:Loc}{own:Bool}{x:Arr}(hb:ι b=some l)(hm:M[b]?=some (.row own x)):x.size≤l.n:=by
 by_cases hx:x.isMap=false
 ·obtain ⟨cs,t,fr,_,hh,_⟩:=h.cells hb hm hx
  exact hh
 ·cases x<;>(first | (exact absurd rfl hx) | exact Nat.zero_le _)
structure Step(k:Nat)(ι:Emb)(M:Ak)(w:World)(ι':Emb)(M':Ak)(w':World):Prop where
 r:R ι' M' w'
 trans:R6 ι M w ι' M' w'
 tx:∀c o v,ι.tx c o v→ι'.tx c o v
 txn:∀c o v,ι'.tx c o v→ι.tx c o v∨w.heap.size≤c∨C5 ι M c
 ext:∀b,b<k→ι' b=ι b
 len:k≤M'.length
 ro:∀b x,b<k→M[b]?=some (.row false x)→M'[b]?=some (.row false x)
 old:∀b own x,b<k→M'[b]?=some (.row own x)→ ∃x0,M[b]?=some (.row own x0)
 news:∀b l own x,k≤b→ι' b=some l→M'[b]?=some (.row own x)→w.heap.size≤l.c∨C5 ι M l.c∨ ∃b0 l0 o0 x0,k≤b0∧ι b0=some l0∧M[b0]?=some (.row o0 x0)∧l0.c=l.c
theorem Step.make{k:Nat}{ι ι':Emb}{M M':Ak}{w w':World}(h:R ι M w)(dom:∀b,M'.length≤b→ι' b=none)(rows:∀b l own x,ι' b=some l→M'[b]?=some (.row own x)→Holds ι' w' own x l)
  (inj:∀b b' l l' own own' x x',b≠b'→ι' b=some l→ι' b'=some l'→M'[b]?=some (.row own x)→M'[b']?=some (.row own' x')→(own=true∨own'=true)→l.c≠l'.c) (trans:R6 ι M w ι' M' w') (tx:ι'.tx=ι.tx)
  (ext:∀b,b<k→ι' b=ι b) (len:k≤M'.length) (ro:∀b x,b<k→M[b]?=some (.row false x)→M'[b]?=some (.row false x)) (old:∀b own x,b<k→M'[b]?=some (.row own x)→ ∃x0,M[b]?=some (.row own x0))
  (news:∀b l own x,k≤b→ι' b=some l→M'[b]?=some (.row own x)→w.heap.size≤l.c∨C5 ι M l.c∨ ∃b0 l0 o0 x0,k≤b0∧ι b0=some l0∧M[b0]?=some (.row o0 x0)∧l0.c=l.c):Step k ι M w ι' M' w':=
 ⟨⟨dom,rows,inj,fun c Φ hc=>Jn h trans.keep trans.fresh c Φ (hc.cast tx)⟩,trans,fun c o v hc=>by rw [tx];exact hc,fun c o v hc=> .inl (by rw [←tx];exact hc),ext,len,ro,old,news⟩
theorem Step.stayn{k:Nat}{ι ι':Emb}{M M':Ak}{w w':World}(h:Step k ι M w ι' M' w'){c:Nat}{Φ:Obj→Prop}(hc:Il ι' c Φ):Il ι c Φ∨w.heap.size≤c∨C5 ι M c:=by
 cases hc with
 |tx k=>exact (h.txn _ _ _ k).imp .tx id
 |base k=>exact .inl (.base k)
theorem Step.refl{k:Nat}{ι:Emb}{M:Ak}{w:World}(h:R ι M w)(hk:k≤M.length):Step k ι M w ι M w:=
 ⟨h,R6.refl _ _ _,fun _ _ _ h=>h,fun _ _ _ h=> .inl h,fun _ _=>rfl,hk,fun _ _ _ h=>h,fun _ _ x _ h=>⟨x,h⟩,fun b l own x hb h1 h2=> .inr (.inr ⟨b,l,own,x,hb,h1,h2,rfl⟩)⟩
theorem Step.comp{k:Nat}{ι ι1 ι2:Emb}{M M1 M2:Ak}{w w1 w2:World}(h:Step k ι M w ι1 M1 w1)(g:Step k ι1 M1 w1 ι2 M2 w2):Step k ι M w ι2 M2 w2:=by
 refine ⟨g.r,h.trans.trans g.trans,fun c o v hc=>g.tx c o v (h.tx c o v hc),fun c o v hc=>?_,fun b hb=>(g.ext b hb).trans (h.ext b hb),g.len,fun b x hb hm=>g.ro b x hb (h.ro b x hb hm),fun b own x hb hm=>?_,fun b l own x hb h1 h2=>?_⟩
 ·rcases g.txn c o v hc with h1 | h1 | h1
  ·exact h.txn c o v h1
  ·exact .inr (.inl (Nat.le_trans h.trans.size h1))
  ·rcases h.trans.fresh c h1 with h2 | h2
   ·exact .inr (.inl h2)
   ·exact .inr (.inr h2)
 ·obtain ⟨x1,hx1⟩:=g.old b own x hb hm
  exact h.old b own x1 hb hx1
 ·rcases g.news b l own x hb h1 h2 with h3 | h3 | ⟨b0,l0,o0,x0,hb0,h4,h5,h6⟩
  ·exact .inl (Nat.le_trans h.trans.size h3)
  ·rcases h.trans.fresh _ h3 with h4 | h4
   ·exact .inl h4
   ·exact .inr (.inl h4)
  ·rw [←h6]
   exact h.news b0 l0 o0 x0 hb0 h4 h5
theorem Step.low{k k':Nat}{ι ι1:Emb}{M M1:Ak}{w w1:World}(h:Step k ι M w ι1 M1 w1)(hk:k'≤k):Step k' ι M w ι1 M1 w1:=by
 refine ⟨h.r,h.trans,h.tx,h.txn,fun b hb=>h.ext b (Nat.lt_of_lt_of_le hb hk),Nat.le_trans hk h.len,fun b x hb hm=>h.ro b x (Nat.lt_of_lt_of_le hb hk) hm,fun b own x hb hm=>h.old b own x (Nat.lt_of_lt_of_le hb hk) hm,fun b l own x hb h1 h2=>?_⟩
 by_cases hbk:b<k
 ·obtain ⟨x0,hx0⟩:=h.old b own x hbk h2
  exact .inr (.inr ⟨b,l,own,x0,hb,by rw [←h.ext b hbk];exact h1,hx0,rfl⟩)
 ·rcases h.news b l own x O_ h1 h2 with h3 | h3 | ⟨b0,l0,o0,x0,hb0,r⟩
  ·exact .inl h3
  ·exact .inr (.inl h3)
  ·exact .inr (.inr ⟨b0,l0,o0,x0,Nat.le_trans hk hb0,r⟩)
theorem H9{M:Ak}{b:Nat}{own:Bool}{x:Arr}(hb:M.length≤b)(h:M[b]?=some (.row own x)):False:=by
 rw [List.getElem?_eq_none hb] at h;cases h
theorem Step.le{ι ι1:Emb}{M M1:Ak}{w w1:World}(h:Step M.length ι M w ι1 M1 w1)(hr:R ι M w):ι.le ι1:=by
 refine ⟨fun b l hb=>?_,h.tx⟩
 by_cases hk:b<M.length
 ·rw [h.ext b hk];exact hb
 ·rw [hr.dom b O_] at hb;cases hb
def Ue{α:Type}(f:Value→Option α):List Value→Option (List α)
 |[]=>some []
 |v::l=>match f v,Ue f l with | some x,some m=>some (x::m) | _,_=>none
theorem L7{α:Type}{f:Value→Option α}:∀ {l:List Value} {m:List α},Ue f l=some m→l.length=m.length∧ ∀(i:Nat) (v:Value),l[i]?=some v→ ∃x,m[i]?=some x∧f v=some x
 |[],m,h=>by simp only [Ue,Option.some.injEq] at h;subst h;exact ⟨rfl,fun i v h=>by simp at h⟩
 |u::l,m,h=>by
  unfold Ue at h
  split at h
  ·rename_i x m' hx hm
   cases h
   obtain ⟨h1,h2⟩:=L7 hm
   refine ⟨by simp [h1],fun i v hv=>?_⟩
   cases i with
   |zero=>simp at hv;subst hv;exact ⟨x,by simp,hx⟩
   |succ i=>simpa using h2 i v (by simpa using hv)
  ·cases h
def SB:Value→Cell
 |.slice none 0 0=> .nsl
 |v=> .val v
theorem UT(ι:Emb)(v:Value):(SB v).rel ι v:=by
 unfold SB;split<;>simp [Cell.rel]
def B5(vs:List Value):Arr:=
 match Ue w8? vs with
 |some l=> .a8 l
 |none=>match Ue pJ vs with
  |some l=> .a32 l
  |none=>match Ue ci vs with
   |some l=> .a64 l
   |none=>match Ue i? vs with
    |some l=> .ai l
    |none=> .ac (vs.map SB)
theorem D4(ι:Emb)(vs:List Value):(B5 vs).size=vs.length∧ ∀(i:Nat) (v:Value),vs[i]?=some v→((B5 vs).get i).rel ι v:=by
 unfold B5
 split
 ·rename_i l h
  obtain ⟨h1,h2⟩:=L7 h
  refine ⟨h1.symm,fun i v hv=>?_⟩
  obtain ⟨x,hx,hf⟩:=h2 i v hv
  simp [Arr.get,Cell.rel,nth,hx,dI hf]
 ·split
  ·rename_i l h
   obtain ⟨h1,h2⟩:=L7 h
   refine ⟨h1.symm,fun i v hv=>?_⟩
   obtain ⟨x,hx,hf⟩:=h2 i v hv
   simp [Arr.get,Cell.rel,nth,hx,Xn hf]
  ·split
   ·rename_i l h
    obtain ⟨h1,h2⟩:=L7 h
    refine ⟨h1.symm,fun i v hv=>?_⟩
    obtain ⟨x,hx,hf⟩:=h2 i v hv
    simp [Arr.get,Cell.rel,nth,hx,MD hf]
   ·split
    ·rename_i l h
     obtain ⟨h1,h2⟩:=L7 h
     refine ⟨h1.symm,fun i v hv=>?_⟩
     obtain ⟨x,hx,hf⟩:=h2 i v hv
     simp [Arr.get,Cell.rel,AX,hx,iP hf]
    ·refine ⟨by simp [Arr.size],fun i v hv=>?_⟩
     simp only [Arr.get,Ti,List.getD_eq_getElem?_getD,List.getElem?_map,hv,Option.map_some,Option.getD_some]
     exact UT ι v
theorem Ji(ι:Emb)(cs:Array Value):(B5 cs.toList).relAt ι cs 0:=fun i hi=>by
 have hi':i<cs.size:=by rw [(D4 ι cs.toList).1] at hi;simpa using hi
 exact ⟨cs[i],by simp [hi'],(D4 ι cs.toList).2 i _ (by simp [hi'])⟩
def xf:Value→AV
 |.slice none 0 0=> .c .nsl
 |.agg cs=> .agg (B5 cs.toList)
 |v=> .c (.val v)
theorem Ox(ι:Emb)(v:Value):(xf v).rel0 ι v:=by
 unfold xf;split
 ·rfl
 ·rename_i cs
  exact ⟨cs,rfl,by rw [(D4 ι cs.toList).1];simp,Ji ι cs⟩
 ·rfl
def AC(t:Nat→AV):Operand→AV
 |.tmp i=>t i
 |.const v=>xf v
 |.global _=> .c .any
 |.func f=> .c (.val (.func (.func f) #[] #[]))
def BC(P:Program)(t:TypeId):Option Bool:=
 match P.underlying t with
 |some (.array ..) | some (.struct ..)=>some true
 |some _=>some false
 |none=>none
def De(P:Program)(t:TypeId):Option Nat:=(P.info? t).map (·.size)
theorem P4{P:Program}{t:TypeId}{b:Bool}(h:BC P t=some b)(w:World):(isAgg t).run P w= .ok b w:=by
 unfold BC at h
 cases hu:P.underlying t with
 |none=>rw [hu] at h;cases h
 |some d=>
  rw [hu] at h
  simp only [isAgg,Sem.run_bind,run_underlying hu,Result.andThen_ok]
  cases d<;>simp_all
theorem CG{P:Program}{t:TypeId}{n:Nat}(h:De P t=some n)(w:World):(sizeOf t).run P w= .ok n w:=by
 unfold De at h
 obtain ⟨i,hi,rfl⟩:=Option.map_eq_some_iff.1 h
 simp only [sizeOf,typeInfo,Sem.run_bind,run_program,Result.andThen_ok,hi,Sem.run_pure]
theorem Fk(b o j:Nat):(⟨b,o,none⟩:Addr).add j=⟨b,o+j,none⟩:=Addr.add_mid b o j
def Ft(y:Arr)(o n:Nat):Arr:=if o=0∧n=y.size then y else y.win o n
theorem IC{y:Arr}{o n:Nat}(h:o+n≤y.size):(Ft y o n).size=n:=by
 unfold Ft;split
 ·rename_i h;exact h.2.symm
 ·rw [Arr.win_size];omega
theorem PQ{y:Arr}{o n i:Nat}(hi:i<n)(hs:o+n≤y.size):(Ft y o n).get i=y.get (o+i):=by
 unfold Ft;split
 ·rename_i h;rw [h.1,Nat.zero_add]
 ·exact Arr.win_get' y o n i hi O_
def FK(P:Program)(t:TypeId)(y:Arr)(o:Nat):Option AV:=
 match BC P t with
 |some true=>match De P t with
  |some n=>if 0<n∧o+n≤y.size then some (.agg (Ft y o n)) else none
  |none=>none
 |some false=>if o<y.size then some (.c (y.get o)) else none
 |none=>none
theorem YL{P:Program}{t:TypeId}{y:Arr}{o:Nat}{v:AV}(h:FK P t y o=some v):0<y.size:=by
 unfold FK at h
 split at h
 ·split at h
  ·split at h
   ·omega
   ·cases h
  ·cases h
 ·split at h
  ·omega
  ·cases h
 ·cases h
theorem UR{P:Program}{t:TypeId}{y:Arr}{o:Nat}{v:AV}(h:FK P t y o=some v):y.isMap=false:=by
 unfold FK at h
 split at h
 ·split at h
  ·split at h
   ·exact Arr.noMap O_
   ·cases h
  ·cases h
 ·split at h
  ·exact Arr.noMap O_
  ·cases h
 ·cases h
theorem WL{P:Program}{t:TypeId}{y:Arr}{o:Nat}{v:AV}(h:FK P t y o=some v){ι:Emb}{cs:Array Value}{off:Nat}(hr:y.relAt ι cs off):
  (BC P t=some true∧ ∃n,De P t=some n∧off+o+n≤cs.size∧v.rel0 ι (.agg (cs.extract (off+o) (off+o+n))))∨(BC P t=some false∧ ∃u,cs[off+o]?=some u∧v.rel0 ι u):=by
 unfold FK at h
 split at h
 ·rename_i hrow
  split at h
  ·rename_i n hn
   split at h
   ·rename_i hle
    cases h
    have hsz:off+o+n≤cs.size:=by
     obtain ⟨u,hu,_⟩:=hr (o+n-1) O_
     have:=(Array.getElem?_eq_some_iff.1 hu).1
     omega
    refine .inl ⟨hrow,n,hn,hsz,_,rfl,?_,fun i hi=>?_⟩
    ·rw [IC hle.2];simp;omega
    ·rw [IC hle.2] at hi
     obtain ⟨u,hu,hru⟩:=hr (o+i) O_
     refine ⟨u,?_,by rw [PQ hi hle.2];exact hru⟩
     rw [Nat.zero_add,Array.getElem?_extract,if_pos O_,←hu,Nat.add_assoc]
   ·cases h
  ·cases h
 ·rename_i hrow
  split at h
  ·rename_i hlt
   cases h
   obtain ⟨u,hu,hru⟩:=hr o hlt
   exact .inr ⟨hrow,u,hu,hru⟩
  ·cases h
 ·cases h
theorem cT{P:Program}{t:TypeId}{y:Arr}{o:Nat}{v:AV}(h:FK P t y o=some v){ι:Emb}{cs:Array Value}(hr:y.relAt ι cs 0)(w:World):
  ∃u,(part t cs o).run P w= .ok u w∧v.rel0 ι u:=by
 rcases WL h hr with ⟨hrow,n,hn,_,hv⟩ | ⟨hrow,u,hu,hv⟩
 ·refine ⟨_,?_,hv⟩
  simp only [part,Sem.run_bind,P4 hrow,Result.andThen_ok,if_true,CG hn,Sem.run_pure,Nat.zero_add]
 ·refine ⟨u,?_,hv⟩
  rw [Nat.zero_add] at hu
  simp [part,P4 hrow,hu]
theorem cell_of{w:World}{c:Nat}{cs:Array Value}{t:TypeId}{fr:Nat×Nat}(h:w.heap[c]?=some (.cells cs t fr))(i:Nat):w.cell? ⟨c,i,none⟩=cs[i]?:=by
 simp [World.cell?,h]
theorem JW{P:Program}{t:TypeId}{y:Arr}{o:Nat}{v:AV}(h:FK P t y o=some v){ι:Emb}{w:World}{c:Nat}{cs:Array Value}{t':TypeId}{fr:Nat×Nat}{off:Nat}
  (hc:w.heap[c]?=some (.cells cs t' fr)) (hr:y.relAt ι cs off):∃u,(loadVar t ⟨c,off+o,none⟩).run P w= .ok u w∧v.rel0 ι u:=by
 rcases WL h hr with ⟨hrow,n,hn,hle,hv⟩ | ⟨hrow,u,hu,hv⟩
 ·refine ⟨_,?_,hv⟩
  have hl:=run_loadCells_list (P:=P) w ⟨c,off+o,none⟩ (cs.extract (off+o) (off+o+n)).toList (by
   intro j x hx
   rw [Fk,cell_of hc]
   rw [Array.getElem?_toList,Array.getElem?_extract] at hx
   split at hx
   ·exact hx
   ·cases hx)
  have e:(cs.extract (off+o) (off+o+n)).toList.length=n:=by simp;omega
  rw [e] at hl
  simp only [loadVar,Sem.run_bind,P4 hrow,Result.andThen_ok,if_true,CG hn,hl,Sem.run_pure]
 ·refine ⟨u,?_,hv⟩
  have:w.cell? ⟨c,off+o,none⟩=some u:=by rw [cell_of hc];exact hu
  simp [loadVar,P4 hrow,load,Sem.run,this]
def Arr.alike:Arr→Arr→Option Bool
 |.a8 l,.a8 m=>some (decide (l=m))
 |.a32 l,.a32 m=>some (decide (l=m))
 |.a64 l,.a64 m=>some (decide (l=m))
 |.ai l,.ai m=>some (decide (l=m))
 |_,_=>none
def cy(P:Program)(t:TypeId)(x y:Arr):Option Bool:=
 match P.underlying t with
 |some (.array n e)=>match P.underlying e,P.info? e with
  |some (.int _),some _=>if P.cellsOf e=1∧P.eqGuardType P.depth t=false∧x.size=n∧y.size=n then x.alike y else none
  |_,_=>none
 |_=>none
theorem Xe{P:Program}(w:World)(d:Nat){e:TypeId}{k:IntKind}(he:P.underlying e=some (.int k))(h1:P.cellsOf e=1)(xs ys:Array Value){q:IntKind}(f g:Nat→Int)(n:Nat)
  (hx:∀i,i<n→xs[i]?=some (.int q (f i))) (hy:∀i,i<n→ys[i]?=some (.int q (g i))):∀is:List Nat,(∀i∈is,i<n)→
  (Op.eqItems (d+1) e (P.cellsOf e) xs ys is).run P w= .ok (is.all fun i=>f i==g i) w
 |[],_=>by simp [Op.eqItems]
 |i::is,hi=>by
  have ha:=hx i (hi i (by simp))
  have hb:=hy i (hi i (by simp))
  have pk:P.plainKey e=true:=by simp [Program.plainKey,he]
  have pa:=run_part_plain (P:=P) w pk (xs:=xs) (off:=i*P.cellsOf e) (v:= .int q (f i)) (by rw [h1,Nat.mul_one];exact ha)
  have pb:=run_part_plain (P:=P) w pk (xs:=ys) (off:=i*P.cellsOf e) (v:= .int q (g i)) (by rw [h1,Nat.mul_one];exact hb)
  have pc:(Op.equalIn (d+1) e (.int q (f i)) (.int q (g i))).run P w= .ok (f i==g i) w:=by
   simp [Op.equalIn,run_underlying he]
  have ih:=Xe w d he h1 xs ys f g n hx hy is fun j hj=>hi j (by simp [hj])
  simp only [Op.eqItems,Sem.run_bind,pa,pb,pc,Result.andThen_ok,List.all_cons]
  cases hfg:(f i==g i)
  ·simp
  ·simpa using ih
theorem UZ{P:Program}(w:World){t e:TypeId}{n:Nat}{i:TypeInfo}{k:IntKind}(hu:P.underlying t=some (.array n e))(he:P.underlying e=some (.int k))(hi:P.info? e=some i)(h1:P.cellsOf e=1)
  (xs ys:Array Value) {q:IntKind} (f g:Nat→Int) (hx:∀i,i<n→xs[i]?=some (.int q (f i))) (hy:∀i,i<n→ys[i]?=some (.int q (g i))):
  (Op.equal t (.agg xs) (.agg ys)).run P w= .ok ((List.range n).all fun i=>f i==g i) w:=by
 unfold Op.equal Op.maxDepth
 rw [run_equalIn_array w 9999 xs ys hu hi]
 exact Xe w 9998 he h1 xs ys f g n hx hy _ fun i hi=>List.mem_range.1 hi
theorem QG{α:Type} [DecidableEq α] {l m:List α} {n:Nat} (hl:l.length=n) (hm:m.length=n) (f:Nat→Int) (g:Nat→Int) (h:∀i,i<n→(f i=g i↔l[i]?=m[i]?)):
  ((List.range n).all fun i=>f i==g i)=decide (l=m):=by
 rw [Bool.eq_iff_iff]
 simp only [List.all_eq_true,List.mem_range,beq_iff_eq,decide_eq_true_eq]
 constructor
 ·intro hh
  apply List.ext_getElem?
  intro i
  by_cases hi:i<n
  ·exact (h i hi).1 (hh i hi)
  ·rw [List.getElem?_eq_none O_,List.getElem?_eq_none O_]
 ·rintro rfl i hi
  exact (h i hi).2 rfl
theorem Tk{α:Type} [Inhabited α] {w:Nat} (l m:List (BitVec w)) {i:Nat} (hl:i<l.length) (hm:i<m.length):((nth l i).toNat:Int)=(nth m i).toNat↔l[i]?=m[i]?:=by
 rw [List.getElem?_eq_getElem hl,List.getElem?_eq_getElem hm]
 simp only [nth,List.getD_eq_getElem?_getD,List.getElem?_eq_getElem hl,List.getElem?_eq_getElem hm,Option.getD_some,Option.some.injEq]
 constructor
 ·intro h;exact BitVec.eq_of_toNat_eq (by exact_mod_cast h)
 ·intro h;rw [h]
theorem Xf{P:Program}{t:TypeId}{x y:Arr}{r:Bool}(h:cy P t x y=some r){ι:Emb}{xs ys:Array Value}(hx:x.relAt ι xs 0)(hy:y.relAt ι ys 0)(w:World):
  (Op.equal t (.agg xs) (.agg ys)).run P w= .ok r w∧P.eqGuardType P.depth t=false:=by
 unfold cy at h
 split at h
 ·rename_i n e hu
  split at h
  ·rename_i k i he hi
   split at h
   ·rename_i hc
    obtain ⟨h1,hg,sx,sy⟩:=hc
    refine ⟨?_,hg⟩
    have key:∀(q:IntKind) (f g:Nat→Int),(∀i,i<n→x.get i= .val (.int q (f i)))→(∀i,i<n→y.get i= .val (.int q (g i)))→
      (Op.equal t (.agg xs) (.agg ys)).run P w= .ok ((List.range n).all fun i=>f i==g i) w:=by
     intro q f g hf hg'
     refine UZ w hu he hi h1 xs ys f g (q:=q) ?_ ?_
     ·intro i hi
      obtain ⟨v,h2,h3⟩:=hx i O_
      rw [hf i hi] at h3
      rw [Nat.zero_add] at h2
      rw [h2];exact congrArg some h3
     ·intro i hi
      obtain ⟨v,h2,h3⟩:=hy i O_
      rw [hg' i hi] at h3
      rw [Nat.zero_add] at h2
      rw [h2];exact congrArg some h3
    unfold Arr.alike at h
    split at h
    ·cases h
     rename_i l m
     rw [key .u8 (fun i=>(nth l i).toNat) (fun i=>(nth m i).toNat) (fun i _=>rfl) (fun i _=>rfl)]
     rw [QG sx sy _ _ fun i hi=>Tk (α:=Nat) l m (by simp only [Arr.size] at sx;omega) (by simp only [Arr.size] at sy;omega)]
    ·cases h
     rename_i l m
     rw [key .u32 (fun i=>(nth l i).toNat) (fun i=>(nth m i).toNat) (fun i _=>rfl) (fun i _=>rfl)]
     rw [QG sx sy _ _ fun i hi=>Tk (α:=Nat) l m (by simp only [Arr.size] at sx;omega) (by simp only [Arr.size] at sy;omega)]
    ·cases h
     rename_i l m
     rw [key .u64 (fun i=>(nth l i).toNat) (fun i=>(nth m i).toNat) (fun i _=>rfl) (fun i _=>rfl)]
     rw [QG sx sy _ _ fun i hi=>Tk (α:=Nat) l m (by simp only [Arr.size] at sx;omega) (by simp only [Arr.size] at sy;omega)]
    ·cases h
     rename_i l m
     rw [key .i64 (fun i=>AX l i) (fun i=>AX m i) (fun i _=>rfl) (fun i _=>rfl)]
     rw [QG sx sy _ _ fun i hi=>by
      have a:i<l.length:=by simp only [Arr.size] at sx;omega
      have b:i<m.length:=by simp only [Arr.size] at sy;omega
      simp only [AX,List.getD_eq_getElem?_getD,List.getElem?_eq_getElem a,List.getElem?_eq_getElem b,Option.getD_some,Option.some.injEq]]
    ·cases h
   ·cases h
  ·cases h
 ·cases h
def Wx{α:Type}:Sem α→Option α
 |.pure a=>some a
 |_=>none
theorem WU{α:Type}{s:Sem α}{a:α}(h:Wx s=some a)(P:Program)(w:World):s.run P w= .ok a w:=by
 cases s<;>simp only [Wx] at h<;>cases h
 rfl
@[simp] theorem vT{α:Type}(a:α):Wx (Pure.pure a:Sem α)=some a:=rfl
def Fc:AV→Option Int
 |.c (.val (.int _ n))=>some n
 |_=>none
def bin(op:BinOp)(t:TypeId)(x y:Operand)(a b:Value):Sem Value:=do eqGuard op t x y a b;binOp op t a b
def Rm(P:Program)(t:TypeId):Bool:=match P.underlying t with | some .bool=>true | _=>false
def DV(P:Program)(t:TypeId):Bool:=match P.underlying t with | some (.slice _)=>true | _=>false
def ae:AV→Option Bool
 |.c .nsl=>some true
 |.c (.sl _ _ len _ _)=>if 0<len then some false else none
 |_=>none
def No(P:Program)(op:BinOp)(t:TypeId)(x y:Operand):AV→AV→Option AV
 |.c (.val a),.c (.val b)=>
  match op,a,b with
  |.eql,.bool p,.bool q=>if Rm P t then some (.c (.val (.bool (p==q)))) else none
  |.neq,.bool p,.bool q=>if Rm P t then some (.c (.val (.bool (!(p==q))))) else none
  |op,a,b=>(Wx (bin op t x y a b)).map fun v=> .c (.val v)
 |a,.c .nsl=>
  match op,DV P t,ae a with
  |.eql,true,some r=>some (.c (.val (.bool r)))
  |.neq,true,some r=>some (.c (.val (.bool (!r))))
  |_,_,_=>none
 |.agg a,.agg b=>
  match op,cy P t a b with
  |.eql,some r=>some (.c (.val (.bool r)))
  |.neq,some r=>some (.c (.val (.bool (!r))))
  |_,_=>none
 |_,_=>none
theorem Ny{P:Program}{t:TypeId}{e:TypeId}(hu:P.underlying t=some (.slice e))(p:Option Addr)(n c:Nat)(w:World):(Op.equal t (.slice p n c) (.slice none 0 0)).run P w= .ok p.isNone w:=by
 unfold Op.equal Op.maxDepth Op.equalIn
 simp only [Sem.run_bind,run_underlying hu,Result.andThen_ok]
 cases p<;>rfl
theorem run_equal_bool{P:Program}{t:TypeId}(hu:P.underlying t=some .bool)(p q:Bool)(w:World):(Op.equal t (.bool p) (.bool q)).run P w= .ok (p==q) w:=by
 unfold Op.equal Op.maxDepth Op.equalIn
 simp only [Sem.run_bind,run_underlying hu,Result.andThen_ok]
 rfl
theorem az {P : Program} {op : BinOp} {t : TypeId} {x y : Operand} {a b v : AV} (h : No P op t x y a b = some v) {ι : Emb} {p q : Value} (ha : a.rel ι p) (hb : b.rel ι q) (w : World) :
    ∃ u, (do eqGuard op t x y p q; binOp op t p q : Sem Value).run P w = .ok u w ∧ v.rel ι u := by
  unfold No at h
  split at h
  · rename_i a' b'
    obtain rfl : p = a' := ha
    obtain rfl : q = b' := hb
    split at h
    · rename_i hop
      split at h
      · rename_i hb'
        cases h
        unfold Rm at hb'
        split at hb'
        · rename_i hu
          refine ⟨_, ?_, rfl⟩
          (show (do pure (Value.bool (← Op.equal t (.bool _) (.bool _))) : Sem Value).run P w = _
           simp [run_equal_bool hu])
        · cases hb'
      · cases h
    · rename_i hop
      split at h
      · rename_i hb'
        cases h
        unfold Rm at hb'
        split at hb'
        · rename_i hu
          refine ⟨_, ?_, rfl⟩
          (show (do pure (Value.bool (!(← Op.equal t (.bool _) (.bool _)))) : Sem Value).run P w = _
           simp [run_equal_bool hu])
        · cases hb'
      · cases h
    · obtain ⟨u, hu, rfl⟩ := Option.map_eq_some_iff.1 h
      exact ⟨u, WU hu P w, rfl⟩
  · obtain rfl : q = .slice none 0 0 := hb
    have main : ∀ r, ae a = some r → ∃ pp n c, p = .slice pp n c ∧ pp.isNone = r := by
      intro r hr
      unfold ae at hr
      split at hr
      · cases hr; exact ⟨none, 0, 0, ha, rfl⟩
      · split at hr
        · rename_i b o len cap sz hlen
          cases hr
          obtain ⟨pp, c, rfl, h1, h2, h3⟩ := ha
          rcases h3 with h3 | ⟨l, _, rfl, _⟩
          · omega
          · exact ⟨_, _, _, rfl, rfl⟩
        · cases hr
      · cases hr
    split at h
    · rename_i r hs hn
      cases h
      obtain ⟨pp, n, c, rfl, rfl⟩ := main _ hn
      unfold DV at hs
      split at hs
      · rename_i e hu
        refine ⟨_, ?_, rfl⟩
        (show (do pure (Value.bool (← Op.equal t (.slice _ _ _) (.slice none 0 0))) : Sem Value).run P w = _
         simp [Ny hu])
      · cases hs
    · rename_i r hs hn
      cases h
      obtain ⟨pp, n, c, rfl, rfl⟩ := main _ hn
      unfold DV at hs
      split at hs
      · rename_i e hu
        refine ⟨_, ?_, rfl⟩
        (show (do pure (Value.bool (!(← Op.equal t (.slice _ _ _) (.slice none 0 0)))) : Sem Value).run P w = _
         simp [Ny hu])
      · cases hs
    · cases h
  · rename_i a' b'
    obtain ⟨xs, rfl, _, hx⟩ := ha
    obtain ⟨ys, rfl, _, hy⟩ := hb
    split at h
    · rename_i r hr
      cases h
      obtain ⟨h1, h2⟩ := Xf hr hx hy w
      refine ⟨_, ?_, rfl⟩
      rw [Sem.run_bind, run_eqGuard_agg w .eql t x y xs ys h2, Result.andThen_ok]
      show (do pure (Value.bool (← Op.equal t (.agg xs) (.agg ys))) : Sem Value).run P w = _
      simp [h1]
    · rename_i r hr
      cases h
      obtain ⟨h1, h2⟩ := Xf hr hx hy w
      refine ⟨_, ?_, rfl⟩
      rw [Sem.run_bind, run_eqGuard_agg w .neq t x y xs ys h2, Result.andThen_ok]
      show (do pure (Value.bool (!(← Op.equal t (.agg xs) (.agg ys)))) : Sem Value).run P w = _
      simp [h1]
    · cases h
  · cases h
def ap(P:Program)(s d:TypeId):AV→Option AV
 |.c (.val (.int _ n))=>match P.underlying s,P.underlying d with
  |some _,some (.int k)=>some (.c (.val (.int k (k.wrap n))))
  |_,_=>none
 |_=>none
def QO(d:Int):Option AV→Option Int
 |none=>some d
 |some a=>Fc a
def HP(P:Program)(M:Ak)(t:TypeId)(x:AV)(lo hi:Option AV):Option AV:=
 match x,P.underlying t with
 |.c (.ptr b o),some (.array n el)=>
  match De P el,QO 0 lo,QO n hi,M[b]? with
  |some sz,some l,some h,some (.row _ y)=>if 0≤l∧l≤h∧h≤n∧o+n*sz≤y.size then some (.c (.sl b (o+l.toNat*sz) (h-l).toNat (n-l.toNat) sz)) else none
  |_,_,_,_=>none
 |.c (.sl b o len cap sz),some (.slice el)=>
  match (QO 0 lo),(QO len hi) with
  |some l,some h=>if De P el=some sz∧0≤l∧l≤h∧h≤max len cap then some (.c (.sl b (o+l.toNat*sz) (h-l).toNat (cap-l.toNat) sz)) else none
  |_,_=>none
 |.c .nsl,some (.slice el)=>
  match (QO 0 lo),(QO 0 hi) with
  |some l,some h=>if (De P el).isSome∧l=0∧h=0 then some (.c .nsl) else none
  |_,_=>none
 |.c .esl,some (.slice el)=>
  match (QO 0 lo),(QO 0 hi) with
  |some l,some h=>if (De P el).isSome∧l=0∧h=0 then some (.c .esl) else none
  |_,_=>none
 |.c (.bs x),some (.slice el)=>
  match (QO 0 lo),(QO x.length hi) with
  |some l,some h=>if De P el=some 1∧0≤l∧l≤h∧h≤x.length then some (.c (.bs (cut x l.toNat (h-l).toNat))) else none
  |_,_=>none
 |.c (.is x),some (.slice el)=>
  match (QO 0 lo),(QO x.length hi) with
  |some l,some h=>if De P el=some 1∧0≤l∧l≤h∧h≤x.length then some (.c (.is (cut x l.toNat (h-l).toNat))) else none
  |_,_=>none
 |_,_=>none
theorem G8{a:AV}{n:Int}(h:Fc a=some n){ι:Emb}{v:Value}(hr:a.rel ι v):∃k,v= .int k n:=by
 unfold Fc at h;split at h
 ·cases h;exact ⟨_,hr⟩
 ·cases h
theorem run_sliceBound{P:Program}{w:World}(k:IntKind)(i:Int)(y:Nat)(c:BoundsCode)(h0:0≤i)(h1:i≤y):(Instr.sliceBound (.int k i) y c).run P w= .ok i.toNat w:=by
 simp [Instr.sliceBound,asIntOf,h0,h1]
theorem EL{P:Program}{w:World}(is:Bool)(len cap:Nat)(lo hi:Option Value)(l h:Nat)(hl:lo=none∧l=0∨ ∃k,lo=some (.int k l))(hh:hi=none∧h=len∨ ∃k,hi=some (.int k h))(h1:l≤h)(h2:h≤cap):
  (Instr.sliceBounds is len cap lo hi none).run P w= .ok (l,h,cap) w:=by
 rcases hl with ⟨rfl,rfl⟩ | ⟨k,rfl⟩<;>rcases hh with ⟨rfl,rfl⟩ | ⟨k',rfl⟩
 ·simp [Instr.sliceBounds]
 ·simp [Instr.sliceBounds,run_sliceBound k' h cap _ O_ O_]
 ·simp [Instr.sliceBounds,run_sliceBound k l h .sliceB O_ O_]
 ·simp [Instr.sliceBounds,run_sliceBound k' h cap _ O_ O_,run_sliceBound k l h .sliceB O_ O_]
def nm(ι:Emb):Option AV→Option Value→Prop
 |none,none=>True
 |some a,some v=>a.rel ι v
 |_,_=>False
theorem EK{ι:Emb}{a:Option AV}{v:Option Value}(hr:nm ι a v){d l:Int}(h:QO d a=some l):v=none∧l=d∨ ∃k,v=some (.int k l):=by
 cases a<;>cases v<;>simp only [nm] at hr
 ·simp only [QO,Option.some.injEq] at h;exact .inl ⟨rfl,h.symm⟩
 ·obtain ⟨k,rfl⟩:=G8 h hr
  exact .inr ⟨k,rfl⟩
theorem bc{ι:Emb}{g:Nat→Value}{n l h:Nat}{v:Value}(hv:Co ι g n v)(h1:l≤h)(h2:h≤n):∃p cap,v= .slice p n cap∧h≤cap∧Co ι (fun i=>g (l+i)) (h-l) (.slice (if cap=l then p else p.map (·.add l)) (h-l) (cap-l)):=by
 obtain ⟨p,cap,rfl,k1,k2⟩:=hv
 refine ⟨p,cap,rfl,by omega,_,_,rfl,by omega,?_⟩
 by_cases e:cap=l
 ·exact .inl O_
 ·rcases k2 with k2 | ⟨c,o,rfl,hb,hr⟩
  ·exact .inl O_
  ·refine .inr ⟨c,o+l,?_,hb,fun i hi=>?_⟩
   ·rw [if_neg e,Option.map_some,Fk]
   ·rw [Nat.add_assoc];exact hr (l+i) O_
theorem XB{P:Program}{M:Ak}{t:TypeId}{x v:AV}{lo hi:Option AV}(h:HP P M t x lo hi=some v){ι:Emb}{w:World}(hR:R ι M w){p:Value}{lo' hi':Option Value}(hx:x.rel ι p)(hlo:nm ι lo lo')(hhi:nm ι hi hi'):
  ∃u,(Instr.sliceAt t p lo' hi' none).run P w= .ok u w∧v.rel ι u:=by
 unfold HP at h
 split at h
 ·rename_i b o n el hu
  obtain ⟨loc,hb,rfl⟩:=hx
  split at h
  ·rename_i sz l hh own y hsz hl hh' hm
   split at h
   ·rename_i hc
    obtain ⟨c0,c1,c2,c3⟩:=hc
    cases h
    have hys:=hR.size hb hm
    obtain ⟨ln,rfl⟩:=Int.eq_ofNat_of_zero_le c0
    obtain ⟨hn,rfl⟩:=Int.eq_ofNat_of_zero_le (Int.le_trans c0 c1)
    have hbl:=EK hlo hl
    have hbh:=EK hhi hh'
    have hrun:=EL (P:=P) (w:=w) false n n lo' hi' ln hn (hbl.imp (fun h=>⟨h.1,by omega⟩) id) (hbh.imp (fun h=>⟨h.1,by omega⟩) id) O_ O_
    refine ⟨.slice (some (if n=ln then ⟨loc.c,loc.off+o,none⟩ else (⟨loc.c,loc.off+o,none⟩:Addr).add (ln*sz))) (hn-ln) (n-ln),?_,?_⟩
    ·simp only [Instr.sliceAt,Sem.run_bind,run_underlying hu,Result.andThen_ok,Instr.sureAddr,Sem.run_pure,hrun,CG hsz]
    ·refine ⟨_,n-ln,by rw [show ((hn:Int)-(ln:Int)).toNat=hn-ln by omega],by simp,by simp;omega,?_⟩
     by_cases e:n=ln
     ·exact .inl O_
     ·refine .inr ⟨loc,hb,?_,?_⟩
      ·rw [if_neg e,Fk];simp [Nat.add_assoc]
      ·have h7:ln*sz+(n-ln)*sz=n*sz:=by rw [←Nat.add_mul];congr 1;omega
       rw [Int.toNat_natCast]
       omega
   ·cases h
  ·cases h
 ·rename_i b o len cap sz el hu
  obtain ⟨pp,cap',rfl,hc1,hc2,hc3⟩:=hx
  split at h
  ·rename_i l hh hl hh'
   split at h
   ·rename_i hc
    obtain ⟨hsz,c0,c1,c2⟩:=hc
    cases h
    obtain ⟨ln,rfl⟩:=Int.eq_ofNat_of_zero_le c0
    obtain ⟨hn,rfl⟩:=Int.eq_ofNat_of_zero_le (Int.le_trans c0 c1)
    have hbl:=EK hlo hl
    have hbh:=EK hhi hh'
    have hmx:hn≤cap':=by omega
    have hrun:=EL (P:=P) (w:=w) true len cap' lo' hi' ln hn (hbl.imp (fun h=>⟨h.1,by omega⟩) id) (hbh.imp (fun h=>⟨h.1,by omega⟩) id) O_ hmx
    refine ⟨.slice (if cap'=ln then pp else pp.map (·.add (ln*sz))) (hn-ln) (cap'-ln),?_,?_⟩
    ·simp only [Instr.sliceAt,Instr.slice,Sem.run_bind,run_underlying hu,Result.andThen_ok,Sem.run_pure,hrun,CG hsz]
    ·refine ⟨_,cap'-ln,by rw [show ((hn:Int)-(ln:Int)).toNat=hn-ln by omega],by rw [Int.toNat_natCast];omega,by omega,?_⟩
     by_cases e:cap'=ln
     ·exact .inl O_
     ·rcases hc3 with hc3 | ⟨loc,hb,rfl,hle⟩
      ·exact .inl O_
      ·refine .inr ⟨loc,hb,?_,?_⟩
       ·rw [if_neg e]
        simp only [Option.map_some,Option.some.injEq]
        rw [Fk];simp [Nat.add_assoc]
       ·have h7:ln*sz+(cap'-ln)*sz=cap'*sz:=by rw [←Nat.add_mul];congr 1;omega
        rw [Int.toNat_natCast]
        omega
   ·cases h
  ·cases h
 ·rename_i el hu
  obtain rfl:p= .slice none 0 0:=hx
  split at h
  ·rename_i l hh hl hh'
   split at h
   ·rename_i hc
    obtain ⟨hsz,rfl,rfl⟩:=hc
    cases h
    obtain ⟨sz,hsz⟩:=Option.isSome_iff_exists.1 hsz
    have hrun:=EL (P:=P) (w:=w) true 0 0 lo' hi' 0 0 ((EK hlo hl).imp (fun h=>⟨h.1,rfl⟩) id) ((EK hhi hh').imp (fun h=>⟨h.1,rfl⟩) id) O_ O_
    refine ⟨.slice none 0 0,?_,rfl⟩
    simp [Instr.sliceAt,Instr.slice,run_underlying hu,hrun,CG hsz]
   ·cases h
  ·cases h
 ·rename_i el hu
  obtain ⟨pp,rfl⟩:=hx
  split at h
  ·rename_i l hh hl hh'
   split at h
   ·rename_i hc
    obtain ⟨hsz,rfl,rfl⟩:=hc
    cases h
    obtain ⟨sz,hsz⟩:=Option.isSome_iff_exists.1 hsz
    have hrun:=EL (P:=P) (w:=w) true 0 0 lo' hi' 0 0 ((EK hlo hl).imp (fun h=>⟨h.1,rfl⟩) id) ((EK hhi hh').imp (fun h=>⟨h.1,rfl⟩) id) O_ O_
    refine ⟨.slice pp 0 0,?_,⟨pp,rfl⟩⟩
    simp [Instr.sliceAt,Instr.slice,run_underlying hu,hrun,CG hsz]
   ·cases h
  ·cases h
 ·rename_i xs el hu
  split at h
  ·rename_i l hh hl hh'
   split at h
   ·rename_i hc
    obtain ⟨hsz,c0,c1,c2⟩:=hc
    cases h
    obtain ⟨ln,rfl⟩:=Int.eq_ofNat_of_zero_le c0
    obtain ⟨hn,rfl⟩:=Int.eq_ofNat_of_zero_le (Int.le_trans c0 c1)
    obtain ⟨pp,cap',rfl,hm,hr⟩:=bc (l:=ln) (h:=hn) hx O_ O_
    have hrun:=EL (P:=P) (w:=w) true xs.length cap' lo' hi' ln hn ((EK hlo hl).imp (fun h=>⟨h.1,by omega⟩) id) ((EK hhi hh').imp (fun h=>⟨h.1,by omega⟩) id) O_ hm
    refine ⟨.slice (if cap'=ln then pp else pp.map (·.add (ln*1))) (hn-ln) (cap'-ln),?_,?_⟩
    ·simp only [Instr.sliceAt,Instr.slice,Sem.run_bind,run_underlying hu,Result.andThen_ok,Sem.run_pure,hrun,CG hsz]
    ·rw [Nat.mul_one]
     have hcl:(cut xs ln (hn-ln)).length=hn-ln:=by simp [cut];omega
     show Co ι _ (cut xs (ln:Int).toNat ((hn:Int)-(ln:Int)).toNat).length _
     rw [Int.toNat_natCast,show ((hn:Int)-(ln:Int)).toNat=hn-ln by omega,hcl]
     obtain ⟨q,cq,e1,e2,e3⟩:=hr
     refine ⟨q,cq,e1,e2,e3.imp id ?_⟩
     rintro ⟨c,o,f1,f2,f3⟩
     refine ⟨c,o,f1,f2,fun i hi=>?_⟩
     have:=f3 i hi
     show ι.tx c (o+i) (U8 (nth (cut xs ln (hn-ln)) i))
     rw [show nth (cut xs ln (hn-ln)) i=nth xs (ln+i) from Pa xs ln (hn-ln) i _ hi]
     exact this
   ·cases h
  ·cases h
 ·rename_i xs el hu
  split at h
  ·rename_i l hh hl hh'
   split at h
   ·rename_i hc
    obtain ⟨hsz,c0,c1,c2⟩:=hc
    cases h
    obtain ⟨ln,rfl⟩:=Int.eq_ofNat_of_zero_le c0
    obtain ⟨hn,rfl⟩:=Int.eq_ofNat_of_zero_le (Int.le_trans c0 c1)
    obtain ⟨pp,cap',rfl,hm,hr⟩:=bc (l:=ln) (h:=hn) hx O_ O_
    have hrun:=EL (P:=P) (w:=w) true xs.length cap' lo' hi' ln hn ((EK hlo hl).imp (fun h=>⟨h.1,by omega⟩) id) ((EK hhi hh').imp (fun h=>⟨h.1,by omega⟩) id) O_ hm
    refine ⟨.slice (if cap'=ln then pp else pp.map (·.add (ln*1))) (hn-ln) (cap'-ln),?_,?_⟩
    ·simp only [Instr.sliceAt,Instr.slice,Sem.run_bind,run_underlying hu,Result.andThen_ok,Sem.run_pure,hrun,CG hsz]
    ·rw [Nat.mul_one]
     have hcl:(cut xs ln (hn-ln)).length=hn-ln:=by simp [cut];omega
     show Co ι _ (cut xs (ln:Int).toNat ((hn:Int)-(ln:Int)).toNat).length _
     rw [Int.toNat_natCast,show ((hn:Int)-(ln:Int)).toNat=hn-ln by omega,hcl]
     obtain ⟨q,cq,e1,e2,e3⟩:=hr
     refine ⟨q,cq,e1,e2,e3.imp id ?_⟩
     rintro ⟨c,o,f1,f2,f3⟩
     refine ⟨c,o,f1,f2,fun i hi=>?_⟩
     have:=f3 i hi
     show ι.tx c (o+i) (.int .i64 ((cut xs ln (hn-ln)).getD i 0))
     rw [show List.getD (cut xs ln (hn-ln)) i 0=List.getD xs (ln+i) 0 from Pa xs ln (hn-ln) i _ hi]
     exact this
   ·cases h
  ·cases h
 ·cases h
def Hb(P:Program)(t:TypeId)(x i:AV):Option AV:=
 match x,P.underlying t,Fc i with
 |.c (.ptr b o),some (.array n el),some i=>match De P el with
  |some sz=>if 0≤i∧i<n then some (.c (.ptr b (o+i.toNat*sz))) else none
  |none=>none
 |.c (.sl b o len _ sz),some (.slice el),some i=>if De P el=some sz∧0≤i∧i<len then some (.c (.ptr b (o+i.toNat*sz))) else none
 |.c (.bs l),some (.slice el),some i=>if De P el=some 1∧0≤i∧i<l.length then some (.c (.qb l i.toNat)) else none
 |.c (.is l),some (.slice el),some i=>if De P el=some 1∧0≤i∧i<l.length then some (.c (.qi l i.toNat)) else none
 |_,_,_=>none
theorem XI{P:Program}{t:TypeId}{x i v:AV}(h:Hb P t x i=some v){ι:Emb}(w:World){p q:Value}(hx:x.rel ι p)(hi:i.rel ι q):
  ∃u,(Instr.indexAt t p q).run P w= .ok u w∧v.rel ι u:=by
 unfold Hb at h
 split at h
 ·rename_i b o n el i' hu hi'
  obtain ⟨loc,hb,rfl⟩:=hx
  obtain ⟨k,rfl⟩:=G8 hi' hi
  split at h
  ·rename_i sz hsz
   split at h
   ·rename_i hc
    cases h
    refine ⟨.pointer (some ((⟨loc.c,loc.off+o,none⟩:Addr).add (i'.toNat*sz))),?_,⟨loc,hb,by rw [Fk,Nat.add_assoc]⟩⟩
    simp [Instr.indexAt,asIntOf,run_underlying hu,Instr.sureAddr,hc,CG hsz]
   ·cases h
  ·cases h
 ·rename_i b o len cap sz el i' hu hi'
  obtain ⟨pp,cap',rfl,hc1,hc2,hc3⟩:=hx
  obtain ⟨k,rfl⟩:=G8 hi' hi
  split at h
  ·rename_i hc
   obtain ⟨hsz,hc⟩:=hc
   cases h
   rcases hc3 with hc3 | ⟨loc,hb,rfl,hle⟩
   ·omega
   ·refine ⟨.pointer (some ((⟨loc.c,loc.off+o,none⟩:Addr).add (i'.toNat*sz))),?_,⟨loc,hb,by rw [Fk,Nat.add_assoc]⟩⟩
    simp [Instr.indexAt,asIntOf,run_underlying hu,hc,CG hsz]
  ·cases h
 ·rename_i xs el i' hu hi'
  obtain ⟨pp,cap',rfl,hc1,hc3⟩:=hx
  obtain ⟨k,rfl⟩:=G8 hi' hi
  split at h
  ·rename_i hc
   obtain ⟨hsz,hc⟩:=hc
   cases h
   rcases hc3 with hc3 | ⟨c,o,rfl,hb,hr⟩
   ·omega
   ·refine ⟨.pointer (some ((⟨c,o,none⟩:Addr).add (i'.toNat*1))),?_,⟨c,o,by rw [Fk,Nat.mul_one],hr⟩⟩
    simp [Instr.indexAt,asIntOf,run_underlying hu,hc,CG hsz]
  ·cases h
 ·rename_i xs el i' hu hi'
  obtain ⟨pp,cap',rfl,hc1,hc3⟩:=hx
  obtain ⟨k,rfl⟩:=G8 hi' hi
  split at h
  ·rename_i hc
   obtain ⟨hsz,hc⟩:=hc
   cases h
   rcases hc3 with hc3 | ⟨c,o,rfl,hb,hr⟩
   ·omega
   ·refine ⟨.pointer (some ((⟨c,o,none⟩:Addr).add (i'.toNat*1))),?_,⟨c,o,by rw [Fk,Nat.mul_one],hr⟩⟩
    simp [Instr.indexAt,asIntOf,run_underlying hu,hc,CG hsz]
  ·cases h
 ·cases h
def Emb.upd(ι:Emb)(b:Nat)(l:Loc):Emb:=⟨fun i=>if i=b then some l else ι i,ι.tx⟩
theorem Emb.upd_ne{ι:Emb}{b b':Nat}{l:Loc}(h:b'≠b):ι.upd b l b'=ι b':=if_neg h
theorem Emb.upd_eq(ι:Emb)(b:Nat)(l:Loc):ι.upd b l b=some l:=if_pos rfl
theorem R.upd_le{ι:Emb}{M:Ak}{w:World}(h:R ι M w)(l:Loc):ι.le (ι.upd M.length l):=by
 refine ⟨fun b x hb=>?_,fun _ _ _ h=>h⟩
 have:b≠M.length:=fun e=>by rw [h.dom b O_] at hb;cases hb
 rw [Emb.upd_ne this];exact hb
theorem Ch{M:Ak}{r:Row}{b:Nat}{own:Bool}{x:Arr}(h:(M++[r])[b]?=some (.row own x)):(b<M.length∧M[b]?=some (.row own x))∨(b=M.length∧r= .row own x):=by
 by_cases hb:b<M.length
 ·rw [List.getElem?_append_left hb] at h;exact .inl ⟨hb,h⟩
 ·rw [List.getElem?_append_right O_] at h
  by_cases e:b=M.length
  ·subst e;simp at h;exact .inr ⟨rfl,h⟩
  ·rw [List.getElem?_eq_none (by simp;omega)] at h;cases h
theorem Gu{ι:Emb}{M:Ak}{w w':World}(hR:R ι M w){cs:Array Value}{t:TypeId}{x:Arr}(hh:w'.heap=w.heap.push (.cells cs t (0,0)))(ho:w'.os=w.os)(ht:w'.tape=w.tape)(hu:w'.output=w.output)
  (hs:x.size≤cs.size) (hx:x.relAt ι cs 0) (hmp:x.isMap=false):Step M.length ι M w (ι.upd M.length ⟨w.heap.size,0,cs.size⟩) (M++[.row true x]) w'∧ι.le (ι.upd M.length ⟨w.heap.size,0,cs.size⟩):=by
 have hle:=hR.upd_le ⟨w.heap.size,0,cs.size⟩
 have old:∀c,c<w.heap.size→w'.heap[c]?=w.heap[c]?:=fun c hc=>by rw [hh,Array.getElem?_push,if_neg O_]
 refine ⟨Step.make hR (fun b hb=>?_) (fun b l own y hb hm=>?_) (fun b b' l l' own own' y y' hne hb hb' hm hm' ho=>?_) ⟨ho,ht,hu,by rw [hh];simp,fun c hc _=>old c hc,fun c hc=>?_⟩ rfl (fun b hb=>Emb.upd_ne O_) (by simp) (fun b x hb hm=>by rw [List.getElem?_append_left hb];exact hm) (fun b own x hb hm=>⟨x,by rwa [List.getElem?_append_left hb] at hm⟩) (fun b l own y hb h1 h2=>?_),hle⟩
 ·simp at hb
  rw [Emb.upd_ne O_];exact hR.dom b O_
 ·rcases Ch hm with ⟨hlt,hm⟩ | ⟨rfl,e⟩
  ·rw [Emb.upd_ne O_] at hb
   exact (hR.rows b l own y hb hm).heap (old _ (hR.lt hb hm)) hle
  ·cases e
   rw [Emb.upd_eq] at hb
   cases hb
   exact .of hmp ⟨cs,t,(0,0),by rw [hh,Array.getElem?_push,if_pos rfl],hs,hx.mono' hle,fun _=>⟨rfl,by simp⟩⟩
 ·rcases Ch hm with ⟨hlt,hm⟩ | ⟨rfl,e⟩<;>rcases Ch hm' with ⟨hlt',hm'⟩ | ⟨rfl,e'⟩
  ·rw [Emb.upd_ne O_] at hb hb'
   exact hR.inj b b' l l' own own' y y' hne hb hb' hm hm' ho
  ·rw [Emb.upd_ne O_] at hb
   rw [Emb.upd_eq] at hb'
   cases hb'
   have:=hR.lt hb hm
   show l.c≠w.heap.size
   omega
  ·rw [Emb.upd_ne O_] at hb'
   rw [Emb.upd_eq] at hb
   cases hb
   have:=hR.lt hb' hm'
   show w.heap.size≠l'.c
   omega
  ·exact absurd rfl hne
 ·obtain ⟨b,l,y,hb,hm,rfl⟩:=hc
  rcases Ch hm with ⟨hlt,hm⟩ | ⟨rfl,e⟩
  ·rw [Emb.upd_ne O_] at hb
   exact .inr ⟨b,l,y,hb,hm,rfl⟩
  ·rw [Emb.upd_eq] at hb
   cases hb
   exact .inl (Nat.le_refl _)
 ·rcases Ch h2 with ⟨hlt,h2⟩ | ⟨rfl,e⟩
  ·omega
  ·rw [Emb.upd_eq] at h1
   cases h1
   exact .inl (Nat.le_refl _)
theorem CN{M:Ak}{r:Row}{b b':Nat}{own:Bool}{x:Arr}(h:(M.set b r)[b']?=some (.row own x)):(b'≠b∧M[b']?=some (.row own x))∨(b'=b∧r= .row own x):=by
 rw [List.getElem?_set] at h
 split at h
 ·rename_i e;subst e
  split at h
  ·cases h;exact .inr ⟨rfl,rfl⟩
  ·cases h
 ·rename_i e;exact .inl ⟨fun h=>e h.symm,h⟩
theorem Qx{ι:Emb}{M:Ak}{w:World}(hR:R ι M w){b:Nat}{l:Loc}{x y:Arr}(hb:ι b=some l)(hm:M[b]?=some (.row true x)){cs cs':Array Value}{t:TypeId}(hh:w.heap[l.c]?=some (.cells cs t (0,0)))
  (hs:cs'.size=cs.size) (hn:y.size≤l.n) (hy:y.relAt ι cs' l.off) (hmp:y.isMap=false):Step M.length ι M w ι (M.set b (.row true y)) (w.setRow l.c cs'):=by
 have hown:C5 ι M l.c:=⟨b,l,x,hb,hm,rfl⟩
 refine Step.make hR (fun b hb=>hR.dom b (by simpa using hb)) (fun b1 l1 own z hb1 hm1=>?_) (fun b1 b2 l1 l2 o1 o2 z1 z2 hne h1 h2 k1 k2 ho=>?_) ⟨rfl,rfl,rfl,Nat.le_of_eq (size_setRow w l.c cs').symm,fun c hc hn=>HQ w l.c cs' c (fun e=>hn (by rw [e];exact hown)),fun c hc=>?_⟩ rfl (fun _ _=>rfl) (by simp) (fun b1 z hb1 hm1=>?_) (fun b1 own z hb1 hm1=>?_) (fun b1 l1 own z hb1 h1 h2=>(H9 (by simpa using hb1) h2).elim)
 ·rcases CN hm1 with ⟨hne,hm1⟩ | ⟨rfl,e⟩
  ·have hc:l1.c≠l.c:=hR.inj b1 b l1 l own true z x hne hb1 hb hm1 hm (.inr rfl)
   exact (hR.rows b1 l1 own z hb1 hm1).heap (HQ _ _ _ _ hc) (.refl _)
  ·cases e
   rw [hb] at hb1;cases hb1
   have hxm:x.isMap=false:=by
    have k:=hR.rows b1 l true x hb hm
    cases x<;>(first | rfl | (obtain ⟨es,c,k1,_⟩:=k;rw [hh] at k1;cases k1))
   obtain ⟨cs1,t1,fr,k1,k2,k3,k4⟩:=hR.cells hb hm hxm
   rw [hh] at k1;cases k1
   exact .of hmp ⟨cs',t,(0,0),setRow_heap w l.c cs cs' t (0,0) hh,hn,hy,fun _=>⟨rfl,by rw [hs];exact (k4 rfl).2⟩⟩
 ·rcases CN k1 with ⟨e1,m1⟩ | ⟨rfl,e1⟩<;>rcases CN k2 with ⟨e2,m2⟩ | ⟨rfl,e2⟩
  ·exact hR.inj b1 b2 l1 l2 o1 o2 z1 z2 hne h1 h2 m1 m2 ho
  ·exact hR.inj b1 b2 l1 l2 o1 true z1 x hne h1 h2 m1 hm (.inr rfl)
  ·exact hR.inj b1 b2 l1 l2 true o2 x z2 hne h1 h2 hm m2 (.inl rfl)
  ·exact absurd rfl hne
 ·obtain ⟨b1,l1,z,h1,k1,rfl⟩:=hc
  rcases CN k1 with ⟨e1,k1⟩ | ⟨rfl,e1⟩
  ·exact .inr ⟨b1,l1,z,h1,k1,rfl⟩
  ·exact .inr ⟨b1,l1,x,h1,hm,rfl⟩
 ·rw [List.getElem?_set_ne (fun e=>by subst e;rw [hm] at hm1;cases hm1)];exact hm1
 ·rcases CN hm1 with ⟨hne,hm1⟩ | ⟨rfl,e⟩
  ·exact ⟨z,hm1⟩
  ·cases e;exact ⟨x,hm⟩
theorem kj{ι:Emb}{M:Ak}{w:World}(hR:R ι M w){b:Nat}{x:Arr}(hm:M[b]?=some (.row true x)):Step M.length ι M w ι (M.set b .dead) w:=by
 refine Step.make hR (fun b hb=>hR.dom b (by simpa using hb)) (fun b1 l1 own z hb1 hm1=>?_) (fun b1 b2 l1 l2 o1 o2 z1 z2 hne h1 h2 k1 k2 ho=>?_) ⟨rfl,rfl,rfl,Nat.le_refl _,fun _ _ _=>rfl,fun c hc=>?_⟩ rfl (fun _ _=>rfl) (by simp) (fun b1 z hb1 hm1=>?_) (fun b1 own z hb1 hm1=>?_) (fun b1 l1 own z hb1 h1 h2=>(H9 (by simpa using hb1) h2).elim)
 ·rcases CN hm1 with ⟨hne,hm1⟩ | ⟨rfl,e⟩
  ·exact hR.rows b1 l1 own z hb1 hm1
  ·cases e
 ·rcases CN k1 with ⟨e1,k1⟩ | ⟨rfl,e1⟩<;>rcases CN k2 with ⟨e2,k2⟩ | ⟨rfl,e2⟩
  ·exact hR.inj b1 b2 l1 l2 o1 o2 z1 z2 hne h1 h2 k1 k2 ho
  ·cases e2
  ·cases e1
  ·cases e1
 ·obtain ⟨b1,l1,z,h1,k1,rfl⟩:=hc
  rcases CN k1 with ⟨e1,k1⟩ | ⟨rfl,e1⟩
  ·exact .inr ⟨b1,l1,z,h1,k1,rfl⟩
  ·cases e1
 ·rw [List.getElem?_set_ne (fun e=>by subst e;rw [hm] at hm1;cases hm1)];exact hm1
 ·rcases CN hm1 with ⟨hne,hm1⟩ | ⟨rfl,e⟩
  ·exact ⟨z,hm1⟩
  ·cases e
theorem grow_step{ι:Emb}{M:Ak}{w:World}(hR:R ι M w){b:Nat}{l:Loc}{x y:Arr}(hb:ι b=some l)(hm:M[b]?=some (.row true x)){cs cs':Array Value}{t:TypeId}(hh:w.heap[l.c]?=some (.cells cs t (0,0)))
  (hs:cs'.size=cs.size) {o:Nat} (ho:o≤l.n) (hn:y.size≤l.n-o) (hy:y.relAt ι cs' (l.off+o)) (hmp:y.isMap=false):
  Step M.length ι M w (ι.upd M.length ⟨l.c,l.off+o,l.n-o⟩) (M.set b .dead++[.row true y]) (w.setRow l.c cs')∧ι.le (ι.upd M.length ⟨l.c,l.off+o,l.n-o⟩):=by
 have hown:C5 ι M l.c:=⟨b,l,x,hb,hm,rfl⟩
 have hle:=hR.upd_le ⟨l.c,l.off+o,l.n-o⟩
 have hlen:(M.set b Row.dead).length=M.length:=by simp
 have pick:∀ {b1:Nat} {own:Bool} {z:Arr},(M.set b .dead++[.row true y])[b1]?=some (.row own z)→(b1≠b∧b1<M.length∧M[b1]?=some (.row own z))∨(b1=M.length∧own=true∧z=y):=by
  intro b1 own z h
  rcases Ch h with ⟨hlt,h⟩ | ⟨rfl,e⟩
  ·rcases CN h with ⟨hne,h⟩ | ⟨rfl,e⟩
   ·exact .inl ⟨hne,by omega,h⟩
   ·cases e
  ·cases e;exact .inr ⟨hlen,rfl,rfl⟩
 have apart:∀ {b1:Nat} {l1:Loc} {own:Bool} {z:Arr},b1≠b→ι b1=some l1→M[b1]?=some (.row own z)→l1.c≠l.c:=fun hne h1 k1=>hR.inj _ b _ l _ true _ x hne h1 hb k1 hm (.inr rfl)
 refine ⟨Step.make hR (fun b1 hb1=>?_) (fun b1 l1 own z hb1 hm1=>?_) (fun b1 b2 l1 l2 o1 o2 z1 z2 hne h1 h2 k1 k2 ho=>?_) ⟨rfl,rfl,rfl,Nat.le_of_eq (size_setRow w l.c cs').symm,fun c hc hn=>HQ w l.c cs' c (fun e=>hn (by rw [e];exact hown)),fun c hc=>?_⟩ rfl (fun b1 hb1=>Emb.upd_ne O_) (by simp) (fun b1 z hb1 hm1=>?_) (fun b1 own z hb1 hm1=>?_) (fun b1 l1 own z hb1 h1 h2=>?_),hle⟩
 ·simp at hb1
  rw [Emb.upd_ne O_];exact hR.dom b1 O_
 ·rcases pick hm1 with ⟨hne,hlt,hm1⟩ | ⟨rfl,rfl,rfl⟩
  ·rw [Emb.upd_ne O_] at hb1
   exact (hR.rows b1 l1 own z hb1 hm1).heap (HQ _ _ _ _ (apart hne hb1 hm1)) hle
  ·rw [Emb.upd_eq] at hb1;cases hb1
   have hxm:x.isMap=false:=by
    have k:=hR.rows b l true x hb hm
    cases x<;>(first | rfl | (obtain ⟨es,c,k1,_⟩:=k;rw [hh] at k1;cases k1))
   obtain ⟨cs1,t1,fr,k1,k2,k3,k4⟩:=hR.cells hb hm hxm
   rw [hh] at k1;cases k1
   refine .of hmp ⟨cs',t,(0,0),setRow_heap w l.c cs cs' t (0,0) hh,hn,hy.mono' hle,fun _=>⟨rfl,?_⟩⟩
   have:=(k4 rfl).2
   simp only
   omega
 ·rcases pick k1 with ⟨e1,g1,m1⟩ | ⟨e1,_,_⟩<;>rcases pick k2 with ⟨e2,g2,m2⟩ | ⟨e2,_,_⟩
  ·rw [Emb.upd_ne O_] at h1 h2
   exact hR.inj b1 b2 l1 l2 o1 o2 z1 z2 hne h1 h2 m1 m2 ho
  ·rw [Emb.upd_ne O_] at h1
   rw [e2,Emb.upd_eq] at h2;cases h2
   exact apart e1 h1 m1
  ·rw [Emb.upd_ne O_] at h2
   rw [e1,Emb.upd_eq] at h1;cases h1
   exact fun e=>apart e2 h2 m2 e.symm
  ·exact absurd (e1.trans e2.symm) hne
 ·obtain ⟨b1,l1,z,h1,k1,rfl⟩:=hc
  rcases pick k1 with ⟨e1,g1,k1⟩ | ⟨rfl,_,rfl⟩
  ·rw [Emb.upd_ne O_] at h1
   exact .inr ⟨b1,l1,z,h1,k1,rfl⟩
  ·rw [Emb.upd_eq] at h1;cases h1
   exact .inr hown
 ·rw [List.getElem?_append_left (by simpa using hb1),List.getElem?_set_ne (fun e=>by subst e;rw [hm] at hm1;cases hm1)];exact hm1
 ·rcases pick hm1 with ⟨_,_,hm1⟩ | ⟨rfl,_,_⟩
  ·exact ⟨z,hm1⟩
  ·omega
 ·rcases pick h2 with ⟨_,hlt,_⟩ | ⟨rfl,_,_⟩
  ·omega
  ·rw [Emb.upd_eq] at h1
   cases h1
   exact .inr (.inl hown)
def Eo(M:Ak)(sz:Nat):AV→Option (Nat×Arr)
 |.c (.sl b o n _ sz')=>
  match M[b]? with
  |some (.row _ y)=>if sz'=sz∧o+n*sz≤y.size then some (n,Ft y o (n*sz)) else none
  |_=>none
 |.c (.bs l)=>if sz=1 then some (l.length,.a8 l) else none
 |.c (.is l)=>if sz=1 then some (l.length,.ai l) else none
 |_=>none
structure jL(w:World)(ι:Emb)(sz:Nat)(p:Option Addr)(n:Nat)(y:Arr)(l:List Value):Prop where
 len:l.length=n*sz
 size:y.size=n*sz
 rel:∀i,i<y.size→ ∃v,l[i]?=some v∧(y.get i).rel ι v
 nil:p=none→l=[]
 cells:∀a,p=some a→ ∀j u,l[j]?=some u→w.cell? (a.add j)=some u
theorem Q8{M:Ak}{n:Nat}{y:Arr}{g:Nat→Value}(hn:y.size=n){ι:Emb}{w:World}(hR:R ι M w){v:Value}(hx:Co ι g n v)(hg:∀i,i<n→(y.get i).rel ι (g i)):∃p c l,v= .slice p n c∧n≤c∧jL w ι 1 p n y l:=by
 obtain ⟨p,cap,rfl,h1,h2⟩:=hx
 refine ⟨p,cap,(List.range n).map g,rfl,h1,by simp,by omega,fun i hi=>⟨g i,by simp [show i<n by omega],hg i O_⟩,fun hp=>?_,fun a ha j u hu=>?_⟩
 ·rcases h2 with h2 | ⟨c,o,rfl,_⟩
  ·have:n=0:=by omega
   subst this;rfl
  ·cases hp
 ·rcases h2 with h2 | ⟨c,o,rfl,_,hr⟩
  ·have:n=0:=by omega
   subst this;simp at hu
  ·cases ha
   have hj:j<n:=by
    have:=(List.getElem?_eq_some_iff.1 hu).1
    simpa using this
   simp only [List.getElem?_map,List.getElem?_range hj,Option.map_some,Option.some.injEq] at hu
   subst hu
   obtain ⟨⟨cs,t,fr,e1,e2⟩,_⟩:=hR.txt _ _ _ (hr j hj)
   rw [Fk,cell_of e1]
   exact e2
theorem K2{M:Ak}{sz n:Nat}{x:AV}{y:Arr}(h:Eo M sz x=some (n,y))(hsz:0<sz){ι:Emb}{w:World}(hR:R ι M w){v:Value}(hx:x.rel ι v):∃p c l,v= .slice p n c∧n≤c∧jL w ι sz p n y l:=by
 unfold Eo at h
 split at h
 ·rename_i b o n' cap sz'
  split at h
  ·rename_i own z hm
   split at h
   ·rename_i hc
    obtain ⟨rfl,hle⟩:=hc
    cases h
    obtain ⟨p,c,rfl,h1,h2,h3⟩:=hx
    by_cases hn:n=0
    ·subst hn
     exact ⟨p,c,[],rfl,h2,by simp,by rw [IC O_],fun i hi=>by rw [IC O_] at hi;omega,fun _=>rfl,fun a _ j u hu=>by simp at hu⟩
    ·rcases h3 with h3 | ⟨l,hb,rfl,hl⟩
     ·omega
     ·obtain ⟨cs,t,fr,k1,k2,k3,k4⟩:=hR.cells hb hm (Arr.noMap (by have hp:0<n*sz':=Nat.mul_pos O_ hsz;omega))
      have hfit:l.off+o+n*sz'≤cs.size:=by
       have hp:0<n*sz':=Nat.mul_pos O_ hsz
       obtain ⟨u,hu,_⟩:=k3 (o+n*sz'-1) O_
       have:=(Array.getElem?_eq_some_iff.1 hu).1
       omega
      refine ⟨_,c,(cs.extract (l.off+o) (l.off+o+n*sz')).toList,rfl,h2,by simp;omega,IC hle,fun i hi=>?_,fun h=>(by cases h),fun a ha j u hu=>?_⟩
      ·rw [IC hle] at hi
       obtain ⟨u,hu,hr⟩:=k3 (o+i) O_
       refine ⟨u,?_,by rw [PQ hi hle];exact hr⟩
       rw [Array.getElem?_toList,Array.getElem?_extract,if_pos O_,←hu,Nat.add_assoc]
      ·cases ha
       rw [Fk,cell_of k1]
       rw [Array.getElem?_toList,Array.getElem?_extract] at hu
       split at hu
       ·exact hu
       ·cases hu
   ·cases h
  ·cases h
 ·rename_i l0
  split at h
  ·rename_i h1
   subst h1
   cases h
   exact Q8 (y:= .a8 l0) (g:=fun i=>U8 (nth l0 i)) rfl hR hx fun i hi=>rfl
  ·cases h
 ·rename_i l0
  split at h
  ·rename_i h1
   subst h1
   cases h
   exact Q8 (y:= .ai l0) (g:=fun i=> .int .i64 (l0.getD i 0)) rfl hR hx fun i hi=>rfl
  ·cases h
 ·cases h
theorem jL.first{w:World}{ι:Emb}{sz n:Nat}{p:Option Addr}{y:Arr}{l:List Value}(h:jL w ι sz p n y l)(P:Program)(c:Nat)(w':World)(hw:w'.heap=w.heap):(Builtin.firstCells sz n (.slice p n c)).run P w'= .ok l.toArray w':=by
 cases p with
 |none=>rw [h.nil rfl];exact run_firstCells_none w' sz n n c
 |some a=>exact run_firstCells_some w' sz n a n c l h.len fun j v hv=>by have:=h.cells a rfl j v hv;rw [←this];simp [World.cell?,hw]
def Bi(P:Program)(el:TypeId):Option (Nat×Nat):=
 match P.info? el with
 |some i=>match i.zero with
  |some z=>if z.cells.size=i.size∧0<i.size then some (i.size,i.bytes) else none
  |none=>none
 |none=>none
theorem Ip{P:Program}{el:TypeId}{sz by':Nat}(h:Bi P el=some (sz,by')):∃i z,P.info? el=some i∧i.zero=some z∧i.size=sz∧i.bytes=by'∧z.cells.size=sz∧0<sz:=by
 unfold Bi at h
 split at h
 ·rename_i i hi
  split at h
  ·rename_i z hz
   split at h
   ·rename_i hc
    cases h
    exact ⟨i,z,hi,hz,rfl,rfl,hc.1,hc.2⟩
   ·cases h
  ·cases h
 ·cases h
def Et(P:Program)(t:TypeId):Bool:=match P.underlying t with | some (.slice _)=>true | _=>false
theorem Xq{P:Program}{t:TypeId}(h:Et P t=true):∃e,P.underlying t=some (.slice e):=by
 unfold Et at h
 split at h
 ·rename_i e he;exact ⟨e,he⟩
 ·cases h
theorem KY{P:Program}{w:World}(t t' ty el:TypeId)(i:TypeInfo)(z:Value)(ht:P.underlying t=some (.slice el))(ht':Et P t'=true)(hi:P.info? el=some i)(hz:i.zero=some z)
  (p q:Option Addr) (sLen sCap n c:Nat) (olds news:List Value)
  (ho:∀w',w'.heap=w.heap→(Builtin.firstCells i.size sLen (.slice p sLen sCap)).run P w'= .ok olds.toArray w') (hn:∀w',w'.heap=w.heap→(Builtin.firstCells i.size n (.slice q n c)).run P w'= .ok news.toArray w')
  (hby:(sLen+n)*i.bytes≤140737488355328) (h63:sLen+n≤9223372036854775807):
  (sLen+n≤sCap∧(Builtin.append_ #[t,t'] ty #[.slice p sLen sCap,.slice q n c]).run P w=((match p with | some a=>(storeCells (a.add (sLen*i.size)) news).run P w | none=> .ok () w).andThen fun _ w'=> .ok (.slice p (sLen+n) sCap) w'))∨
  (sCap<sLen+n∧ ∃cap',sLen+n≤cap'∧(Builtin.append_ #[t,t'] ty #[.slice p sLen sCap,.slice q n c]).run P w= .ok (.slice (some ⟨w.heap.size,0,none⟩) (sLen+n) cap') (w.drew.alloc (.cells (olds.toArray++news.toArray++Builtin.zeroCells z.cells (cap'-(sLen+n))) el))):=by
 obtain ⟨e',ht'⟩:=Xq ht'
 by_cases hr:sLen+n≤sCap
 ·refine .inl ⟨hr,?_⟩
  have h2:=hn w rfl
  cases p with
  |none=>simp [Builtin.append_,run_underlying ht,run_underlying ht',sizeOf,typeInfo,hi,Builtin.lenOf,hr,h2]
  |some a=>simp [Builtin.append_,run_underlying ht,run_underlying ht',sizeOf,typeInfo,hi,Builtin.lenOf,hr,h2]
 ·refine .inr ⟨by omega,grownCap w (sLen+n) sCap el,grownCap_ge w _ _ _,?_⟩
  have hfit:=growslice_fits (show sCap<sLen+n by omega) hby
  have h63':¬(9223372036854775807<((sLen:Int)+(n:Int))):=by omega
  have h48':¬(281474976710656<Builtin.nextslicecap (sLen+n) sCap*i.bytes):=by omega
  have h1:=ho w.drew rfl
  have h2:=hn w.drew rfl
  simp [Builtin.append_,run_underlying ht,run_underlying ht',sizeOf,typeInfo,zeroValue,hi,hz,Builtin.lenOf,hr,h63',h48',Question.forced,h1,h2,newRow,grownCap]
  congr 2
  apply Array.ext'
  simp
def BM(P:Program)(M:Ak)(t t':TypeId)(s x:AV):Option (AV×Ak):=
 match P.underlying t,Et P t' with
 |some (.slice el),true=>
  match Bi P el with
  |some (sz,by')=>
   match x with
   |.c .nsl | .c .esl=>match s with
    |.c (.sl ..) | .c .nsl | .c .esl=>some (s,M)
    |_=>none
   |x=>
    match Eo M sz x with
    |some (n,y)=>
     if y.one=true∧n*by'≤140737488355328∧n≤9223372036854775807 then
      match s with
      |.c .nsl | .c .esl=>some (.c (.sl M.length 0 n n sz),M++[.row true y])
      |.c (.sl b o len _ sz')=>
       match M[b]? with
       |some (.row true u)=>
        if sz'=sz∧o+len*sz≤u.size∧(len+n)*by'≤140737488355328∧len+n≤9223372036854775807 then
         match (Ft u o (len*sz)).app y with
         |some z=>some (.c (.sl M.length 0 (len+n) (len+n) sz),M.set b .dead++[.row true z])
         |none=>none
        else none
       |_=>none
      |_=>none
     else none
    |none=>none
  |none=>none
 |_,_=>none
theorem Rx{k:Nat}{ι:Emb}{M:Ak}{w:World}(hR:R ι M w)(r:Row)(hk:k≤M.length):Step k ι M w ι (M++[r]) w:=by
 have pick:∀ {b:Nat} {l:Loc} {own:Bool} {x:Arr},ι b=some l→(M++[r])[b]?=some (.row own x)→M[b]?=some (.row own x):=by
  intro b l own x hb h
  rcases Ch h with ⟨_,h⟩ | ⟨rfl,_⟩
  ·exact h
  ·rw [hR.dom M.length (Nat.le_refl _)] at hb;cases hb
 refine Step.make hR (fun b hb=>hR.dom b (by simp at hb;omega)) (fun b l own x hb hm=>hR.rows b l own x hb (pick hb hm)) (fun b b' l l' o o' x x' hne h1 h2 k1 k2 ho=>hR.inj b b' l l' o o' x x' hne h1 h2 (pick h1 k1) (pick h2 k2) ho)
  ⟨rfl,rfl,rfl,Nat.le_refl _,fun _ _ _=>rfl,fun c hc=>?_⟩ rfl (fun _ _=>rfl) (by simp;omega) (fun b x hb hm=>by rw [List.getElem?_append_left O_];exact hm) (fun b own x hb hm=>⟨x,by rwa [List.getElem?_append_left O_] at hm⟩) (fun b l own x hb h1 h2=> .inr (.inr ⟨b,l,own,x,hb,h1,pick h1 h2,rfl⟩))
 obtain ⟨b,l,x,hb,hm,rfl⟩:=hc
 exact .inr ⟨b,l,x,hb,pick hb hm,rfl⟩
theorem Vh{ι:Emb}{y:Arr}{l:List Value}(h:∀i,i<y.size→ ∃v,l[i]?=some v∧(y.get i).rel ι v)(rest:Array Value):y.relAt ι (l.toArray++rest) 0:=fun i hi=>by
 obtain ⟨v,hv,hr⟩:=h i hi
 refine ⟨v,?_,hr⟩
 rw [Nat.zero_add,Array.getElem?_append_left (by have:=(List.getElem?_eq_some_iff.1 hv).1;simpa using this)]
 simpa using hv
theorem qG{ι:Emb}{x y z:Arr}(hz:x.app y=some z){l m:List Value}(hl:l.length=x.size)(h:∀i,i<x.size→ ∃v,l[i]?=some v∧(x.get i).rel ι v)(k:∀i,i<y.size→ ∃v,m[i]?=some v∧(y.get i).rel ι v):
  ∀i,i<z.size→ ∃v,(l++m)[i]?=some v∧(z.get i).rel ι v:=by
 obtain ⟨h1,h2⟩:=Arr.app_spec hz
 intro i hi
 rw [h2 i hi]
 by_cases hx:i<x.size
 ·rw [if_pos hx,List.getElem?_append_left O_]
  exact h i hx
 ·rw [if_neg hx,List.getElem?_append_right O_,hl]
  exact k (i-x.size) O_
theorem Wf {P : Program} {M M' : Ak} {t t' ty : TypeId} {s x v : AV} (h : BM P M t t' s x = some (v, M')) {ι : Emb} {w : World} (hR : R ι M w) {p q : Value} (hs : s.rel ι p) (hx : x.rel ι q) :
    ∃ u w' ι', (Builtin.append_ #[t, t'] ty #[p, q]).run P w = .ok u w' ∧ v.rel ι' u ∧ Step M.length ι M w ι' M' w' := by
  unfold BM at h
  split at h
  · rename_i el ht ht'
    split at h
    · rename_i sz by' hel
      obtain ⟨i, z, hi, hz, rfl, rfl, hzs, hsz⟩ := Ip hel
      obtain ⟨e', ht2⟩ := Xq ht'
      have triv : ∀ c, (∃ pp, q = .slice pp 0 c) → (v, M') = (s, M) → (∃ pp n c, p = .slice pp n c ∧ n ≤ c) → ∃ u w' ι', (Builtin.append_ #[t, t'] ty #[p, q]).run P w = .ok u w' ∧ v.rel ι' u ∧ Step M.length ι M w ι' M' w' := by
        rintro c ⟨pq, rfl⟩ he ⟨pp, n, cc, rfl, hn⟩
        cases he
        refine ⟨.slice pp n cc, w, ι, ?_, hs, Step.refl hR (Nat.le_refl _)⟩
        have hf : (Builtin.firstCells i.size 0 (.slice pq 0 c)).run P w = .ok #[] w := by
          cases pq with
          | none => exact run_firstCells_none w _ _ _ _
          | some a => exact run_firstCells_some w _ 0 a 0 c [] (by simp) (fun j v h => by simp at h)
        cases pp with
        | none => simp [Builtin.append_, run_underlying ht, run_underlying ht2, sizeOf, typeInfo, hi, Builtin.lenOf, hn, hf]
        | some a => simp [Builtin.append_, run_underlying ht, run_underlying ht2, sizeOf, typeInfo, hi, Builtin.lenOf, hn, hf, storeCells]
      have shape : ∀ (b o len cap sz : Nat), s = .c (.sl b o len cap sz) ∨ s = .c .nsl ∨ s = .c .esl → ∃ pp n c, p = .slice pp n c ∧ n ≤ c := by
        rintro b o len cap sz (rfl | rfl | rfl)
        · obtain ⟨pp, c, rfl, _, h2, _⟩ := hs
          exact ⟨pp, _, c, rfl, h2⟩
        · exact ⟨none, 0, 0, hs, Nat.le_refl _⟩
        · obtain ⟨pp, rfl⟩ := hs
          exact ⟨pp, 0, 0, rfl, Nat.le_refl _⟩
      split at h
      · obtain rfl : q = .slice none 0 0 := hx
        split at h
        · cases h; exact triv 0 ⟨none, rfl⟩ rfl (shape _ _ _ _ _ (.inl rfl))
        · cases h; exact triv 0 ⟨none, rfl⟩ rfl (shape 0 0 0 0 0 (.inr (.inl rfl)))
        · cases h; exact triv 0 ⟨none, rfl⟩ rfl (shape 0 0 0 0 0 (.inr (.inr rfl)))
        · cases h
      · obtain ⟨pq, rfl⟩ := hx
        split at h
        · cases h; exact triv 0 ⟨pq, rfl⟩ rfl (shape _ _ _ _ _ (.inl rfl))
        · cases h; exact triv 0 ⟨pq, rfl⟩ rfl (shape 0 0 0 0 0 (.inr (.inl rfl)))
        · cases h; exact triv 0 ⟨pq, rfl⟩ rfl (shape 0 0 0 0 0 (.inr (.inr rfl)))
        · cases h
      · split at h
        · rename_i n y hsrc
          obtain ⟨qa, c, l, rfl, hnc, hsh⟩ := K2 hsrc hsz hR hx
          split at h
          · rename_i hc
            obtain ⟨hone, hby, h63⟩ := hc
            have hl1 : ∀ u ∈ l, u.oneCell' = true := by
              intro u hu
              obtain ⟨j, hj, rfl⟩ := List.mem_iff_getElem.1 hu
              obtain ⟨v', hv', hr⟩ := hsh.rel j (by rw [hsh.size, ← hsh.len]; exact hj)
              rw [List.getElem?_eq_getElem hj] at hv'
              cases hv'
              exact Cell.rel_one hr (Arr.get_one hone (by rw [hsh.size, ← hsh.len]; exact hj))
            have zero : ∀ pp, p = .slice pp 0 0 → (v, M') = (.c (.sl M.length 0 n n i.size), M ++ [.row true y]) → ∃ u w' ι', (Builtin.append_ #[t, t'] ty #[p, .slice qa n c]).run P w = .ok u w' ∧ v.rel ι' u ∧ Step M.length ι M w ι' M' w' := by
              rintro pp rfl he
              cases he
              have hf : ∀ w', w'.heap = w.heap → (Builtin.firstCells i.size 0 (.slice pp 0 0)).run P w' = .ok ([] : List Value).toArray w' := by
                intro w' _
                cases pp with
                | none => exact run_firstCells_none w' _ _ _ _
                | some a => exact run_firstCells_some w' _ 0 a 0 0 [] (by simp) (fun j v h => by simp at h)
              rcases KY (P := P) (w := w) t t' ty el i z ht ht' hi hz pp qa 0 0 n c [] l hf (fun w' hw => hsh.first P c w' hw) (by simpa using hby) (by simpa using h63) with ⟨hr, e⟩ | ⟨hr, cap', hcap, e⟩
              · obtain rfl : n = 0 := by omega
                obtain rfl : l = [] := List.eq_nil_of_length_eq_zero (by rw [hsh.len]; simp)
                refine ⟨.slice pp 0 0, w, ι, ?_, ⟨pp, 0, rfl, Nat.le_refl _, Nat.le_refl _, .inl rfl⟩, Rx hR _ (Nat.le_refl _)⟩
                rw [e]
                cases pp <;> simp [storeCells]
              · rw [Nat.zero_add] at e hcap hr
                have hst := Gu (w' := w.drew.alloc (.cells (([] : List Value).toArray ++ l.toArray ++ Builtin.zeroCells z.cells (cap' - n)) el)) (x := y) (t := el) hR (cs := ([] : List Value).toArray ++ l.toArray ++ Builtin.zeroCells z.cells (cap' - n)) rfl rfl rfl rfl
                  (by simp [hsh.size, hsh.len]) (by
                    have := Vh hsh.rel (Builtin.zeroCells z.cells (cap' - n))
                    simpa using this) (Arr.one_noMap hone)
                refine ⟨_, _, _, e, ⟨_, cap', rfl, hcap, hcap, .inr ⟨_, Emb.upd_eq _ _ _, rfl, ?_⟩⟩, hst.1⟩
                simp [hsh.len, size_zeroCells, hzs]
                rw [← Nat.add_mul]; apply Nat.le_of_eq; congr 1; omega
            split at h
            · cases h
              obtain rfl : p = .slice none 0 0 := hs
              exact zero none rfl rfl
            · cases h
              obtain ⟨pp, rfl⟩ := hs
              exact zero pp rfl rfl
            · rename_i b o len cap sz'
              split at h
              · rename_i u0 hm
                split at h
                · rename_i hc
                  obtain ⟨rfl, hle, hby2, h632⟩ := hc
                  split at h
                  · rename_i zz happ
                    cases h
                    have hss : Eo M i.size (.c (.sl b o len cap i.size)) = some (len, Ft u0 o (len * i.size)) := by
                      simp [Eo, hm, hle]
                    obtain ⟨pa, ca, olds, he, hlc, hold⟩ := K2 hss hsz hR hs
                    obtain ⟨pa', ca', he', hcc, hlc', h3⟩ := hs
                    rw [he] at he'; cases he'
                    subst he
                    have hrel := qG happ (by rw [hold.len, hold.size]) hold.rel hsh.rel
                    have hzsize : zz.size = len * i.size + n * i.size := by rw [(Arr.app_spec happ).1, hold.size, hsh.size]
                    have hkill := kj hR hm
                    have hum : u0.isMap = false := by
                      cases u0 <;> (first | rfl | skip)
                      simp only [Arr.size] at hle
                      have e0 : o = 0 ∧ len * i.size = 0 := by omega
                      rw [e0.1, e0.2] at happ
                      simp [Ft, Arr.size, Arr.app] at happ
                    rcases KY (P := P) (w := w) t t' ty el i z ht ht' hi hz pa qa len ca n c olds l (fun w' hw => hold.first P ca w' hw) (fun w' hw => hsh.first P c w' hw) hby2 h632 with ⟨hr, e⟩ | ⟨hr, cap', hcap, e⟩
                    · rcases h3 with h3 | ⟨loc, hb, rfl, hfit⟩
                      · subst h3
                        obtain rfl : n = 0 := by omega
                        obtain rfl : len = 0 := by omega
                        obtain rfl : l = [] := List.eq_nil_of_length_eq_zero (by rw [hsh.len]; simp)
                        refine ⟨.slice pa 0 0, w, ι, ?_, ⟨pa, 0, rfl, Nat.le_refl _, Nat.le_refl _, .inl rfl⟩, hkill.comp (Rx hkill.r _ (by simp))⟩
                        rw [e]
                        cases pa <;> simp [storeCells]
                      · obtain ⟨cs, tt, fr, k1, k2, k3, k4⟩ := hR.cells hb hm hum
                        obtain ⟨rfl, k5⟩ := k4 rfl
                        have hcn : (len + n) * i.size ≤ ca * i.size := Nat.mul_le_mul_right _ hr
                        rw [Nat.add_mul] at hcn
                        have hst := run_storeCells_at P loc.c (loc.off + o + len * i.size) tt l 0 cs w k1 (by rw [hsh.len]; omega) hl1
                        simp only [Nat.add_zero] at hst
                        simp only [Fk, hst, Result.andThen_ok] at e
                        have hcs' : (cs.toList.take (loc.off + o + len * i.size) ++ l ++ cs.toList.drop (loc.off + o + len * i.size + l.length)).toArray.size = cs.size := by
                          simp; rw [hsh.len]; omega
                        have hg := grow_step (y := zz) (o := o) hR hb hm k1 hcs' O_ O_ (by
                          intro j hj
                          obtain ⟨v', hv', hr'⟩ := hrel j hj
                          refine ⟨v', ?_, hr'⟩
                          rw [← hv']
                          simp only [List.getElem?_toArray]
                          by_cases hj2 : j < len * i.size
                          · rw [List.append_assoc, List.getElem?_append_left (by simp; omega), List.getElem?_take, if_pos O_, List.getElem?_append_left (by rw [hold.len]; exact hj2)]
                            have hj3 : j < olds.length := by rw [hold.len]; exact hj2
                            have h7 : olds[j]? = some (olds[j]'hj3) := List.getElem?_eq_getElem hj3
                            have := hold.cells _ rfl j _ h7
                            rw [Fk, cell_of k1] at this
                            rw [h7, ← this, Array.getElem?_toList]
                          · rw [List.getElem?_append_left (by simp; rw [hsh.len]; omega), List.getElem?_append_right (by simp; omega), List.getElem?_append_right (by rw [hold.len]; omega)]
                            congr 1
                            rw [hold.len]
                            simp; omega) (Arr.app_noMap happ)
                        refine ⟨_, _, _, e, ⟨_, ca, rfl, hr, hr, .inr ⟨_, Emb.upd_eq _ _ _, rfl, ?_⟩⟩, hg.1⟩
                        simp only
                        omega
                    · have hst := Gu (w' := w.drew.alloc (.cells (olds.toArray ++ l.toArray ++ Builtin.zeroCells z.cells (cap' - (len + n))) el)) (x := zz) (t := el) hkill.r (cs := olds.toArray ++ l.toArray ++ Builtin.zeroCells z.cells (cap' - (len + n))) rfl rfl rfl rfl
                        (by simp [hzsize, hsh.len, hold.len]) (by
                          have := Vh hrel (Builtin.zeroCells z.cells (cap' - (len + n)))
                          simpa using this) (Arr.app_noMap happ)
                      simp only [List.length_set] at hst
                      refine ⟨_, _, _, e, ⟨_, cap', rfl, hcap, hcap, .inr ⟨_, Emb.upd_eq _ _ _, rfl, ?_⟩⟩, hkill.comp hst.1⟩
                      simp [hsh.len, hold.len, size_zeroCells, hzs]
                      rw [← Nat.add_mul, ← Nat.add_mul]; apply Nat.le_of_eq; congr 1; omega
                  · cases h
                · cases h
              · cases h
            · cases h
          · cases h
        · cases h
    · cases h
  · cases h
def HX(pl:Nat→Option (Nat×Nat)):Arr→List (Nat×AV)→Option Arr
 |x,[]=>some x
 |x,(i,v)::r=>
  match pl i,v with
  |some (off,sz),.c y=>if sz=1∧y.one=true∧off<x.size then (x.set off y).bind (HX pl · r) else none
  |some (off,sz),.agg y=>if sz=y.size∧off+y.size≤x.size then (x.putW off y).bind (HX pl · r) else none
  |_,_=>none
def MH(ι:Emb):List (Nat×AV)→List (Nat×Value)→Prop
 |[],[]=>True
 |(i,a)::l,(j,v)::m=>i=j∧a.rel ι v∧MH ι l m
 |_,_=>False
theorem cells_one{v:Value}(h:v.oneCell'=true):v.cells= #[v]:=by cases v<;>first | rfl | cases h
theorem Ir{pl:Nat→Option (Nat×Nat)}{ι:Emb}:∀ {parts:List (Nat×AV)} {vs:List (Nat×Value)} {x y:Arr} {cs:Array Value},HX pl x parts=some y→MH ι parts vs→cs.size=x.size→x.relAt ι cs 0→
  ∃cs',Instr.fill pl cs vs=some cs'∧cs'.size=y.size∧y.relAt ι cs' 0
 |[],vs,x,y,cs,h,hp,hs,hr=>by
  cases vs with
  |nil=>cases h;exact ⟨cs,rfl,hs,hr⟩
  |cons=>exact hp.elim
 |(i,a)::l,vs,x,y,cs,h,hp,hs,hr=>by
  cases vs with
  |nil=>exact hp.elim
  |cons p m=>
   obtain ⟨j,v⟩:=p
   obtain ⟨rfl,ha,hp⟩:=hp
   unfold HX at h
   split at h
   ·rename_i off sz c hpl
    split at h
    ·rename_i hc
     obtain ⟨rfl,hone,hlt⟩:=hc
     obtain ⟨x',hx',h⟩:=Option.bind_eq_some_iff.1 h
     obtain ⟨s1,s2⟩:=Arr.set_spec hx'
     have h1:v.oneCell'=true:=Cell.rel_one ha hone
     have hv:=cells_one h1
     have hset:(cs.setIfInBounds off v).size=x'.size:=by simp [s1,hs]
     obtain ⟨cs',hf,r1,r2⟩:=Ir (cs:=cs.setIfInBounds off v) h hp hset (fun k hk=>by
      rw [s1] at hk
      rw [s2 k hk,Nat.zero_add]
      by_cases e:k=off
      ·subst e;rw [if_pos rfl]
       exact ⟨v,by simp [hs,hk],ha⟩
      ·rw [if_neg e]
       obtain ⟨u,hu,hru⟩:=hr k hk
       exact ⟨u,by rw [Array.getElem?_setIfInBounds_ne (fun h=>e h.symm)];rw [Nat.zero_add] at hu;exact hu,hru⟩)
     refine ⟨cs',?_,r1,r2⟩
     unfold Instr.fill
     simp only [hpl,hv]
     rw [if_neg (by simp;omega)]
     rw [←hf]
     simp
    ·cases h
   ·rename_i off sz z hpl
    split at h
    ·rename_i hc
     obtain ⟨rfl,hle⟩:=hc
     obtain ⟨x',hx',h⟩:=Option.bind_eq_some_iff.1 h
     obtain ⟨s1,s2⟩:=Arr.putW_spec hx' hle
     obtain ⟨zs,rfl,hzs,hzr⟩:=ha
     obtain ⟨g1,g2⟩:=Great.foldl_set off zs.toList 0 cs
     obtain ⟨cs',hf,r1,r2⟩:=Ir (cs:=(zs.toList.zipIdx 0).foldl (fun cs (x:Value×Nat)=>cs.setIfInBounds (off+x.2) x.1) cs) h hp (by rw [g1,s1,hs]) (fun k hk=>by
      rw [s1] at hk
      rw [s2 k hk,Nat.zero_add,g2 k]
      by_cases e:off≤k∧k<off+z.size
      ·rw [if_pos e,if_pos ⟨by omega,by simp;omega,by omega⟩]
       obtain ⟨u,hu,hru⟩:=hzr (k-off) O_
       rw [Nat.zero_add] at hu
       refine ⟨u,?_,hru⟩
       rw [Nat.add_zero]
       simpa using hu
      ·rw [if_neg e,if_neg (by simp;omega)]
       obtain ⟨u,hu,hru⟩:=hr k hk
       rw [Nat.zero_add] at hu
       exact ⟨u,hu,hru⟩)
     refine ⟨cs',?_,r1,r2⟩
     unfold Instr.fill
     have e1:(Value.agg zs).cells=zs:=rfl
     simp only [hpl,e1]
     rw [if_neg (by simp;omega)]
     rw [←hf]
     congr 1
     simp only [←Array.foldl_toList,Array.toList_zipIdx]
    ·cases h
   ·cases h
end Go.Proofs.YtmbepikkgkcgkaaGreatDoor
