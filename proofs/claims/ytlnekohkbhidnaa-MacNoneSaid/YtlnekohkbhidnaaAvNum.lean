/- Abstract data: further operations on numbers. (Printed by a program.) -/
import Derived.Test.YtlnekohkbhidnaaAvTac
namespace Go.Proofs.Ytlnekohkbhidnaa
open Go.RowKit
section
variable {t : TypeId}
theorem lss8' (x y : BitVec 8) : binOp .lss t (U8 x) (U8 y) = (pure (.bool (decide (x.toNat < y.toNat))) : Sem Value) := by
  show (pure (Value.bool (decide ((x.toNat : Int) < (y.toNat : Int)))) : Sem Value) = _
  congr 2; exact decide_eq_decide.2 (by omega)
theorem leq8' (x y : BitVec 8) : binOp .leq t (U8 x) (U8 y) = (pure (.bool (decide (x.toNat ≤ y.toNat))) : Sem Value) := by
  show (pure (Value.bool (decide ((x.toNat : Int) ≤ (y.toNat : Int)))) : Sem Value) = _
  congr 2; exact decide_eq_decide.2 (by omega)
theorem gtr8' (x y : BitVec 8) : binOp .gtr t (U8 x) (U8 y) = (pure (.bool (decide (y.toNat < x.toNat))) : Sem Value) := by
  show (pure (Value.bool (decide ((y.toNat : Int) < (x.toNat : Int)))) : Sem Value) = _
  congr 2; exact decide_eq_decide.2 (by omega)
theorem geq8' (x y : BitVec 8) : binOp .geq t (U8 x) (U8 y) = (pure (.bool (decide (y.toNat ≤ x.toNat))) : Sem Value) := by
  show (pure (Value.bool (decide ((y.toNat : Int) ≤ (x.toNat : Int)))) : Sem Value) = _
  congr 2; exact decide_eq_decide.2 (by omega)
theorem quo8' (x y : BitVec 8) (h : 0 < y.toNat) : binOp .quo t (U8 x) (U8 y) = (pure (U8 (x / y)) : Sem Value) := by
  show binOp .quo t (.int .u8 (x.toNat : Int)) (.int .u8 (y.toNat : Int)) = (pure (Value.int .u8 ((x / y).toNat : Int)) : Sem Value)
  rw [binOp_quo, Op.intDiv, if_neg (by omega)]
  show (pure (Value.int .u8 (IntKind.u8.wrap ((x.toNat / y.toNat : Nat) : Int))) : Sem Value) = _
  rw [BitVec.toNat_udiv]
  have h1 := Nat.div_le_self x.toNat y.toNat
  have h2 := x.isLt
  rw [wi_8]
  show (pure (Value.int .u8 ((BitVec.ofNat 8 (x.toNat / y.toNat)).toNat : Int)) : Sem Value) = _
  rw [BitVec.toNat_ofNat, Nat.mod_eq_of_lt (by omega)]
theorem rem8' (x y : BitVec 8) (h : 0 < y.toNat) : binOp .rem t (U8 x) (U8 y) = (pure (U8 (x % y)) : Sem Value) := by
  show binOp .rem t (.int .u8 (x.toNat : Int)) (.int .u8 (y.toNat : Int)) = (pure (Value.int .u8 ((x % y).toNat : Int)) : Sem Value)
  rw [binOp_rem, Op.intDiv, if_neg (by omega)]
  show (pure (Value.int .u8 ((x.toNat % y.toNat : Nat) : Int)) : Sem Value) = _
  rw [BitVec.toNat_umod]
theorem lss32' (x y : BitVec 32) : binOp .lss t (U32 x) (U32 y) = (pure (.bool (decide (x.toNat < y.toNat))) : Sem Value) := by
  show (pure (Value.bool (decide ((x.toNat : Int) < (y.toNat : Int)))) : Sem Value) = _
  congr 2; exact decide_eq_decide.2 (by omega)
theorem leq32' (x y : BitVec 32) : binOp .leq t (U32 x) (U32 y) = (pure (.bool (decide (x.toNat ≤ y.toNat))) : Sem Value) := by
  show (pure (Value.bool (decide ((x.toNat : Int) ≤ (y.toNat : Int)))) : Sem Value) = _
  congr 2; exact decide_eq_decide.2 (by omega)
theorem gtr32' (x y : BitVec 32) : binOp .gtr t (U32 x) (U32 y) = (pure (.bool (decide (y.toNat < x.toNat))) : Sem Value) := by
  show (pure (Value.bool (decide ((y.toNat : Int) < (x.toNat : Int)))) : Sem Value) = _
  congr 2; exact decide_eq_decide.2 (by omega)
theorem geq32' (x y : BitVec 32) : binOp .geq t (U32 x) (U32 y) = (pure (.bool (decide (y.toNat ≤ x.toNat))) : Sem Value) := by
  show (pure (Value.bool (decide ((y.toNat : Int) ≤ (x.toNat : Int)))) : Sem Value) = _
  congr 2; exact decide_eq_decide.2 (by omega)
theorem eql32' (x y : BitVec 32) : binOp .eql t (U32 x) (U32 y) = (pure (.bool (x == y)) : Sem Value) := by
  show (pure (Value.bool ((x.toNat : Int) == (y.toNat : Int))) : Sem Value) = _
  rw [beqNat]
theorem neq32' (x y : BitVec 32) : binOp .neq t (U32 x) (U32 y) = (pure (.bool (x != y)) : Sem Value) := by
  show (pure (Value.bool ((x.toNat : Int) != (y.toNat : Int))) : Sem Value) = _
  rw [bneNat]
theorem quo32' (x y : BitVec 32) (h : 0 < y.toNat) : binOp .quo t (U32 x) (U32 y) = (pure (U32 (x / y)) : Sem Value) := by
  show binOp .quo t (.int .u32 (x.toNat : Int)) (.int .u32 (y.toNat : Int)) = (pure (Value.int .u32 ((x / y).toNat : Int)) : Sem Value)
  rw [binOp_quo, Op.intDiv, if_neg (by omega)]
  show (pure (Value.int .u32 (IntKind.u32.wrap ((x.toNat / y.toNat : Nat) : Int))) : Sem Value) = _
  rw [BitVec.toNat_udiv]
  have h1 := Nat.div_le_self x.toNat y.toNat
  have h2 := x.isLt
  rw [wi_32]
  show (pure (Value.int .u32 ((BitVec.ofNat 32 (x.toNat / y.toNat)).toNat : Int)) : Sem Value) = _
  rw [BitVec.toNat_ofNat, Nat.mod_eq_of_lt (by omega)]
theorem rem32' (x y : BitVec 32) (h : 0 < y.toNat) : binOp .rem t (U32 x) (U32 y) = (pure (U32 (x % y)) : Sem Value) := by
  show binOp .rem t (.int .u32 (x.toNat : Int)) (.int .u32 (y.toNat : Int)) = (pure (Value.int .u32 ((x % y).toNat : Int)) : Sem Value)
  rw [binOp_rem, Op.intDiv, if_neg (by omega)]
  show (pure (Value.int .u32 ((x.toNat % y.toNat : Nat) : Int)) : Sem Value) = _
  rw [BitVec.toNat_umod]
theorem lss64' (x y : BitVec 64) : binOp .lss t (U64 x) (U64 y) = (pure (.bool (decide (x.toNat < y.toNat))) : Sem Value) := by
  show (pure (Value.bool (decide ((x.toNat : Int) < (y.toNat : Int)))) : Sem Value) = _
  congr 2; exact decide_eq_decide.2 (by omega)
theorem leq64' (x y : BitVec 64) : binOp .leq t (U64 x) (U64 y) = (pure (.bool (decide (x.toNat ≤ y.toNat))) : Sem Value) := by
  show (pure (Value.bool (decide ((x.toNat : Int) ≤ (y.toNat : Int)))) : Sem Value) = _
  congr 2; exact decide_eq_decide.2 (by omega)
theorem gtr64' (x y : BitVec 64) : binOp .gtr t (U64 x) (U64 y) = (pure (.bool (decide (y.toNat < x.toNat))) : Sem Value) := by
  show (pure (Value.bool (decide ((y.toNat : Int) < (x.toNat : Int)))) : Sem Value) = _
  congr 2; exact decide_eq_decide.2 (by omega)
theorem geq64' (x y : BitVec 64) : binOp .geq t (U64 x) (U64 y) = (pure (.bool (decide (y.toNat ≤ x.toNat))) : Sem Value) := by
  show (pure (Value.bool (decide ((y.toNat : Int) ≤ (x.toNat : Int)))) : Sem Value) = _
  congr 2; exact decide_eq_decide.2 (by omega)
theorem quo64' (x y : BitVec 64) (h : 0 < y.toNat) : binOp .quo t (U64 x) (U64 y) = (pure (U64 (x / y)) : Sem Value) := by
  show binOp .quo t (.int .u64 (x.toNat : Int)) (.int .u64 (y.toNat : Int)) = (pure (Value.int .u64 ((x / y).toNat : Int)) : Sem Value)
  rw [binOp_quo, Op.intDiv, if_neg (by omega)]
  show (pure (Value.int .u64 (IntKind.u64.wrap ((x.toNat / y.toNat : Nat) : Int))) : Sem Value) = _
  rw [BitVec.toNat_udiv]
  have h1 := Nat.div_le_self x.toNat y.toNat
  have h2 := x.isLt
  rw [wi_64]
  show (pure (Value.int .u64 ((BitVec.ofNat 64 (x.toNat / y.toNat)).toNat : Int)) : Sem Value) = _
  rw [BitVec.toNat_ofNat, Nat.mod_eq_of_lt (by omega)]
theorem rem64' (x y : BitVec 64) (h : 0 < y.toNat) : binOp .rem t (U64 x) (U64 y) = (pure (U64 (x % y)) : Sem Value) := by
  show binOp .rem t (.int .u64 (x.toNat : Int)) (.int .u64 (y.toNat : Int)) = (pure (Value.int .u64 ((x % y).toNat : Int)) : Sem Value)
  rw [binOp_rem, Op.intDiv, if_neg (by omega)]
  show (pure (Value.int .u64 ((x.toNat % y.toNat : Nat) : Int)) : Sem Value) = _
  rw [BitVec.toNat_umod]
theorem shl8w' (x : BitVec 8) (y : BitVec 64) : binOp .shl t (U8 x) (U64 y) = (pure (U8 (x <<< y.toNat)) : Sem Value) := shl8 x .u64 (tn y) (tn_nonneg y)
theorem shr8w' (x : BitVec 8) (y : BitVec 64) : binOp .shr t (U8 x) (U64 y) = (pure (U8 (x >>> y.toNat)) : Sem Value) := shr8 x .u64 (tn y) (tn_nonneg y)
theorem w64_64 (x : BitVec 64) : IntKind.u64.wrap (tn x) = tn x := by rw [wrapU64]; unfold tn; rw [ofInt_wide]; simp
theorem wI_64 (i : Int) : IntKind.u64.wrap i = tn (BitVec.ofInt 64 i) := wrapU64 i
theorem w32_32 (x : BitVec 32) : IntKind.u32.wrap (tn x) = tn x := by rw [wrapU32]; unfold tn; rw [ofInt_wide]; simp
theorem w8_8 (x : BitVec 8) : IntKind.u8.wrap (tn x) = tn x := by rw [wrapU8]; unfold tn; rw [ofInt_wide]; simp
theorem w32_i (x : BitVec 32) : IntKind.i64.wrap (tn x) = ((x.toNat : Nat) : Int) := IntWalk.i64_in _ (by unfold tn; have := x.isLt; omega)
theorem w64_i (x : BitVec 64) (h : x.toNat ≤ 9223372036854775807) : IntKind.i64.wrap (tn x) = ((x.toNat : Nat) : Int) := IntWalk.i64_in _ (by unfold tn; omega)
theorem wi_i (n : Nat) (h : n ≤ 9223372036854775807) : IntKind.i64.wrap (n : Int) = (n : Int) := IntWalk.i64_in _ (by omega)
end
section
variable {P : Program} {k N : Nat} {ops : Array Oper} {d : Nat} {ty : TypeId} {pos : String} {af : Array Edge} {l0 : List Oper} {T : Nat → AV} {M M' : Mem} {K : St → Prop} {t t' : TypeId} {x y : Operand}
theorem v_lss8 {a b : BitVec 8} (hx : opnd T x = .c (.val (U8 a))) (hy : opnd T y = .c (.val (U8 b))) : evVal P (opnd T) M (.binOp .lss t x y t') = some (.c (.val (.bool (decide (a.toNat < b.toNat))))) := v_bin hx hy (lss8' a b)
theorem v_leq8 {a b : BitVec 8} (hx : opnd T x = .c (.val (U8 a))) (hy : opnd T y = .c (.val (U8 b))) : evVal P (opnd T) M (.binOp .leq t x y t') = some (.c (.val (.bool (decide (a.toNat ≤ b.toNat))))) := v_bin hx hy (leq8' a b)
theorem v_gtr8 {a b : BitVec 8} (hx : opnd T x = .c (.val (U8 a))) (hy : opnd T y = .c (.val (U8 b))) : evVal P (opnd T) M (.binOp .gtr t x y t') = some (.c (.val (.bool (decide (b.toNat < a.toNat))))) := v_bin hx hy (gtr8' a b)
theorem v_geq8 {a b : BitVec 8} (hx : opnd T x = .c (.val (U8 a))) (hy : opnd T y = .c (.val (U8 b))) : evVal P (opnd T) M (.binOp .geq t x y t') = some (.c (.val (.bool (decide (b.toNat ≤ a.toNat))))) := v_bin hx hy (geq8' a b)
theorem v_quo8 {a b : BitVec 8} (hx : opnd T x = .c (.val (U8 a))) (hy : opnd T y = .c (.val (U8 b))) (h : 0 < b.toNat) : evVal P (opnd T) M (.binOp .quo t x y t') = some (.c (.val (U8 (a / b)))) := v_bin hx hy (quo8' a b h)
theorem v_rem8 {a b : BitVec 8} (hx : opnd T x = .c (.val (U8 a))) (hy : opnd T y = .c (.val (U8 b))) (h : 0 < b.toNat) : evVal P (opnd T) M (.binOp .rem t x y t') = some (.c (.val (U8 (a % b)))) := v_bin hx hy (rem8' a b h)
theorem v_lss32 {a b : BitVec 32} (hx : opnd T x = .c (.val (U32 a))) (hy : opnd T y = .c (.val (U32 b))) : evVal P (opnd T) M (.binOp .lss t x y t') = some (.c (.val (.bool (decide (a.toNat < b.toNat))))) := v_bin hx hy (lss32' a b)
theorem v_leq32 {a b : BitVec 32} (hx : opnd T x = .c (.val (U32 a))) (hy : opnd T y = .c (.val (U32 b))) : evVal P (opnd T) M (.binOp .leq t x y t') = some (.c (.val (.bool (decide (a.toNat ≤ b.toNat))))) := v_bin hx hy (leq32' a b)
theorem v_gtr32 {a b : BitVec 32} (hx : opnd T x = .c (.val (U32 a))) (hy : opnd T y = .c (.val (U32 b))) : evVal P (opnd T) M (.binOp .gtr t x y t') = some (.c (.val (.bool (decide (b.toNat < a.toNat))))) := v_bin hx hy (gtr32' a b)
theorem v_geq32 {a b : BitVec 32} (hx : opnd T x = .c (.val (U32 a))) (hy : opnd T y = .c (.val (U32 b))) : evVal P (opnd T) M (.binOp .geq t x y t') = some (.c (.val (.bool (decide (b.toNat ≤ a.toNat))))) := v_bin hx hy (geq32' a b)
theorem v_eql32 {a b : BitVec 32} (hx : opnd T x = .c (.val (U32 a))) (hy : opnd T y = .c (.val (U32 b))) : evVal P (opnd T) M (.binOp .eql t x y t') = some (.c (.val (.bool (a == b)))) := v_bin hx hy (eql32' a b)
theorem v_neq32 {a b : BitVec 32} (hx : opnd T x = .c (.val (U32 a))) (hy : opnd T y = .c (.val (U32 b))) : evVal P (opnd T) M (.binOp .neq t x y t') = some (.c (.val (.bool (a != b)))) := v_bin hx hy (neq32' a b)
theorem v_quo32 {a b : BitVec 32} (hx : opnd T x = .c (.val (U32 a))) (hy : opnd T y = .c (.val (U32 b))) (h : 0 < b.toNat) : evVal P (opnd T) M (.binOp .quo t x y t') = some (.c (.val (U32 (a / b)))) := v_bin hx hy (quo32' a b h)
theorem v_rem32 {a b : BitVec 32} (hx : opnd T x = .c (.val (U32 a))) (hy : opnd T y = .c (.val (U32 b))) (h : 0 < b.toNat) : evVal P (opnd T) M (.binOp .rem t x y t') = some (.c (.val (U32 (a % b)))) := v_bin hx hy (rem32' a b h)
theorem v_lss64 {a b : BitVec 64} (hx : opnd T x = .c (.val (U64 a))) (hy : opnd T y = .c (.val (U64 b))) : evVal P (opnd T) M (.binOp .lss t x y t') = some (.c (.val (.bool (decide (a.toNat < b.toNat))))) := v_bin hx hy (lss64' a b)
theorem v_leq64 {a b : BitVec 64} (hx : opnd T x = .c (.val (U64 a))) (hy : opnd T y = .c (.val (U64 b))) : evVal P (opnd T) M (.binOp .leq t x y t') = some (.c (.val (.bool (decide (a.toNat ≤ b.toNat))))) := v_bin hx hy (leq64' a b)
theorem v_gtr64 {a b : BitVec 64} (hx : opnd T x = .c (.val (U64 a))) (hy : opnd T y = .c (.val (U64 b))) : evVal P (opnd T) M (.binOp .gtr t x y t') = some (.c (.val (.bool (decide (b.toNat < a.toNat))))) := v_bin hx hy (gtr64' a b)
theorem v_geq64 {a b : BitVec 64} (hx : opnd T x = .c (.val (U64 a))) (hy : opnd T y = .c (.val (U64 b))) : evVal P (opnd T) M (.binOp .geq t x y t') = some (.c (.val (.bool (decide (b.toNat ≤ a.toNat))))) := v_bin hx hy (geq64' a b)
theorem v_quo64 {a b : BitVec 64} (hx : opnd T x = .c (.val (U64 a))) (hy : opnd T y = .c (.val (U64 b))) (h : 0 < b.toNat) : evVal P (opnd T) M (.binOp .quo t x y t') = some (.c (.val (U64 (a / b)))) := v_bin hx hy (quo64' a b h)
theorem v_rem64 {a b : BitVec 64} (hx : opnd T x = .c (.val (U64 a))) (hy : opnd T y = .c (.val (U64 b))) (h : 0 < b.toNat) : evVal P (opnd T) M (.binOp .rem t x y t') = some (.c (.val (U64 (a % b)))) := v_bin hx hy (rem64' a b h)
theorem v_shl8w {a : BitVec 8} {b : BitVec 64} (hx : opnd T x = .c (.val (U8 a))) (hy : opnd T y = .c (.val (U64 b))) : evVal P (opnd T) M (.binOp .shl t x y t') = some (.c (.val (U8 (a <<< b.toNat)))) := v_bin hx hy (shl8w' a b)
theorem v_shr8w {a : BitVec 8} {b : BitVec 64} (hx : opnd T x = .c (.val (U8 a))) (hy : opnd T y = .c (.val (U64 b))) : evVal P (opnd T) M (.binOp .shr t x y t') = some (.c (.val (U8 (a >>> b.toNat)))) := v_bin hx hy (shr8w' a b)
/-- Numbers of Nat as the cells of a row. -/
def natI (l : List Nat) : List Int := l.map Int.ofNat
def ntn (l : List Nat) (i : Nat) : Nat := l.getD i 0
def putn (l : List Nat) (i v : Nat) : List Nat := l.set i v
theorem natI_length (l : List Nat) : (natI l).length = l.length := by simp [natI]
@[simp] theorem putn_length (l : List Nat) (i v : Nat) : (putn l i v).length = l.length := by simp [putn]
theorem geti_natI (l : List Nat) (i : Nat) : geti (natI l) i = ((ntn l i : Nat) : Int) := by
  unfold geti natI ntn
  simp only [List.getD_eq_getElem?_getD, List.getElem?_map]
  cases l[i]? <;> rfl
theorem puti_natI (l : List Nat) (i v : Nat) : puti (natI l) i (v : Int) = natI (putn l i v) := by
  unfold puti natI putn
  rw [List.map_set]; rfl
theorem ntn_putn (l : List Nat) (i j v : Nat) (h : i < l.length) : ntn (putn l i v) j = if i = j then v else ntn l j := by
  unfold ntn putn
  simp only [List.getD_eq_getElem?_getD, List.getElem?_set]
  by_cases e : i = j
  · subst e; simp [h]
  · simp [e]
theorem putn_again (l : List Nat) (k x y : Nat) : putn (putn l k x) k y = putn l k y := by simp [putn]
theorem v_loadN {a : Operand} {b o : Nat} {own : Bool} {x : List Nat} (ha : opnd T a = .c (.ptr b o)) (hm : M[b]? = some (.row own (.ai (natI x)))) (hr : isRowT P t = some false) (ho : o < x.length) : evVal P (opnd T) M (.load t a) = some (.c (.val (.int .i64 ((ntn x o : Nat) : Int)))) := by
  rw [v_loadI ha hm hr (by rw [natI_length]; exact ho), geti_natI]
theorem s_storeN {a v : Operand} {b o : Nat} {x : List Nat} {w : Nat} (ha : opnd T a = .c (.ptr b o)) (hv : opnd T v = .c (.val (.int .i64 (w : Int)))) (hm : M[b]? = some (.row true (.ai (natI x)))) (hs : szT P t = some 1) (ho : o < x.length) (hM : M.set b (.row true (.ai (natI (putn x o w)))) = M')
    (hk : WO P k ops l0 ⟨N, T, M'⟩ K) : WO P k ops (⟨none, .store t a v, ty, pos, af, none⟩ :: l0) ⟨N, T, M⟩ K :=
  s_storeI ha hv hm hs (by rw [natI_length]; exact ho) (by rw [puti_natI]; exact hM) hk
end
end Go.Proofs.Ytlnekohkbhidnaa
