/- math/bits.RotateLeft32 (Drawn up by a program.) -/
import Derived.Test.YtlnekohkbhidnaaAvTy
namespace Go.Proofs.Ytlnekohkbhidnaa
open Go.RowKit
def rotl32 (x : BitVec 32) (k : Int) : BitVec 32 := (x <<< ((BitVec.ofInt 64 k) &&& 31#64).toNat) ||| (x >>> (32#64 - ((BitVec.ofInt 64 k) &&& 31#64)).toNat)
set_option maxRecDepth 100000 in
set_option maxHeartbeats 2000000 in
theorem rotl32_ev (x : BitVec 32) (k : Int)  : Ev Try.prog (.call 20 [.c (.val (U32 x)), .c (.val (.int .i64 k))] []) (.val (.c (.val (U32 (rotl32 x k)))) []) := by
  have hP : Hid (rotl32 x k = (x <<< ((BitVec.ofInt 64 k) &&& 31#64).toNat) ||| (x >>> (32#64 - ((BitVec.ofInt 64 k) &&& 31#64)).toNat)) := ⟨rfl⟩
  refine c_call Try.func20 rfl Try.ntmps20 rfl LEN_ ?_
  refine S_ ?_
  refine c_region ?_
  refine s_val (v_assignC rfl) rfl ?_
  refine s_nil ?_
  refine S_ ?_
  refine c_region ?_
  refine s_val (v_moveC rfl) rfl ?_
  refine s_val (v_conv rfl Try.underlying3 Try.underlying45 (wI_64 _)) rfl ?_
  refine s_val (v_and64 (b := 31#64) rfl rfl) rfl ?_
  refine s_val (v_assignC rfl) rfl ?_
  refine s_nil ?_
  refine S_ ?_
  refine c_region ?_
  refine s_val (v_moveC rfl) rfl ?_
  refine s_val (v_moveC rfl) rfl ?_
  refine s_val (v_shl32w rfl rfl) rfl ?_
  refine s_val (v_moveC rfl) rfl ?_
  refine s_val (v_moveC rfl) rfl ?_
  refine s_val (v_sub64 (a := 32#64) rfl rfl) rfl ?_
  refine s_val (v_shr32w rfl rfl) rfl ?_
  refine s_val (v_or32 rfl rfl) rfl ?_
  refine s_val (v_assignC rfl) rfl ?_
  refine s_nil ?_
  refine S_ ?_
  rw [hP.out]
  exact k_1 (by first | exact r_tmpC rfl | exact r_tmpA rfl) (by first | kernel_rfl | rfl)

attribute [irreducible] rotl32
end Go.Proofs.Ytlnekohkbhidnaa
