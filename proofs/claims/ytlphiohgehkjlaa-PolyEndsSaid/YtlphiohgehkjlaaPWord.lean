/- The walk of poly.word26. -/
import Derived.Test.YtlphiohgehkjlaaPLow
namespace Go.Proofs.Ytlphiohgehkjlaa
open Go.RowKit
/-- The 26 bits from the bit 'i' on. -/
def wordAt (r : List (BitVec 8)) (i : Nat) : BitVec 64 := (lowAt r (i / 8) (min (i / 8 + 5) r.length - i / 8) >>> (i % 8)) &&& 67108863#64
set_option maxRecDepth 100000 in
theorem word26_ev (r : List (BitVec 8)) (n cap i : Nat) (hl : r.length = n) (hn : n ≤ 65536) (hi : i / 8 ≤ n) : Ev Try.prog (.call 12 [.c (.sl 0 0 n cap 1), .c (.val (.int .i64 i))] [.row false (.a8 r)]) (.val (.c (.val (U64 (wordAt r i)))) [.row false (.a8 r)]) := by
  subst hl
  refine c_call Try.func12 rfl Try.ntmps12 rfl LEN_ ?_
  refine S_ ?_
  refine c_region ?_
  refine s_val (v_assignC rfl) rfl ?_
  refine s_nil ?_
  refine S_ ?_
  refine c_region ?_
  first
    | refine s_val (v_moveC rfl) rfl ?_
    | refine s_val (v_moveA rfl) rfl ?_
    | refine s_val (v_moveT rfl) rfl ?_
  first
    | refine s_val (v_moveC rfl) rfl ?_
    | refine s_val (v_moveA rfl) rfl ?_
    | refine s_val (v_moveT rfl) rfl ?_
  refine s_val (v_quoN (b := 8) rfl rfl (by omega) (by omega)) rfl ?_
  first
    | refine s_val (v_moveC rfl) rfl ?_
    | refine s_val (v_moveA rfl) rfl ?_
    | refine s_val (v_moveT rfl) rfl ?_
  refine s_val (v_quoN (b := 8) rfl rfl (by omega) (by omega)) rfl ?_
  first
    | refine s_val (v_addN (b := 5) rfl rfl (by omega)) rfl ?_
    | refine s_val (v_addI rfl rfl (by omega)) rfl ?_
  first
    | refine s_val (v_moveC rfl) rfl ?_
    | refine s_val (v_moveA rfl) rfl ?_
    | refine s_val (v_moveT rfl) rfl ?_
  first
    | refine s_val (v_lenS rfl Try.underlying23) rfl ?_
    | refine s_val (v_lenN rfl Try.underlying23) rfl ?_
    | refine s_val (v_lenE rfl Try.underlying23) rfl ?_
  refine s_val (v_minN rfl rfl) rfl ?_
  first
    | refine s_val (v_slS1 rfl Try.underlying23 sz_5 rfl rfl (by omega) (by omega)) rfl ?_
    | refine s_val (v_slSo rfl Try.underlying23 sz_5 rfl rfl (by omega) (by omega)) rfl ?_
  refine s_evN (e_callR (low_ev r _ _ _ (by omega) (by omega)) ok_16 rfl rfl rfl VAL_) APP_ rfl ?_
  first
    | refine s_val (v_moveC rfl) rfl ?_
    | refine s_val (v_moveA rfl) rfl ?_
    | refine s_val (v_moveT rfl) rfl ?_
  refine s_val (v_remN (b := 8) rfl rfl (by omega) (by omega)) rfl ?_
  refine s_val (v_shr64n rfl rfl) rfl ?_
  refine s_val (v_and64 (b := 67108863#64) rfl rfl) rfl ?_
  first
    | refine s_val (v_assignC rfl) rfl ?_
    | refine s_val (v_assignA rfl) rfl ?_
    | refine s_val (v_assignT rfl) rfl ?_
  refine s_nil ?_
  refine S_ ?_
  exact k_1 (by first | exact r_tmpC rfl | exact r_tmpA rfl) (by first | kernel_rfl | rfl)
end Go.Proofs.Ytlphiohgehkjlaa
