/- The walk of poly.low. -/
import Derived.Test.YtlphiohgehkjlaaAvTy
namespace Go.Proofs.Ytlphiohgehkjlaa
open Go.RowKit
/-- The bytes from 'o' on as a number, the lowest first. -/
def lowAt (r : List (BitVec 8)) (o : Nat) : Nat → BitVec 64
  | 0 => 0#64
  | k + 1 => lowAt r o k ||| ((nth r (o + k)).setWidth 64 <<< (8 * k))
set_option maxRecDepth 100000 in
theorem low_ev (r : List (BitVec 8)) (o n cap : Nat) (hl : o + n ≤ r.length) (hn : n ≤ 65536) : Ev Try.prog (.call 16 [.c (.sl 0 o n cap 1)] [.row false (.a8 r)]) (.val (.c (.val (U64 (lowAt r o n)))) [.row false (.a8 r)]) := by
  refine c_call Try.func16 rfl Try.ntmps16 rfl LEN_ ?_
  refine S_ ?_
  refine c_region ?_
  refine s_val (v_assignC rfl) rfl ?_
  refine s_nil ?_
  refine S_ ?_
  refine c_region ?_
  refine s_val (v_assignC rfl) rfl ?_
  refine s_nil ?_
  refine S_ ?_
  refine c_region ?_
  first
    | refine s_val (v_moveC rfl) rfl ?_
    | refine s_val (v_moveA rfl) rfl ?_
    | refine s_val (v_moveT rfl) rfl ?_
  first
    | refine s_val (v_lenS rfl Try.underlying23) rfl ?_
    | refine s_val (v_lenN rfl Try.underlying23) rfl ?_
    | refine s_val (v_lenE rfl Try.underlying23) rfl ?_
  refine s_val (v_moveC rfl) rfl ?_
  refine s_nil ?_
  refine S_ ?_
  refine c_clean [2, 3, 6, 7, 8] rfl ?_
  refine c_loop [2, 3, 6, 7, 8] (fun (x : Nat × BitVec 64) => ⟨22, keepT [2, 3, 6, 7, 8] [.c (.val (.int .u64 0)), .c (.val (U64 x.2)), .c (.sl 0 o n cap 1), .c (.val (.int .i64 n)), .c (.val (.int .i64 x.1))], [.row false (.a8 r)]⟩) (fun j => (j, lowAt r o j)) n rfl ?r ?e
  case r =>
    intro j hj
    simp only [lowAt]
    refine S_ ?_
    refine c_region ?_
    first
      | refine s_val (v_lssN rfl rfl) rfl ?_
      | refine s_val (v_lssI rfl rfl) rfl ?_
    refine s_nil ?_
    refine S_ ?_
    refine c_region ?_
    first
      | refine s_val (v_moveC rfl) rfl ?_
      | refine s_val (v_moveA rfl) rfl ?_
      | refine s_val (v_moveT rfl) rfl ?_
    first
      | refine s_val (v_idxS1 rfl rfl Try.underlying23 sz_5 (by omega)) rfl ?_
      | refine s_val (v_idxSo rfl rfl Try.underlying23 sz_5 (by omega)) rfl ?_
      | refine s_val (v_idxS rfl rfl Try.underlying23 sz_5 (by omega)) rfl ?_
    refine s_val (v_load8 rfl rfl row_5 LT_) rfl ?_
    first
      | refine s_val (v_assignC rfl) rfl ?_
      | refine s_val (v_assignA rfl) rfl ?_
      | refine s_val (v_assignT rfl) rfl ?_
    first
      | refine s_val (v_assignC rfl) rfl ?_
      | refine s_val (v_assignA rfl) rfl ?_
      | refine s_val (v_assignT rfl) rfl ?_
    refine s_nil ?_
    refine S_ ?_
    refine c_region ?_
    first
      | refine s_val (v_moveC rfl) rfl ?_
      | refine s_val (v_moveA rfl) rfl ?_
      | refine s_val (v_moveT rfl) rfl ?_
    first
      | refine s_val (v_moveC rfl) rfl ?_
      | refine s_val (v_moveA rfl) rfl ?_
      | refine s_val (v_moveT rfl) rfl ?_
    refine s_val (v_conv rfl Try.underlying5 Try.underlying36 (w8_64 _)) rfl ?_
    first
      | refine s_val (v_moveC rfl) rfl ?_
      | refine s_val (v_moveA rfl) rfl ?_
      | refine s_val (v_moveT rfl) rfl ?_
    refine s_val (v_mulN (a := 8) rfl rfl (by omega)) rfl ?_
    refine s_val (v_shl64n rfl rfl) rfl ?_
    refine s_val (v_or64 rfl rfl) rfl ?_
    first
      | refine s_val (v_assignC rfl) rfl ?_
      | refine s_val (v_assignA rfl) rfl ?_
      | refine s_val (v_assignT rfl) rfl ?_
    refine s_nil ?_
    refine S_ ?_
    refine c_region ?_
    first
      | refine s_val (v_addN (b := 1) rfl rfl (by omega)) rfl ?_
      | refine s_val (v_addI rfl rfl (by omega)) rfl ?_
    first
      | refine s_val (v_moveC rfl) rfl ?_
      | refine s_val (v_moveA rfl) rfl ?_
      | refine s_val (v_moveT rfl) rfl ?_
    refine s_nil ?_
    exact ⟨_, by kernel_rfl, rfl⟩
  case e =>
    dsimp only
    refine S_ ?_
    refine c_region ?_
    first
      | refine s_val (v_lssN rfl rfl) rfl ?_
      | refine s_val (v_lssI rfl rfl) rfl ?_
    refine s_nil ?_
    refine S_ ?_
    refine S_ ?_
    refine c_region ?_
    first
      | refine s_val (v_moveC rfl) rfl ?_
      | refine s_val (v_moveA rfl) rfl ?_
      | refine s_val (v_moveT rfl) rfl ?_
    first
      | refine s_val (v_assignC rfl) rfl ?_
      | refine s_val (v_assignA rfl) rfl ?_
      | refine s_val (v_assignT rfl) rfl ?_
    refine s_nil ?_
    refine S_ ?_
    exact k_1 (by first | exact r_tmpC rfl | exact r_tmpA rfl) (by first | kernel_rfl | rfl)
end Go.Proofs.Ytlphiohgehkjlaa
