/- trystlaw01.wakes (Drawn up by a program.) -/
import Derived.Test.YtgjilodkdgcoaaaSSame
namespace Go.Proofs.Ytgjilodkdgcoaaa
open Go.RowKit
def wkA : List (BitVec 8) := [186#8, 120#8, 22#8, 191#8, 143#8, 1#8, 207#8, 234#8, 65#8, 65#8, 64#8, 222#8, 93#8, 174#8, 34#8, 35#8, 176#8, 3#8, 97#8, 163#8, 150#8, 23#8, 122#8, 156#8, 180#8, 16#8, 255#8, 97#8, 242#8, 0#8, 21#8, 173#8]
def wkB : List (BitVec 8) := [221#8, 175#8, 53#8, 161#8, 147#8, 97#8, 122#8, 186#8, 204#8, 65#8, 115#8, 73#8, 174#8, 32#8, 65#8, 49#8, 18#8, 230#8, 250#8, 78#8, 137#8, 169#8, 126#8, 162#8, 10#8, 158#8, 238#8, 230#8, 75#8, 85#8, 211#8, 154#8, 33#8, 146#8, 153#8, 42#8, 39#8, 79#8, 193#8, 168#8, 54#8, 186#8, 60#8, 35#8, 163#8, 254#8, 235#8, 189#8, 69#8, 77#8, 68#8, 35#8, 100#8, 60#8, 232#8, 14#8, 42#8, 154#8, 201#8, 79#8, 165#8, 76#8, 164#8, 159#8]
theorem wkA_eq : sha256 [97#8, 98#8, 99#8] = wkA := by kernel_rfl
theorem wkB_eq : sha512 [97#8, 98#8, 99#8] = wkB := by kernel_rfl
theorem wkA_ev : Ev Try.prog (.call 9 [.c (.sl 0 0 3 3 1)] [.row false (.a8 [97#8, 98#8, 99#8])]) (.val (.agg (.a8 wkA)) [.row false (.a8 [97#8, 98#8, 99#8])]) := by
  rw [← wkA_eq]
  exact sha256_evS [97#8, 98#8, 99#8] 3 3 rfl (by decide)
theorem wkB_ev : Ev Try.prog (.call 11 [.c (.sl 0 0 3 3 1)] [.row false (.a8 [97#8, 98#8, 99#8])]) (.val (.agg (.a8 wkB)) [.row false (.a8 [97#8, 98#8, 99#8])]) := by
  rw [← wkB_eq]
  exact sha512_evS [97#8, 98#8, 99#8] 3 3 rfl (by decide)

set_option maxRecDepth 100000 in
set_option maxHeartbeats 2000000 in
theorem wakes_ev   : Ev Try.prog (.call 14 [] []) (.val (.c (.val (.bool (true)))) []) := by
  refine c_call Try.func14 rfl Try.ntmps14 rfl LEN_ ?_
  refine S_ ?_
  refine c_region ?_
  refine s_val (v_assignC rfl) rfl ?_
  refine s_nil ?_
  refine S_ ?_
  refine c_region ?_
  refine s_memN (m_bs8 (l := [97#8, 98#8, 99#8]) Try.underlying22 el_5 rfl rfl (by decide) (by decide) LEN_) APP_ rfl ?_
  refine s_mark rfl Try.underlying22 Try.underlying5 rfl rfl (by decide) LEN_ KILL_ rfl ?_
  refine s_evN (e_callR (wkA_ev) ok_9 rfl rfl rfl VAL_) APP_ rfl ?_
  refine s_memN (m_bs8 (l := [97#8, 98#8, 99#8]) Try.underlying22 el_5 rfl rfl (by decide) (by decide) LEN_) APP_ rfl ?_
  refine s_mark rfl Try.underlying22 Try.underlying5 rfl rfl (by decide) LEN_ KILL_ rfl ?_
  refine s_evN (e_callR (wkB_ev) ok_11 rfl rfl rfl VAL_) APP_ rfl ?_
  refine s_memN (m_alloc al_24 LEN_) APP_ rfl ?_
  refine s_memN (m_alloc al_26 LEN_) APP_ rfl ?_
  refine s_storeR rfl rfl rfl rfl sz_24 EQ_ EQ_ SET_ ?_
  refine s_storeR rfl rfl rfl rfl sz_26 EQ_ EQ_ SET_ ?_
  refine s_nil ?_
  have hQ1 : (wkA).length = 32 := LQ_
  have hQ2 : (wkB).length = 64 := LQ_
  refine S_ ?_
  refine c_region ?_
  refine s_val (v_idxA1 (j := 0) rfl rfl Try.underlying24 sz_5 (by omega)) rfl ?_
  refine s_val (v_load8 rfl rfl row_5 LT_) rfl ?_
  refine s_val (v_eql8 (b := 186#8) rfl rfl) rfl ?_
  refine s_val (v_moveC rfl) rfl ?_
  refine s_go GO_ ?_
  refine s_val (v_idxA1 (j := 1) rfl rfl Try.underlying24 sz_5 (by omega)) rfl ?_
  refine s_go GO_ ?_
  refine s_val (v_load8 rfl rfl row_5 LT_) rfl ?_
  refine s_go GO_ ?_
  refine s_val (v_eql8 (b := 120#8) rfl rfl) rfl ?_
  refine s_val (v_pickT rfl PK_ rfl) rfl ?_
  refine s_val (v_moveC rfl) rfl ?_
  refine s_go GO_ ?_
  refine s_val (v_idxA1 (j := 31) rfl rfl Try.underlying24 sz_5 (by omega)) rfl ?_
  refine s_go GO_ ?_
  refine s_val (v_load8 rfl rfl row_5 LT_) rfl ?_
  refine s_go GO_ ?_
  refine s_val (v_eql8 (b := 173#8) rfl rfl) rfl ?_
  refine s_val (v_pickT rfl PK_ rfl) rfl ?_
  refine s_val (v_moveC rfl) rfl ?_
  refine s_go GO_ ?_
  refine s_val (v_idxA1 (j := 0) rfl rfl Try.underlying26 sz_5 (by omega)) rfl ?_
  refine s_go GO_ ?_
  refine s_val (v_load8 rfl rfl row_5 LT_) rfl ?_
  refine s_go GO_ ?_
  refine s_val (v_eql8 (b := 221#8) rfl rfl) rfl ?_
  refine s_val (v_pickT rfl PK_ rfl) rfl ?_
  refine s_val (v_moveC rfl) rfl ?_
  refine s_go GO_ ?_
  refine s_val (v_idxA1 (j := 1) rfl rfl Try.underlying26 sz_5 (by omega)) rfl ?_
  refine s_go GO_ ?_
  refine s_val (v_load8 rfl rfl row_5 LT_) rfl ?_
  refine s_go GO_ ?_
  refine s_val (v_eql8 (b := 175#8) rfl rfl) rfl ?_
  refine s_val (v_pickT rfl PK_ rfl) rfl ?_
  refine s_val (v_moveC rfl) rfl ?_
  refine s_go GO_ ?_
  refine s_val (v_idxA1 (j := 63) rfl rfl Try.underlying26 sz_5 (by omega)) rfl ?_
  refine s_go GO_ ?_
  refine s_val (v_load8 rfl rfl row_5 LT_) rfl ?_
  refine s_go GO_ ?_
  refine s_val (v_eql8 (b := 159#8) rfl rfl) rfl ?_
  refine s_val (v_pickT rfl PK_ rfl) rfl ?_
  refine s_val (v_assignC rfl) rfl ?_
  refine s_nil ?_
  refine S_ ?_
  exact k_1 (by first | exact r_tmpC rfl | exact r_tmpA rfl) (by first | kernel_rfl | rfl)
end Go.Proofs.Ytgjilodkdgcoaaa
