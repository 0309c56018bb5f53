/- The walk of trystlaw04's wakes. -/
import Derived.Test.YtlphiohgehkjlaaPTag
namespace Go.Proofs.Ytlphiohgehkjlaa
open Go.RowKit
def wkKey : List (BitVec 8) := [133#8, 214#8, 190#8, 120#8, 87#8, 85#8, 109#8, 51#8, 127#8, 68#8, 82#8, 254#8, 66#8, 213#8, 6#8, 168#8, 1#8, 3#8, 128#8, 138#8, 251#8, 13#8, 178#8, 253#8, 74#8, 191#8, 246#8, 175#8, 65#8, 73#8, 245#8, 27#8]
def wkText : List (BitVec 8) := [67#8, 114#8, 121#8, 112#8, 116#8, 111#8, 103#8, 114#8, 97#8, 112#8, 104#8, 105#8, 99#8, 32#8, 70#8, 111#8, 114#8, 117#8, 109#8, 32#8, 82#8, 101#8, 115#8, 101#8, 97#8, 114#8, 99#8, 104#8, 32#8, 71#8, 114#8, 111#8, 117#8, 112#8]
def wkTag : List (BitVec 8) := [0xa8#8, 0x06#8, 0x1d#8, 0xc1#8, 0x30#8, 0x51#8, 0x36#8, 0xc6#8, 0xc2#8, 0x2b#8, 0x8b#8, 0xaf#8, 0x0c#8, 0x01#8, 0x27#8, 0xa9#8]
theorem wk_tag : polyTag wkKey wkText = wkTag := by kernel_rfl
set_option maxRecDepth 100000 in
set_option maxHeartbeats 1000000 in
theorem wakes_ev : Ev Try.prog (.call 11 [] []) (.val (.c (.val (.bool true))) []) := by
  have hT := polyTag_ev wkKey wkText 34 34 rfl rfl (by decide)
  rw [wk_tag] at hT
  refine c_call Try.func11 rfl Try.ntmps11 rfl LEN_ ?_
  refine S_ ?_
  refine c_region ?_
  refine s_val (v_assignC rfl) rfl ?_
  refine s_nil ?_
  refine S_ ?_
  refine c_region ?_
  refine s_val (v_bld8 (l := [133#8, 214#8, 190#8, 120#8, 87#8, 85#8, 109#8, 51#8, 127#8, 68#8, 82#8, 254#8, 66#8, 213#8, 6#8, 168#8, 1#8, 3#8, 128#8, 138#8, 251#8, 13#8, 178#8, 253#8, 74#8, 191#8, 246#8, 175#8, 65#8, 73#8, 245#8, 27#8]) zc_22 Try.underlying22 sz_5 rfl rfl (by decide)) rfl ?_
  refine s_memN (m_alloc al_22 LEN_) APP_ rfl ?_
  refine s_storeR rfl rfl rfl rfl sz_22 EQ_ EQ_ SET_ ?_
  refine s_nil ?_
  refine S_ ?_
  refine c_region ?_
  refine s_val (v_loadR rfl rfl row_22 sz_22 EQ_ (by decide)) rfl ?_
  refine s_memN (m_bs8 (l := [67#8, 114#8, 121#8, 112#8, 116#8, 111#8, 103#8, 114#8, 97#8, 112#8, 104#8, 105#8, 99#8, 32#8, 70#8, 111#8, 114#8, 117#8, 109#8, 32#8, 82#8, 101#8, 115#8, 101#8, 97#8, 114#8, 99#8, 104#8, 32#8, 71#8, 114#8, 111#8, 117#8, 112#8]) Try.underlying23 el_5 rfl rfl (by decide) (by decide) LEN_) APP_ rfl ?_
  refine s_mark rfl Try.underlying23 Try.underlying5 rfl rfl (by decide) LEN_ KILL_ rfl ?_
  refine s_evN (e_callR (hT) ok_8 rfl rfl rfl VAL_) APP_ rfl ?_
  refine s_memN (m_alloc al_25 LEN_) APP_ rfl ?_
  refine s_storeR rfl rfl rfl rfl sz_25 EQ_ EQ_ SET_ ?_
  refine s_nil ?_
  refine S_ ?_
  refine c_region ?_
  first
    | refine s_val (v_idxA1 (j := 0) rfl rfl Try.underlying25 sz_5 (by omega)) rfl ?_
    | refine s_val (v_idxA (j := 0) rfl rfl Try.underlying25 sz_5 (by omega)) rfl ?_
  refine s_val (v_load8 rfl rfl row_5 LT_) rfl ?_
  refine s_val (v_eql8 (b := 168#8) rfl rfl) rfl ?_
  first
    | refine s_val (v_moveC rfl) rfl ?_
    | refine s_val (v_moveA rfl) rfl ?_
    | refine s_val (v_moveT rfl) rfl ?_
  refine s_go rfl ?_
  first
    | refine s_val (v_idxA1 (j := 1) rfl rfl Try.underlying25 sz_5 (by omega)) rfl ?_
    | refine s_val (v_idxA (j := 1) rfl rfl Try.underlying25 sz_5 (by omega)) rfl ?_
  refine s_go rfl ?_
  refine s_val (v_load8 rfl rfl row_5 LT_) rfl ?_
  refine s_go rfl ?_
  refine s_val (v_eql8 (b := 6#8) rfl rfl) rfl ?_
  first
    | refine s_val (v_pickT rfl PK_ rfl) rfl ?_
    | refine s_val (v_pickF rfl PK_ rfl) rfl ?_
    | refine s_val (v_pickOr rfl rfl rfl) rfl ?_
    | refine s_val (v_pickAnd rfl rfl rfl) rfl ?_
  first
    | refine s_val (v_moveC rfl) rfl ?_
    | refine s_val (v_moveA rfl) rfl ?_
    | refine s_val (v_moveT rfl) rfl ?_
  refine s_go rfl ?_
  first
    | refine s_val (v_idxA1 (j := 2) rfl rfl Try.underlying25 sz_5 (by omega)) rfl ?_
    | refine s_val (v_idxA (j := 2) rfl rfl Try.underlying25 sz_5 (by omega)) rfl ?_
  refine s_go rfl ?_
  refine s_val (v_load8 rfl rfl row_5 LT_) rfl ?_
  refine s_go rfl ?_
  refine s_val (v_eql8 (b := 29#8) rfl rfl) rfl ?_
  first
    | refine s_val (v_pickT rfl PK_ rfl) rfl ?_
    | refine s_val (v_pickF rfl PK_ rfl) rfl ?_
    | refine s_val (v_pickOr rfl rfl rfl) rfl ?_
    | refine s_val (v_pickAnd rfl rfl rfl) rfl ?_
  first
    | refine s_val (v_moveC rfl) rfl ?_
    | refine s_val (v_moveA rfl) rfl ?_
    | refine s_val (v_moveT rfl) rfl ?_
  refine s_go rfl ?_
  first
    | refine s_val (v_idxA1 (j := 15) rfl rfl Try.underlying25 sz_5 (by omega)) rfl ?_
    | refine s_val (v_idxA (j := 15) rfl rfl Try.underlying25 sz_5 (by omega)) rfl ?_
  refine s_go rfl ?_
  refine s_val (v_load8 rfl rfl row_5 LT_) rfl ?_
  refine s_go rfl ?_
  refine s_val (v_eql8 (b := 169#8) rfl rfl) rfl ?_
  first
    | refine s_val (v_pickT rfl PK_ rfl) rfl ?_
    | refine s_val (v_pickF rfl PK_ rfl) rfl ?_
    | refine s_val (v_pickOr rfl rfl rfl) rfl ?_
    | refine s_val (v_pickAnd rfl rfl rfl) rfl ?_
  first
    | refine s_val (v_assignC rfl) rfl ?_
    | refine s_val (v_assignA rfl) rfl ?_
    | refine s_val (v_assignT rfl) rfl ?_
  refine s_nil ?_
  refine S_ ?_
  exact k_1 (by first | exact r_tmpC rfl | exact r_tmpA rfl) (by first | kernel_rfl | rfl)
end Go.Proofs.Ytlphiohgehkjlaa
