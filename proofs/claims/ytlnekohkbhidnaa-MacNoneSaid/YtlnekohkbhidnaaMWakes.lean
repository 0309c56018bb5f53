/- trystlaw02.wakes (Drawn up by a program.) -/
import Derived.Test.YtlnekohkbhidnaaMExt
namespace Go.Proofs.Ytlnekohkbhidnaa
open Go.RowKit
def wakes_L3_S (X1 : List (BitVec 8)) (j3 : Nat) : List (BitVec 8) := put X1 j3 11#8
def wakes_L3  : Nat → List (BitVec 8)
  | 0 => zer8 20
  | j3 + 1 => wakes_L3_S (wakes_L3 j3) j3
@[simp] theorem wakes_L3_len  (j3 : Nat) : (wakes_L3 j3).length = 20 := by
  induction j3 with
  | zero => first | (simp [wakes_L3, *]; done) | (simp [wakes_L3, *]; omega)
  | succ j3 ih => rw [wakes_L3.eq_2, wakes_L3_S]; first | (simp [ih]; done) | (simp [ih]; omega) | (simp [*]; done) | (split <;> first | (simp [ih]; done) | (simp [ih]; omega) | (simp [*]; done))
theorem wk20 : ∀ j, j = 20 → wakes_L3 j = [11#8, 11#8, 11#8, 11#8, 11#8, 11#8, 11#8, 11#8, 11#8, 11#8, 11#8, 11#8, 11#8, 11#8, 11#8, 11#8, 11#8, 11#8, 11#8, 11#8] := by
  intro j h
  subst h
  rfl
set_option maxRecDepth 100000 in
set_option maxHeartbeats 2000000 in
theorem wakes_ev   : Ev Try.prog (.call 11 [] []) (.val (.c (.val (.bool (true)))) []) := by
  refine c_call Try.func11 rfl Try.ntmps11 rfl LEN_ ?_
  refine S_ ?_
  refine c_region ?_
  refine s_val (v_assignC rfl) rfl ?_
  refine s_nil ?_
  refine S_ ?_
  refine c_region ?_
  refine s_memN (m_make8 (a := 20) (b := 20) Try.underlying22 rfl rfl el_5 rep_5 (by omega) (by omega) (by omega) LEN_) APP_ rfl ?_
  refine s_val (v_assignC rfl) rfl ?_
  refine s_nil ?_
  refine S_ ?_
  refine c_region ?_
  refine s_val (v_assignC rfl) rfl ?_
  refine s_nil ?_
  refine S_ ?_
  refine c_loopC [1, 2] (fun (zz : Nat × List (BitVec 8)) => ⟨34, keepT [1, 2] [.c (.sl 0 0 20 20 1), .c (.val (.int .i64 (((zz.1 : Nat) : Int))))], [.row true (.a8 (zz.2))]⟩) (fun j3 => (j3, wakes_L3 j3)) (20) (by kernel_rfl) ?_ ?_
  · intro j3 hj3
    try dsimp only
    have hX1 : (wakes_L3 j3).length = 20 := by rw [wakes_L3_len _]; try omega
    have hk : j3 = 20 → (wakes_L3 j3) = [11#8, 11#8, 11#8, 11#8, 11#8, 11#8, 11#8, 11#8, 11#8, 11#8, 11#8, 11#8, 11#8, 11#8, 11#8, 11#8, 11#8, 11#8, 11#8, 11#8] := wk20 j3
    rw [wakes_L3.eq_2, wakes_L3_S]
    generalize wakes_L3 j3 = X1 at *
    refine S_ ?_
    refine c_region ?_
    refine s_val (v_moveC rfl) rfl ?_
    refine s_val (v_lssN (b := 20) rfl rfl) rfl ?_
    refine s_nil ?_
    refine S_ ?_
    refine c_region ?_
    refine s_val (v_moveC rfl) rfl ?_
    refine s_val (v_moveC rfl) rfl ?_
    refine s_val (v_idxS1 rfl rfl Try.underlying22 sz_5 (by omega)) rfl ?_
    refine s_store8 (w := 11#8) rfl rfl rfl sz_5 LT_ SET_ ?_
    refine s_nil ?_
    refine S_ ?_
    refine c_region ?_
    refine s_val (v_moveC rfl) rfl ?_
    refine s_val (v_addN (b := 1) rfl rfl (by omega)) rfl ?_
    refine s_val (v_assignC rfl) rfl ?_
    refine s_nil ?_
    exact ⟨(j3 + 1, _), by kernel_rfl, rfl⟩
  · try dsimp only
    have hY2 : (wakes_L3 20).length = 20 := by rw [wakes_L3_len _]; try omega
    have hk : 20 = 20 → (wakes_L3 20) = [11#8, 11#8, 11#8, 11#8, 11#8, 11#8, 11#8, 11#8, 11#8, 11#8, 11#8, 11#8, 11#8, 11#8, 11#8, 11#8, 11#8, 11#8, 11#8, 11#8] := wk20 20
    generalize wakes_L3 20 = Y2 at *
    refine S_ ?_
    refine c_region ?_
    refine s_val (v_moveC rfl) rfl ?_
    refine s_val (v_lssN (a := 20) (b := 20) rfl rfl) rfl ?_
    refine s_nil ?_
    refine S_ ?_
    refine c_region ?_
    refine s_val (v_moveC rfl) rfl ?_
    refine s_memN (m_bs8 (l := [72#8, 105#8, 32#8, 84#8, 104#8, 101#8, 114#8, 101#8]) Try.underlying22 el_5 rfl rfl (by decide) (by decide) LEN_) APP_ rfl ?_
    refine s_mark rfl Try.underlying22 Try.underlying5 rfl rfl (by decide) LEN_ KILL_ rfl ?_
    refine s_evN (e_callR (bs := [0,2]) (wkM_ev Y2 (hk rfl)) ok_8 (by kernel_rfl) (by kernel_rfl) rfl VAL_) APP_ rfl ?_
    refine s_memN (m_alloc al_23 LEN_) APP_ rfl ?_
    refine s_storeR rfl rfl rfl rfl sz_23 EQ_ EQ_ SET_ ?_
    refine s_nil ?_
    have hQ3 : (wkM).length = 32 := LQ_
    refine S_ ?_
    refine c_region ?_
    refine s_val (v_idxA1 (j := 0) rfl rfl Try.underlying23 sz_5 (by omega)) rfl ?_
    refine s_val (v_load8 rfl rfl row_5 LT_) rfl ?_
    refine s_val (v_eql8 (b := 176#8) rfl rfl) rfl ?_
    refine s_val (v_moveC rfl) rfl ?_
    refine s_go GO_ ?_
    refine s_val (v_idxA1 (j := 1) rfl rfl Try.underlying23 sz_5 (by omega)) rfl ?_
    refine s_go GO_ ?_
    refine s_val (v_load8 rfl rfl row_5 LT_) rfl ?_
    refine s_go GO_ ?_
    refine s_val (v_eql8 (b := 52#8) rfl rfl) rfl ?_
    refine s_val (v_pickT rfl PK_ rfl) rfl ?_
    refine s_val (v_moveC rfl) rfl ?_
    refine s_go GO_ ?_
    refine s_val (v_idxA1 (j := 2) rfl rfl Try.underlying23 sz_5 (by omega)) rfl ?_
    refine s_go GO_ ?_
    refine s_val (v_load8 rfl rfl row_5 LT_) rfl ?_
    refine s_go GO_ ?_
    refine s_val (v_eql8 (b := 76#8) rfl rfl) rfl ?_
    refine s_val (v_pickT rfl PK_ rfl) rfl ?_
    refine s_val (v_moveC rfl) rfl ?_
    refine s_go GO_ ?_
    refine s_val (v_idxA1 (j := 31) rfl rfl Try.underlying23 sz_5 (by omega)) rfl ?_
    refine s_go GO_ ?_
    refine s_val (v_load8 rfl rfl row_5 LT_) rfl ?_
    refine s_go GO_ ?_
    refine s_val (v_eql8 (b := 247#8) rfl rfl) rfl ?_
    refine s_val (v_pickT rfl PK_ rfl) rfl ?_
    refine s_val (v_assignC rfl) rfl ?_
    refine s_nil ?_
    refine S_ ?_
    exact k_1 (by first | exact r_tmpC rfl | exact r_tmpA rfl) (by first | kernel_rfl | rfl)
end Go.Proofs.Ytlnekohkbhidnaa
