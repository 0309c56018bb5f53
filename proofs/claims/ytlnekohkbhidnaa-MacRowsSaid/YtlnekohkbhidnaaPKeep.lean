/- The walks of trystkeep.Bytes and Twin, of texts that are alike. -/
import Derived.Test.YtlnekohkbhidnaaAvTy
namespace Go.Proofs.Ytlnekohkbhidnaa
open Go.RowKit
set_option maxRecDepth 100000 in
set_option maxHeartbeats 1000000 in
theorem bytes_ev (r s : List (BitVec 8)) (o p n c d : Nat) (hr : o + n ≤ r.length) (hs : p + n ≤ s.length) (hn : n ≤ 1099511627776) (he : ∀ i, i < n → nth r (o + i) = nth s (p + i)) :
    Ev Try.prog (.call 10 [.c (.sl 0 o n c 1), .c (.sl 1 p n d 1)] [.row false (.a8 r), .row false (.a8 s)]) (.val (.c (.val (.bool true))) [.row false (.a8 r), .row false (.a8 s)]) := by
  refine c_call Try.func10 rfl Try.ntmps10 rfl LEN_ ?_
  refine S_ ?_
  refine c_region ?_
  refine s_val (v_assignC rfl) rfl ?_
  refine s_nil ?_
  refine S_ ?_
  refine c_region ?_
  first
    | refine s_val (v_moveC rfl) rfl ?_
    | refine s_val (v_moveA rfl) rfl ?_
    | refine s_val (v_moveT rfl) rfl ?_
  first
    | refine s_val (v_lenS rfl Try.underlying22) rfl ?_
    | refine s_val (v_lenN rfl Try.underlying22) rfl ?_
    | refine s_val (v_lenE rfl Try.underlying22) rfl ?_
  first
    | refine s_val (v_moveC rfl) rfl ?_
    | refine s_val (v_moveA rfl) rfl ?_
    | refine s_val (v_moveT rfl) rfl ?_
  first
    | refine s_val (v_lenS rfl Try.underlying22) rfl ?_
    | refine s_val (v_lenN rfl Try.underlying22) rfl ?_
    | refine s_val (v_lenE rfl Try.underlying22) rfl ?_
  first
    | refine s_val (v_neqN rfl rfl) rfl ?_
    | refine s_val (v_neqI rfl rfl) rfl ?_
  refine s_nil ?_
  refine Q_ ?_
  refine c_condF rfl (by simp) ?_
  refine S_ ?_
  refine c_region ?_
  refine s_val (v_assignC rfl) rfl ?_
  refine s_nil ?_
  refine S_ ?_
  refine c_loopC [0, 1, 5] (fun (x : Nat) => ⟨26, keepT [0, 1, 5] [.c (.sl 0 o n c 1), .c (.sl 1 p n d 1), .c (.val (.int .i64 (x)))], [.row false (.a8 (r)), .row false (.a8 (s))]⟩) (fun j => j) (n) (by kernel_rfl) ?_ ?_
  · intro j hj
    refine S_ ?_
    refine c_region ?_
    first
      | refine s_val (v_moveC rfl) rfl ?_
      | refine s_val (v_moveA rfl) rfl ?_
      | refine s_val (v_moveT rfl) rfl ?_
    first
      | refine s_val (v_moveC rfl) rfl ?_
      | refine s_val (v_moveA rfl) rfl ?_
      | refine s_val (v_moveT rfl) rfl ?_
    first
      | refine s_val (v_lenS rfl Try.underlying22) rfl ?_
      | refine s_val (v_lenN rfl Try.underlying22) rfl ?_
      | refine s_val (v_lenE rfl Try.underlying22) rfl ?_
    first
      | refine s_val (v_lssN rfl rfl) rfl ?_
      | refine s_val (v_lssI rfl rfl) rfl ?_
    refine s_nil ?_
    refine S_ ?_
    refine c_draw 9 mixed (by kernel_rfl) rfl rfl rfl ?_
    first
      | refine h_val (v_moveC rfl) rfl ?_
      | refine h_val (v_moveA rfl) rfl ?_
      | refine h_val (v_moveT rfl) rfl ?_
    first
      | refine h_val (v_moveC rfl) rfl ?_
      | refine h_val (v_moveA rfl) rfl ?_
      | refine h_val (v_moveT rfl) rfl ?_
    first
      | refine h_val (v_idxS1 rfl rfl Try.underlying22 sz_5 (by omega)) rfl ?_
      | refine h_val (v_idxSo rfl rfl Try.underlying22 sz_5 (by omega)) rfl ?_
      | refine h_val (v_idxS rfl rfl Try.underlying22 sz_5 (by omega)) rfl ?_
    refine h_val (v_load8 rfl rfl row_5 LT_) rfl ?_
    first
      | refine h_val (v_moveC rfl) rfl ?_
      | refine h_val (v_moveA rfl) rfl ?_
      | refine h_val (v_moveT rfl) rfl ?_
    first
      | refine h_val (v_moveC rfl) rfl ?_
      | refine h_val (v_moveA rfl) rfl ?_
      | refine h_val (v_moveT rfl) rfl ?_
    first
      | refine h_val (v_idxS1 rfl rfl Try.underlying22 sz_5 (by omega)) rfl ?_
      | refine h_val (v_idxSo rfl rfl Try.underlying22 sz_5 (by omega)) rfl ?_
      | refine h_val (v_idxS rfl rfl Try.underlying22 sz_5 (by omega)) rfl ?_
    refine h_val (v_load8 rfl rfl row_5 LT_) rfl ?_
    refine h_val (v_neq8 rfl rfl) rfl ?_
    refine h_nil ?_
    refine s_nil ?_
    refine Q_ ?_
    refine c_condF rfl (by simp [he j hj]) ?_
    refine S_ ?_
    refine c_region ?_
    first
      | refine s_val (v_moveC rfl) rfl ?_
      | refine s_val (v_moveA rfl) rfl ?_
      | refine s_val (v_moveT rfl) rfl ?_
    first
      | refine s_val (v_addN (b := 1) rfl rfl (by omega)) rfl ?_
      | refine s_val (v_addI rfl rfl (by omega)) rfl ?_
    first
      | refine s_val (v_assignC rfl) rfl ?_
      | refine s_val (v_assignA rfl) rfl ?_
      | refine s_val (v_assignT rfl) rfl ?_
    refine s_nil ?_
    exact ⟨_, by kernel_rfl, rfl⟩
  · refine S_ ?_
    refine c_region ?_
    first
      | refine s_val (v_moveC rfl) rfl ?_
      | refine s_val (v_moveA rfl) rfl ?_
      | refine s_val (v_moveT rfl) rfl ?_
    first
      | refine s_val (v_moveC rfl) rfl ?_
      | refine s_val (v_moveA rfl) rfl ?_
      | refine s_val (v_moveT rfl) rfl ?_
    first
      | refine s_val (v_lenS rfl Try.underlying22) rfl ?_
      | refine s_val (v_lenN rfl Try.underlying22) rfl ?_
      | refine s_val (v_lenE rfl Try.underlying22) rfl ?_
    first
      | refine s_val (v_lssN rfl rfl) rfl ?_
      | refine s_val (v_lssI rfl rfl) rfl ?_
    refine s_nil ?_
    refine S_ ?_
    refine c_region ?_
    refine s_val (v_assignC rfl) rfl ?_
    refine s_nil ?_
    refine S_ ?_
    exact k_1 (by first | exact r_tmpC rfl | exact r_tmpA rfl) (by first | kernel_rfl | rfl)
set_option maxRecDepth 100000 in
theorem bytesL_ev (r s : List (BitVec 8)) (o p n m c d : Nat) (h : n ≠ m) :
    Ev Try.prog (.call 10 [.c (.sl 0 o n c 1), .c (.sl 1 p m d 1)] [.row false (.a8 r), .row false (.a8 s)]) (.val (.c (.val (.bool false))) [.row false (.a8 r), .row false (.a8 s)]) := by
  refine c_call Try.func10 rfl Try.ntmps10 rfl LEN_ ?_
  refine S_ ?_
  refine c_region ?_
  refine s_val (v_assignC rfl) rfl ?_
  refine s_nil ?_
  refine S_ ?_
  refine c_region ?_
  first
    | refine s_val (v_moveC rfl) rfl ?_
    | refine s_val (v_moveA rfl) rfl ?_
    | refine s_val (v_moveT rfl) rfl ?_
  first
    | refine s_val (v_lenS rfl Try.underlying22) rfl ?_
    | refine s_val (v_lenN rfl Try.underlying22) rfl ?_
    | refine s_val (v_lenE rfl Try.underlying22) rfl ?_
  first
    | refine s_val (v_moveC rfl) rfl ?_
    | refine s_val (v_moveA rfl) rfl ?_
    | refine s_val (v_moveT rfl) rfl ?_
  first
    | refine s_val (v_lenS rfl Try.underlying22) rfl ?_
    | refine s_val (v_lenN rfl Try.underlying22) rfl ?_
    | refine s_val (v_lenE rfl Try.underlying22) rfl ?_
  first
    | refine s_val (v_neqN rfl rfl) rfl ?_
    | refine s_val (v_neqI rfl rfl) rfl ?_
  refine s_nil ?_
  refine Q_ ?_
  refine c_condT rfl (by simp [h]) ?_
  refine S_ ?_
  refine c_region ?_
  refine s_val (v_assignC rfl) rfl ?_
  refine s_nil ?_
  refine S_ ?_
  exact k_1 (by first | exact r_tmpC rfl | exact r_tmpA rfl) (by first | kernel_rfl | rfl)
set_option maxRecDepth 100000 in
theorem twin_ev (r : List (BitVec 8)) (n c : Nat) (hr : r.length = n) (hn : n ≤ 1099511627776) :
    Ev Try.prog (.call 13 [.c (.sl 0 0 n c 1)] [.row false (.a8 r)]) (.val (.c (.sl 1 0 n n 1)) [.row false (.a8 r), .row true (.a8 r)]) := by
  refine c_call Try.func13 rfl Try.ntmps13 rfl LEN_ ?_
  refine S_ ?_
  refine c_region ?_
  refine s_val (v_assignC rfl) rfl ?_
  refine s_nil ?_
  refine S_ ?_
  refine c_region ?_
  refine s_val (v_assignC rfl) rfl ?_
  refine s_nil ?_
  refine S_ ?_
  refine c_region ?_
  first
    | refine s_val (v_moveC rfl) rfl ?_
    | refine s_val (v_moveA rfl) rfl ?_
    | refine s_val (v_moveT rfl) rfl ?_
  first
    | refine s_val (v_moveC rfl) rfl ?_
    | refine s_val (v_moveA rfl) rfl ?_
    | refine s_val (v_moveT rfl) rfl ?_
  first
    | refine s_memN (m_appE8 rfl rfl rfl Try.underlying22 Try.underlying22 el_5 EQL_ (by omega) LEN_) APP_ rfl ?_
    | refine s_memN (m_appN8 rfl rfl rfl Try.underlying22 Try.underlying22 el_5 EQL_ (by omega) LEN_) APP_ rfl ?_
    | refine s_app8 rfl rfl rfl rfl Try.underlying22 Try.underlying22 el_5 EQL_ EQL_ (by omega) LEN_ KILL_ rfl ?_
    | refine s_memN (m_appE8c rfl rfl rfl Try.underlying22 Try.underlying22 el_5 LE_ (by omega) LEN_) APP_ rfl ?_
    | refine s_memN (m_appN8c rfl rfl rfl Try.underlying22 Try.underlying22 el_5 LE_ (by omega) LEN_) APP_ rfl ?_
    | refine s_app8c rfl rfl rfl rfl Try.underlying22 Try.underlying22 el_5 EQL_ LE_ (by omega) LEN_ KILL_ rfl ?_
    | refine s_memN (m_appZ rfl rfl Try.underlying22 Try.underlying22 el_5 rfl) APP_ rfl ?_
    | refine s_memN (m_appZe rfl rfl Try.underlying22 Try.underlying22 el_5 rfl) APP_ rfl ?_
  first
    | refine s_val (v_assignC rfl) rfl ?_
    | refine s_val (v_assignA rfl) rfl ?_
    | refine s_val (v_assignT rfl) rfl ?_
  refine s_nil ?_
  refine S_ ?_
  exact k_1 (by first | exact r_tmpC rfl | exact r_tmpA rfl) (by first | kernel_rfl | rfl)
end Go.Proofs.Ytlnekohkbhidnaa
