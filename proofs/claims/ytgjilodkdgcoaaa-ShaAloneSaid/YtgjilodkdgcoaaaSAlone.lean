/- trystlaw01.ShaAlone, trystlaw01.ShaAlone (Drawn up by a program.) -/
import Derived.Test.YtgjilodkdgcoaaaSExact
namespace Go.Proofs.Ytgjilodkdgcoaaa
open Go.RowKit

set_option maxRecDepth 100000 in
set_option maxHeartbeats 2000000 in
theorem shaAloneN_ev (t : List (BitVec 8)) (cap : Nat) (u : List (BitVec 8)) (cap2 : Nat) (z : Int) (hz : z < 0) : Ev Try.prog (.call 5 [.c (.sl 0 0 t.length cap 1), .c (.sl 1 0 u.length cap2 1), .c (.val (.int .i64 z))] [.row false (.a8 (t)), .row false (.a8 (u))]) (.val (.c (.val (.bool (true)))) [.row false (.a8 (t)), .row false (.a8 (u))]) := by
  refine c_call Try.func5 rfl Try.ntmps5 rfl LEN_ ?_
  refine S_ ?_
  refine c_region ?_
  refine s_val (v_assignC rfl) rfl ?_
  refine s_nil ?_
  by_cases hc1 : 3000 < t.length
  · -- it is so
    refine S_ ?_
    refine c_region ?_
    refine s_val (v_moveC rfl) rfl ?_
    refine s_val (v_lenS rfl Try.underlying22) rfl ?_
    refine s_val (v_gtrN (b := 3000) rfl rfl) rfl ?_
    refine s_val (v_moveC rfl) rfl ?_
    refine s_no GO_ rfl ?_
    refine s_no GO_ rfl ?_
    refine s_no GO_ rfl ?_
    refine s_val (v_pickT rfl PK_ rfl) rfl ?_
    refine s_val (v_moveC rfl) rfl ?_
    refine s_no GO_ rfl ?_
    refine s_no GO_ rfl ?_
    refine s_val (v_pickT rfl PK_ rfl) rfl ?_
    refine s_val (v_moveC rfl) rfl ?_
    refine s_no GO_ rfl ?_
    refine s_no GO_ rfl ?_
    refine s_val (v_pickT rfl PK_ rfl) rfl ?_
    refine s_nil ?_
    refine S_ ?_
    refine c_region ?_
    refine s_val (v_assignC rfl) rfl ?_
    refine s_nil ?_
    refine S_ ?_
    exact k_1 (by first | exact r_tmpC rfl | exact r_tmpA rfl) (by first | kernel_rfl | rfl)
  · -- it is not so
    by_cases hc2 : 3000 < u.length
    · -- it is so
      refine S_ ?_
      refine c_region ?_
      refine s_val (v_moveC rfl) rfl ?_
      refine s_val (v_lenS rfl Try.underlying22) rfl ?_
      refine s_val (v_gtrN (b := 3000) rfl rfl) rfl ?_
      refine s_val (v_moveC rfl) rfl ?_
      refine s_go GO_ ?_
      refine s_val (v_moveC rfl) rfl ?_
      refine s_go GO_ ?_
      refine s_val (v_lenS rfl Try.underlying22) rfl ?_
      refine s_go GO_ ?_
      refine s_val (v_gtrN (b := 3000) rfl rfl) rfl ?_
      refine s_val (v_pickF rfl PK_ rfl) rfl ?_
      refine s_val (v_moveC rfl) rfl ?_
      refine s_no GO_ rfl ?_
      refine s_no GO_ rfl ?_
      refine s_val (v_pickT rfl PK_ rfl) rfl ?_
      refine s_val (v_moveC rfl) rfl ?_
      refine s_no GO_ rfl ?_
      refine s_no GO_ rfl ?_
      refine s_val (v_pickT rfl PK_ rfl) rfl ?_
      refine s_nil ?_
      refine S_ ?_
      refine c_region ?_
      refine s_val (v_assignC rfl) rfl ?_
      refine s_nil ?_
      refine S_ ?_
      exact k_1 (by first | exact r_tmpC rfl | exact r_tmpA rfl) (by first | kernel_rfl | rfl)
    · -- it is not so
      refine S_ ?_
      refine c_region ?_
      refine s_val (v_moveC rfl) rfl ?_
      refine s_val (v_lenS rfl Try.underlying22) rfl ?_
      refine s_val (v_gtrN (b := 3000) rfl rfl) rfl ?_
      refine s_val (v_moveC rfl) rfl ?_
      refine s_go GO_ ?_
      refine s_val (v_moveC rfl) rfl ?_
      refine s_go GO_ ?_
      refine s_val (v_lenS rfl Try.underlying22) rfl ?_
      refine s_go GO_ ?_
      refine s_val (v_gtrN (b := 3000) rfl rfl) rfl ?_
      refine s_val (v_pickF rfl PK_ rfl) rfl ?_
      refine s_val (v_moveC rfl) rfl ?_
      refine s_go GO_ ?_
      refine s_val (v_moveC rfl) rfl ?_
      refine s_go GO_ ?_
      refine s_val (v_lssI rfl rfl) rfl ?_
      refine s_val (v_pickF rfl PK_ rfl) rfl ?_
      refine s_val (v_moveC rfl) rfl ?_
      refine s_no GO_ rfl ?_
      refine s_no GO_ rfl ?_
      refine s_val (v_pickT rfl PK_ rfl) rfl ?_
      refine s_nil ?_
      refine S_ ?_
      refine c_region ?_
      refine s_val (v_assignC rfl) rfl ?_
      refine s_nil ?_
      refine S_ ?_
      exact k_1 (by first | exact r_tmpC rfl | exact r_tmpA rfl) (by first | kernel_rfl | rfl)

def shaAlone_L8_S (X8 : List (BitVec 8)) (j8 : Nat) : List (BitVec 8) := put X8 j8 77#8
def shaAlone_L8 (t : List (BitVec 8)) (room : Nat) : Nat → List (BitVec 8)
  | 0 => zer8 (t.length + room)
  | j8 + 1 => shaAlone_L8_S (shaAlone_L8 t room j8) j8
@[simp] theorem shaAlone_L8_len (t : List (BitVec 8)) (room : Nat) (j8 : Nat) : (shaAlone_L8 t room j8).length = t.length + room := by
  induction j8 with
  | zero => simp [shaAlone_L8, *]
  | succ j8 ih => rw [shaAlone_L8.eq_2, shaAlone_L8_S]; first | (simp [ih]; done) | (simp [ih]; omega) | (simp [*]; done) | (split <;> first | (simp [ih]; done) | (simp [ih]; omega) | (simp [*]; done))
theorem shaAlone_77 (t : List (BitVec 8)) (room : Nat) : ∀ j, j ≤ t.length + room → ∀ i, i < j → nth (shaAlone_L8 t room j) i = 77#8 := by
  intro j
  induction j with
  | zero => intro _ i hi; omega
  | succ j ih =>
    intro hj i hi
    rw [shaAlone_L8.eq_2, shaAlone_L8_S, nth_put _ _ _ _ (by rw [shaAlone_L8_len]; omega)]
    split
    · rfl
    · exact ih (by omega) i (by omega)
set_option maxRecDepth 100000 in
set_option maxHeartbeats 2000000 in
theorem shaAlone_ev (t : List (BitVec 8)) (cap : Nat) (u : List (BitVec 8)) (cap2 : Nat) (room : Nat) (hroom : room ≤ 9223372036854775807) : Ev Try.prog (.call 5 [.c (.sl 0 0 t.length cap 1), .c (.sl 1 0 u.length cap2 1), .c (.val (.int .i64 ((room : Nat) : Int)))] [.row false (.a8 (t)), .row false (.a8 (u))]) (.val (.c (.val (.bool (true)))) [.row false (.a8 (t)), .row false (.a8 (u))]) := by
  refine c_call Try.func5 rfl Try.ntmps5 rfl LEN_ ?_
  refine S_ ?_
  refine c_region ?_
  refine s_val (v_assignC rfl) rfl ?_
  refine s_nil ?_
  by_cases hc1 : 3000 < t.length
  · -- it is so
    refine S_ ?_
    refine c_region ?_
    refine s_val (v_moveC rfl) rfl ?_
    refine s_val (v_lenS rfl Try.underlying22) rfl ?_
    refine s_val (v_gtrN (b := 3000) rfl rfl) rfl ?_
    refine s_val (v_moveC rfl) rfl ?_
    refine s_no GO_ rfl ?_
    refine s_no GO_ rfl ?_
    refine s_no GO_ rfl ?_
    refine s_val (v_pickT rfl PK_ rfl) rfl ?_
    refine s_val (v_moveC rfl) rfl ?_
    refine s_no GO_ rfl ?_
    refine s_no GO_ rfl ?_
    refine s_val (v_pickT rfl PK_ rfl) rfl ?_
    refine s_val (v_moveC rfl) rfl ?_
    refine s_no GO_ rfl ?_
    refine s_no GO_ rfl ?_
    refine s_val (v_pickT rfl PK_ rfl) rfl ?_
    refine s_nil ?_
    refine S_ ?_
    refine c_region ?_
    refine s_val (v_assignC rfl) rfl ?_
    refine s_nil ?_
    refine S_ ?_
    exact k_1 (by first | exact r_tmpC rfl | exact r_tmpA rfl) (by first | kernel_rfl | rfl)
  · -- it is not so
    by_cases hc2 : 3000 < u.length
    · -- it is so
      refine S_ ?_
      refine c_region ?_
      refine s_val (v_moveC rfl) rfl ?_
      refine s_val (v_lenS rfl Try.underlying22) rfl ?_
      refine s_val (v_gtrN (b := 3000) rfl rfl) rfl ?_
      refine s_val (v_moveC rfl) rfl ?_
      refine s_go GO_ ?_
      refine s_val (v_moveC rfl) rfl ?_
      refine s_go GO_ ?_
      refine s_val (v_lenS rfl Try.underlying22) rfl ?_
      refine s_go GO_ ?_
      refine s_val (v_gtrN (b := 3000) rfl rfl) rfl ?_
      refine s_val (v_pickF rfl PK_ rfl) rfl ?_
      refine s_val (v_moveC rfl) rfl ?_
      refine s_no GO_ rfl ?_
      refine s_no GO_ rfl ?_
      refine s_val (v_pickT rfl PK_ rfl) rfl ?_
      refine s_val (v_moveC rfl) rfl ?_
      refine s_no GO_ rfl ?_
      refine s_no GO_ rfl ?_
      refine s_val (v_pickT rfl PK_ rfl) rfl ?_
      refine s_nil ?_
      refine S_ ?_
      refine c_region ?_
      refine s_val (v_assignC rfl) rfl ?_
      refine s_nil ?_
      refine S_ ?_
      exact k_1 (by first | exact r_tmpC rfl | exact r_tmpA rfl) (by first | kernel_rfl | rfl)
    · -- it is not so
      refine S_ ?_
      refine c_region ?_
      refine s_val (v_moveC rfl) rfl ?_
      refine s_val (v_lenS rfl Try.underlying22) rfl ?_
      refine s_val (v_gtrN (b := 3000) rfl rfl) rfl ?_
      refine s_val (v_moveC rfl) rfl ?_
      refine s_go GO_ ?_
      refine s_val (v_moveC rfl) rfl ?_
      refine s_go GO_ ?_
      refine s_val (v_lenS rfl Try.underlying22) rfl ?_
      refine s_go GO_ ?_
      refine s_val (v_gtrN (b := 3000) rfl rfl) rfl ?_
      refine s_val (v_pickF rfl PK_ rfl) rfl ?_
      refine s_val (v_moveC rfl) rfl ?_
      refine s_go GO_ ?_
      refine s_val (v_moveC rfl) rfl ?_
      refine s_go GO_ ?_
      refine s_val (v_lssN (b := 0) rfl rfl) rfl ?_
      refine s_val (v_pickF rfl PK_ rfl) rfl ?_
      refine s_val (v_moveC rfl) rfl ?_
      refine s_go GO_ ?_
      refine s_val (v_moveC rfl) rfl ?_
      refine s_go GO_ ?_
      refine s_val (v_gtrN (b := 200) rfl rfl) rfl ?_
      refine s_val (v_pickF rfl PK_ rfl) rfl ?_
      refine s_nil ?_
      refine Q_ ?_
      by_cases hc3 : 200 < room
      · try simp only [if_pos hc3] at *
        refine c_condT rfl (decide_eq_true hc3) ?_
        refine S_ ?_
        refine c_region ?_
        refine s_val (v_assignC rfl) rfl ?_
        refine s_nil ?_
        refine S_ ?_
        exact k_1 (by first | exact r_tmpC rfl | exact r_tmpA rfl) (by first | kernel_rfl | rfl)
      · try simp only [if_neg hc3] at *
        refine c_condF rfl (decide_eq_false hc3) ?_
        refine S_ ?_
        refine c_region ?_
        refine s_val (v_moveC rfl) rfl ?_
        refine s_evN (e_callR (sha256_evS t t.length cap HYP_ HYP_) ok_9 rfl rfl rfl VAL_) APP_ rfl ?_
        refine s_val (v_moveC rfl) rfl ?_
        refine s_evN (e_callR (sha512_evS t t.length cap HYP_ HYP_) ok_11 rfl rfl rfl VAL_) APP_ rfl ?_
        refine s_memN (m_alloc al_24 LEN_) APP_ rfl ?_
        refine s_memN (m_alloc al_26 LEN_) APP_ rfl ?_
        refine s_storeR rfl rfl rfl rfl sz_24 EQ_ EQ_ SET_ ?_
        refine s_storeR rfl rfl rfl rfl sz_26 EQ_ EQ_ SET_ ?_
        refine s_nil ?_
        have hQ4 : (sha256 t).length = 32 := LQ_
        have hQ5 : (sha512 t).length = 64 := LQ_
        refine S_ ?_
        refine c_region ?_
        refine s_val (v_moveC rfl) rfl ?_
        refine s_evN (e_callR (sha256_evS u u.length cap2 HYP_ HYP_) ok_9 rfl rfl rfl VAL_) APP_ rfl ?_
        refine s_nil ?_
        have hQ6 : (sha256 u).length = 32 := LQ_
        refine S_ ?_
        refine c_region ?_
        refine s_val (v_moveC rfl) rfl ?_
        refine s_evN (e_callR (sha512_evS u u.length cap2 HYP_ HYP_) ok_11 rfl rfl rfl VAL_) APP_ rfl ?_
        refine s_nil ?_
        have hQ7 : (sha512 u).length = 64 := LQ_
        refine S_ ?_
        refine c_region ?_
        refine s_val (v_moveC rfl) rfl ?_
        refine s_val (v_lenS rfl Try.underlying22) rfl ?_
        refine s_val (v_moveC rfl) rfl ?_
        refine s_val (v_addN rfl rfl (by omega)) rfl ?_
        refine s_memN (m_make8 Try.underlying22 rfl rfl el_5 rep_5 (by omega) (by omega) (by omega) LEN_) APP_ rfl ?_
        refine s_val (v_assignC rfl) rfl ?_
        refine s_nil ?_
        refine S_ ?_
        refine c_region ?_
        refine s_val (v_assignC rfl) rfl ?_
        refine s_nil ?_
        refine S_ ?_
        refine c_loopC [0, 7, 8, 9, 10] (fun (zz : Nat × List (BitVec 8)) => ⟨89, keepT [0, 7, 8, 9, 10] [.c (.sl 0 0 t.length cap 1), .c (.ptr 2 0), .c (.ptr 3 0), .c (.sl 4 0 (t.length + room) (t.length + room) 1), .c (.val (.int .i64 (((zz.1 : Nat) : Int))))], [.row false (.a8 (t)), .row false (.a8 (u)), .row true (.a8 (sha256 t)), .row true (.a8 (sha512 t)), .row true (.a8 (zz.2))]⟩) (fun j8 => (j8, shaAlone_L8 t room j8)) (t.length + room) (by kernel_rfl) ?_ ?_
        · intro j8 hj8
          try dsimp only
          have hX8 : (shaAlone_L8 t room j8).length = t.length + room := by rw [shaAlone_L8_len t room _]; try omega
          have h77 : ∀ i, i < j8 → nth (shaAlone_L8 t room j8) i = 77#8 := shaAlone_77 t room j8 (by omega)
          rw [shaAlone_L8.eq_2, shaAlone_L8_S]
          generalize shaAlone_L8 t room j8 = X8 at *
          refine S_ ?_
          refine c_region ?_
          refine s_val (v_moveC rfl) rfl ?_
          refine s_val (v_moveC rfl) rfl ?_
          refine s_val (v_lenS rfl Try.underlying22) rfl ?_
          refine s_val (v_lssN rfl rfl) rfl ?_
          refine s_nil ?_
          refine S_ ?_
          refine c_region ?_
          refine s_val (v_moveC rfl) rfl ?_
          refine s_val (v_moveC rfl) rfl ?_
          refine s_val (v_idxS1 rfl rfl Try.underlying22 sz_5 (by omega)) rfl ?_
          refine s_store8 (w := 77#8) rfl rfl rfl sz_5 LT_ SET_ ?_
          refine s_nil ?_
          refine S_ ?_
          refine c_region ?_
          refine s_val (v_moveC rfl) rfl ?_
          refine s_val (v_addN (b := 1) rfl rfl (by omega)) rfl ?_
          refine s_val (v_assignC rfl) rfl ?_
          refine s_nil ?_
          exact ⟨(j8 + 1, _), by kernel_rfl, rfl⟩
        · try dsimp only
          have hY9 : (shaAlone_L8 t room (t.length + room)).length = t.length + room := by rw [shaAlone_L8_len t room _]; try omega
          have h77 : ∀ i, i < (t.length + room) → nth (shaAlone_L8 t room (t.length + room)) i = 77#8 := shaAlone_77 t room (t.length + room) (by omega)
          generalize shaAlone_L8 t room (t.length + room) = Y9 at *
          refine S_ ?_
          refine c_region ?_
          refine s_val (v_moveC rfl) rfl ?_
          refine s_val (v_moveC rfl) rfl ?_
          refine s_val (v_lenS rfl Try.underlying22) rfl ?_
          refine s_val (v_lssN rfl rfl) rfl ?_
          refine s_nil ?_
          refine S_ ?_
          refine c_region ?_
          refine s_val (v_moveC rfl) rfl ?_
          refine s_val (v_moveC rfl) rfl ?_
          refine s_copy8a rfl rfl rfl rfl Try.underlying22 sz_5 LE_ EQL_ MN_ rfl SET_ rfl ?_
          refine s_nil ?_
          have hQ10 : (over Y9 0 t).length = t.length + room := LQ_
          refine S_ ?_
          refine c_draw 12 mixed (by kernel_rfl) rfl rfl rfl ?_
          refine h_val (v_moveC rfl) rfl ?_
          refine h_val (v_moveC rfl) rfl ?_
          refine h_val (v_lenS rfl Try.underlying22) rfl ?_
          refine h_val (v_slS0 rfl Try.underlying22 sz_5 rfl (by omega)) rfl ?_
          refine h_evN (e_callR (sha256_ev (over Y9 0 t) 0 t.length (t.length + room) HYP_ HYP_) ok_9 rfl rfl rfl VAL_) APP_ rfl ?_
          refine h_val (v_moveC rfl) rfl ?_
          refine h_val (v_moveC rfl) rfl ?_
          refine h_val (v_lenS rfl Try.underlying22) rfl ?_
          refine h_val (v_slS0 rfl Try.underlying22 sz_5 rfl (by omega)) rfl ?_
          refine h_evN (e_callR (sha512_ev (over Y9 0 t) 0 t.length (t.length + room) HYP_ HYP_) ok_11 rfl rfl rfl VAL_) APP_ rfl ?_
          refine h_memN (m_alloc al_24 LEN_) APP_ rfl ?_
          refine h_memN (m_alloc al_26 LEN_) APP_ rfl ?_
          refine h_nil ?_
          refine s_storeR rfl rfl rfl rfl sz_24 EQ_ EQ_ SET_ ?_
          refine s_storeR rfl rfl rfl rfl sz_26 EQ_ EQ_ SET_ ?_
          refine s_nil ?_
          rw [cut_over0 Y9 t t.length HYP_]
          have hQ11 : (sha256 t).length = 32 := LQ_
          have hQ12 : (sha512 t).length = 64 := LQ_
          refine S_ ?_
          refine c_region ?_
          refine s_val (v_moveC rfl) rfl ?_
          refine s_val (v_lenS rfl Try.underlying22) rfl ?_
          refine s_val (v_assignC rfl) rfl ?_
          refine s_nil ?_
          refine S_ ?_
          refine c_loopC [7, 8, 9, 11, 12, 13] (fun (zz : Nat) => ⟨89, keepT [7, 8, 9, 11, 12, 13] [.c (.ptr 2 0), .c (.ptr 3 0), .c (.sl 4 0 (t.length + room) (t.length + room) 1), .c (.ptr 5 0), .c (.ptr 6 0), .c (.val (.int .i64 (((t.length + zz : Nat) : Int))))], [.row false (.a8 (t)), .row false (.a8 (u)), .row true (.a8 (sha256 t)), .row true (.a8 (sha512 t)), .row true (.a8 (over Y9 0 t)), .row true (.a8 (sha256 t)), .row true (.a8 (sha512 t))]⟩) (fun j14 => j14) (room) (by kernel_rfl) ?_ ?_
          · intro j14 hj14
            try dsimp only
            refine S_ ?_
            refine c_region ?_
            refine s_val (v_moveC rfl) rfl ?_
            refine s_val (v_moveC rfl) rfl ?_
            refine s_val (v_lenS rfl Try.underlying22) rfl ?_
            refine s_val (v_lssN rfl rfl) rfl ?_
            refine s_nil ?_
            refine S_ ?_
            refine c_region ?_
            refine s_val (v_moveC rfl) rfl ?_
            refine s_val (v_moveC rfl) rfl ?_
            refine s_val (v_idxS1 rfl rfl Try.underlying22 sz_5 (by omega)) rfl ?_
            refine s_val (v_load8 rfl rfl row_5 LT_) rfl ?_
            refine s_val (v_neq8 (b := 77#8) rfl rfl) rfl ?_
            refine s_nil ?_
            refine Q_ ?_
            refine c_condF rfl (by rw [nth_over_hi _ _ _ (by omega) (by omega), h77 _ (by omega)]; rfl) ?_
            refine S_ ?_
            refine c_region ?_
            refine s_val (v_moveC rfl) rfl ?_
            refine s_val (v_addN (b := 1) rfl rfl (by omega)) rfl ?_
            refine s_val (v_assignC rfl) rfl ?_
            refine s_nil ?_
            exact ⟨j14 + 1, by kernel_rfl, rfl⟩
          · try dsimp only
            refine S_ ?_
            refine c_region ?_
            refine s_val (v_moveC rfl) rfl ?_
            refine s_val (v_moveC rfl) rfl ?_
            refine s_val (v_lenS rfl Try.underlying22) rfl ?_
            refine s_val (v_lssN rfl rfl) rfl ?_
            refine s_nil ?_
            refine S_ ?_
            refine c_draw 12 mixed (by kernel_rfl) rfl rfl rfl ?_
            refine h_val (v_slA1 (l := 0) (h := 32) (len := 32) (cp := 32) rfl Try.underlying24 sz_5 rfl rfl rfl (by omega) (by omega) FIT_ rfl rfl) rfl ?_
            refine h_val (v_slA1 (l := 0) (h := 32) (len := 32) (cp := 32) rfl Try.underlying24 sz_5 rfl rfl rfl (by omega) (by omega) FIT_ rfl rfl) rfl ?_
            refine h_evN (e_callR (bytes_ev (sha256 t) (sha256 t) 0 0 32 32 32 HYP_ HYP_ HYP_ (fun _ _ => rfl)) ok_13 rfl rfl rfl VAL_) APP_ rfl ?_
            refine h_val (v_moveC rfl) rfl ?_
            refine h_go GO_ ?_
            refine h_val (v_slA1 (l := 0) (h := 64) (len := 64) (cp := 64) rfl Try.underlying26 sz_5 rfl rfl rfl (by omega) (by omega) FIT_ rfl rfl) rfl ?_
            refine h_go GO_ ?_
            refine h_val (v_slA1 (l := 0) (h := 64) (len := 64) (cp := 64) rfl Try.underlying26 sz_5 rfl rfl rfl (by omega) (by omega) FIT_ rfl rfl) rfl ?_
            refine h_go GO_ ?_
            refine h_evN (e_callR (bytes_ev (sha512 t) (sha512 t) 0 0 64 64 64 HYP_ HYP_ HYP_ (fun _ _ => rfl)) ok_13 rfl rfl rfl VAL_) APP_ rfl ?_
            refine h_val (v_pickT rfl PK_ rfl) rfl ?_
            refine h_val (v_moveC rfl) rfl ?_
            refine h_go GO_ ?_
            refine h_evN (e_callR (wakes_ev) ok_14 rfl rfl rfl VAL_) APP_ rfl ?_
            refine h_val (v_pickT rfl PK_ rfl) rfl ?_
            refine h_val (v_assignC rfl) rfl ?_
            refine h_nil ?_
            refine s_nil ?_
            refine S_ ?_
            exact k_1 (by first | exact r_tmpC rfl | exact r_tmpA rfl) (by first | kernel_rfl | rfl)
end Go.Proofs.Ytgjilodkdgcoaaa
