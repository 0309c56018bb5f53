/- The texts ABackW, ABound0, ABound0E, ABoundJ, ABoundJE, ABound1, ABound2, ABoundX, ABounds, AParts, merged into one. -/
import Derived.Test.YtcjponmaeamjdaaGA5
/- trystlaw05.AeadBack (Drawn up by a program.) -/
namespace Go.Proofs.Ytcjponmaeamjdaa
open Go.RowKit

set_option maxRecDepth 100000 in
set_option maxHeartbeats 2000000 in
theorem aeadBack_ev (key : List (BitVec 8)) (nonce : List (BitVec 8)) (ad : List (BitVec 8)) (acap : Nat) (text : List (BitVec 8)) (tcap : Nat) (pos : Int) (turn : BitVec 8) (hkey : key.length = 32) (hnonce : nonce.length = 12) : Ev Try.prog (.call 5 [.agg (.a8 (key)), .agg (.a8 (nonce)), .c (.sl 0 0 ad.length acap 1), .c (.sl 1 0 text.length tcap 1), .c (.val (.int .i64 pos)), .c (.val (U8 turn))] [.row false (.a8 (ad)), .row false (.a8 (text))]) (.val (.c (.val (.bool (true)))) [.row false (.a8 (ad)), .row false (.a8 (text))]) := by
  refine c_call Try.func5 rfl Try.ntmps5 rfl LEN_ ?_
  refine S_ ?_
  refine c_region ?_
  refine s_memN (m_box BX_ LEN_) APP_ rfl ?_
  refine s_memN (m_box BX_ LEN_) APP_ rfl ?_
  refine s_val (v_assignC rfl) rfl ?_
  refine s_nil ?_
  by_cases hc1 : 1000 < ad.length
  · -- it is so
    refine S_ ?_
    refine c_region ?_
    refine s_val (v_moveC rfl) rfl ?_
    refine s_val (v_lenS rfl Try.underlying24) rfl ?_
    refine s_val (v_gtrN (b := 1000) rfl rfl) rfl ?_
    refine s_val (v_moveC rfl) rfl ?_
    refine s_no GO_ rfl ?_
    refine s_no GO_ rfl ?_
    refine s_no GO_ rfl ?_
    refine s_val (v_pickT rfl PK_ rfl) rfl ?_
    refine s_nil ?_
    refine S_ ?_
    refine c_region ?_
    refine s_val (v_assignC rfl) rfl ?_
    refine s_nil ?_
    refine S_ ?_
    exact k_1 (by first | exact r_tmpC rfl | exact r_tmpA rfl) (by first | kernel_rfl | rfl)
  · -- it is not so
    refine S_ ?_
    refine c_region ?_
    refine s_val (v_moveC rfl) rfl ?_
    refine s_val (v_lenS rfl Try.underlying24) rfl ?_
    refine s_val (v_gtrN (b := 1000) rfl rfl) rfl ?_
    refine s_val (v_moveC rfl) rfl ?_
    refine s_go GO_ ?_
    refine s_val (v_moveC rfl) rfl ?_
    refine s_go GO_ ?_
    refine s_val (v_lenS rfl Try.underlying24) rfl ?_
    refine s_go GO_ ?_
    refine s_val (v_gtrN (b := 1000) rfl rfl) rfl ?_
    refine s_val (v_pickF rfl PK_ rfl) rfl ?_
    refine s_nil ?_
    refine Q_ ?_
    by_cases hc2 : 1000 < text.length
    · try simp only [if_pos hc2] at *
      refine c_condT rfl (decide_eq_true hc2) ?_
      refine S_ ?_
      refine c_region ?_
      refine s_val (v_assignC rfl) rfl ?_
      refine s_nil ?_
      refine S_ ?_
      exact k_1 (by first | exact r_tmpC rfl | exact r_tmpA rfl) (by first | kernel_rfl | rfl)
    · try simp only [if_neg hc2] at *
      refine c_condF rfl (decide_eq_false hc2) ?_
      have hQ3 : (rfSeal key nonce ad text).length = text.length + 16 := LQ_
      refine S_ ?_
      refine c_region ?_
      refine s_val (v_loadR rfl rfl row_22 sz_22 EQ_ (by decide)) rfl ?_
      refine s_val (v_loadR rfl rfl row_23 sz_23 EQ_ (by decide)) rfl ?_
      refine s_val (v_moveC rfl) rfl ?_
      refine s_val (v_moveC rfl) rfl ?_
      refine s_evN (e_callR (bs := [0,1]) (adSealR_ev key nonce ad ad.length acap text text.length tcap HYP_ HYP_ HYP_ HYP_ HYP_ HYP_ HYP_ HYP_) ok_9 (by kernel_rfl) (by kernel_rfl) rfl VAL_) APP_ rfl ?_
      refine s_val (v_moveT rfl) rfl ?_
      refine s_val (v_extract rfl rfl) rfl ?_
      refine s_val (v_extract rfl rfl) rfl ?_
      refine s_val (v_assignC rfl) rfl ?_
      refine s_val (v_assignC rfl) rfl ?_
      refine s_nil ?_
      refine S_ ?_
      refine c_region ?_
      refine s_val (v_moveC rfl) rfl ?_
      refine s_val (v_neqN (a := 0) (b := 0) rfl rfl) rfl ?_
      refine s_val (v_moveC rfl) rfl ?_
      refine s_go GO_ ?_
      refine s_val (v_moveC rfl) rfl ?_
      refine s_go GO_ ?_
      refine s_val (v_lenS rfl Try.underlying24) rfl ?_
      refine s_go GO_ ?_
      refine s_val (v_moveC rfl) rfl ?_
      refine s_go GO_ ?_
      refine s_val (v_lenS rfl Try.underlying24) rfl ?_
      refine s_go GO_ ?_
      refine s_val (v_addN (b := 16) rfl rfl (by omega)) rfl ?_
      refine s_go GO_ ?_
      refine s_val (v_neqN rfl rfl) rfl ?_
      refine s_val (v_pickF rfl PK_ rfl) rfl ?_
      refine s_nil ?_
      have hE := seal_back key nonce ad text hkey hnonce (text.length + 16 - 16) (by omega)
      have hQ4 : (rfOpen0 key nonce (rfSeal key nonce ad text)).length = text.length := LQ_
      refine S_ ?_
      refine c_region ?_
      refine s_val (v_loadR rfl rfl row_22 sz_22 EQ_ (by decide)) rfl ?_
      refine s_val (v_loadR rfl rfl row_23 sz_23 EQ_ (by decide)) rfl ?_
      refine s_val (v_moveC rfl) rfl ?_
      refine s_val (v_moveC rfl) rfl ?_
      refine s_evN (e_callR (bs := [0,4]) (adOpenR_ev key nonce ad ad.length acap (rfSeal key nonce ad text) (text.length + 16) (text.length + 16) HYP_ HYP_ HYP_ HYP_ HYP_ HYP_ HYP_ HYP_ HYP_ HYP_) ok_13 (by kernel_rfl) (by kernel_rfl) rfl VAL_) APP_ rfl ?_
      refine s_val (v_moveT rfl) rfl ?_
      refine s_val (v_extract rfl rfl) rfl ?_
      refine s_val (v_extract rfl rfl) rfl ?_
      refine s_val (v_assignC rfl) rfl ?_
      refine s_val (v_assignC rfl) rfl ?_
      refine s_nil ?_
      refine S_ ?_
      refine c_region ?_
      refine s_val (v_moveC rfl) rfl ?_
      refine s_val (v_neqN (a := 0) (b := 0) rfl rfl) rfl ?_
      refine s_val (v_moveC rfl) rfl ?_
      refine s_go GO_ ?_
      refine s_val (v_moveC rfl) rfl ?_
      refine s_go GO_ ?_
      refine s_val (v_moveC rfl) rfl ?_
      refine s_go GO_ ?_
      refine s_evN (e_callR (bs := [5,1]) (bytes_ev (rfOpen0 key nonce (rfSeal key nonce ad text)) text 0 0 text.length text.length tcap HYP_ HYP_ HYP_ (fun i _ => by rw [seal_open key nonce ad text hkey hnonce])) ok_10 (by kernel_rfl) (by kernel_rfl) rfl VAL_) APP_ rfl ?_
      refine s_go GO_ ?_
      refine s_val (v_unnotB rfl) rfl ?_
      refine s_val (v_pickF rfl PK_ rfl) rfl ?_
      refine s_nil ?_
      have hQ5 : (spoilB (rfOpen0 key nonce (rfSeal key nonce ad text))).length = text.length := LQ_
      refine S_ ?_
      refine c_region ?_
      refine s_val (v_moveC rfl) rfl ?_
      refine s_ev (e_callK (bs := [5]) (spoilB_ev (rfOpen0 key nonce (rfSeal key nonce ad text)) text.length text.length HYP_ HYP_) ok_15 (by kernel_rfl) rfl rfl VAL_ APP_) rfl ?_
      refine s_nil ?_
      refine S_ ?_
      refine c_region ?_
      refine s_val (v_moveC rfl) rfl ?_
      refine s_val (v_eql8 (b := 0#8) rfl rfl) rfl ?_
      refine s_nil ?_
      refine Q_ ?_
      by_cases hc6 : (turn == 0#8) = true
      all_goals (have hc6_ := hc6; try simp at hc6_)
      · try simp only [if_pos hc6] at *
        refine c_condT rfl (hc6) ?_
        refine S_ ?_
        refine c_region ?_
        refine s_evN (e_callR (wakes_ev) ok_12 rfl rfl rfl VAL_) APP_ rfl ?_
        refine s_val (v_assignC rfl) rfl ?_
        refine s_nil ?_
        refine S_ ?_
        exact k_1 (by first | exact r_tmpC rfl | exact r_tmpA rfl) (by first | kernel_rfl | rfl)
      · try simp only [if_neg hc6] at *
        refine c_condF rfl (by simpa using hc6) ?_
        have h16 : ((BitVec.ofInt 64 pos) % 16#64).toNat < 16 := by rw [BitVec.toNat_umod]; exact Nat.mod_lt _ (by decide)
        refine S_ ?_
        refine c_region ?_
        refine s_val (v_moveC rfl) rfl ?_
        refine s_val (v_moveC rfl) rfl ?_
        refine s_val (v_lenS rfl Try.underlying24) rfl ?_
        refine s_val (v_moveC rfl) rfl ?_
        refine s_val (v_conv rfl Try.underlying3 Try.underlying36 (wI_64 _)) rfl ?_
        refine s_val (v_rem64 (b := 16#64) rfl rfl (by first | decide | assumption)) rfl ?_
        refine s_val (v_conv rfl Try.underlying36 Try.underlying3 (w64_i _ (by first | omega | assumption))) rfl ?_
        refine s_val (v_addN rfl rfl (by omega)) rfl ?_
        refine s_val (v_idxS1 rfl rfl Try.underlying24 sz_5 (by omega)) rfl ?_
        refine s_val (v_load8 rfl rfl row_5 LT_) rfl ?_
        refine s_val (v_moveC rfl) rfl ?_
        refine s_val (v_xor8 rfl rfl) rfl ?_
        refine s_val (v_idxS1 rfl rfl Try.underlying24 sz_5 (by omega)) rfl ?_
        refine s_store8 rfl rfl rfl sz_5 LT_ SET_ ?_
        refine s_nil ?_
        have hE2 := seal_spoiled key nonce ad text hkey hnonce (text.length + ((BitVec.ofInt 64 pos) % 16#64).toNat) _ turn rfl h16 (by rintro rfl; simp_all) (text.length + 16 - 16) (by omega)
        refine S_ ?_
        refine c_region ?_
        refine s_val (v_loadR rfl rfl row_22 sz_22 EQ_ (by decide)) rfl ?_
        refine s_val (v_loadR rfl rfl row_23 sz_23 EQ_ (by decide)) rfl ?_
        refine s_val (v_moveC rfl) rfl ?_
        refine s_val (v_moveC rfl) rfl ?_
        refine s_evN (e_callR (bs := [0,4]) (adOpenRE_ev key nonce ad ad.length acap (put (rfSeal key nonce ad text) (text.length + (((BitVec.ofInt 64 pos) % 16#64).toNat)) ((nth (rfSeal key nonce ad text) (text.length + (((BitVec.ofInt 64 pos) % 16#64).toNat))) ^^^ turn)) (text.length + 16) (text.length + 16) HYP_ HYP_ HYP_ HYP_ HYP_ HYP_ HYP_ HYP_ HYP_ HYP_) ok_13 (by kernel_rfl) (by kernel_rfl) rfl VAL_) APP_ rfl ?_
        refine s_val (v_moveT rfl) rfl ?_
        refine s_val (v_extract rfl rfl) rfl ?_
        refine s_val (v_extract rfl rfl) rfl ?_
        refine s_val (v_assignC rfl) rfl ?_
        refine s_val (v_assignC rfl) rfl ?_
        refine s_nil ?_
        refine S_ ?_
        refine c_region ?_
        refine s_val (v_moveC rfl) rfl ?_
        refine s_val (v_eqlN (a := 3) (b := 3) rfl rfl) rfl ?_
        refine s_val (v_moveC rfl) rfl ?_
        refine s_go GO_ ?_
        refine s_val (v_moveC rfl) rfl ?_
        refine s_go GO_ ?_
        refine s_val (v_lenN rfl Try.underlying24) rfl ?_
        refine s_go GO_ ?_
        refine s_val (v_eqlN (a := 0) (b := 0) rfl rfl) rfl ?_
        refine s_val (v_pickT rfl PK_ rfl) rfl ?_
        refine s_val (v_moveC rfl) rfl ?_
        refine s_go GO_ ?_
        refine s_evN (e_callR (wakes_ev) ok_12 rfl rfl rfl VAL_) APP_ rfl ?_
        refine s_val (v_pickT rfl PK_ rfl) rfl ?_
        refine s_val (v_assignC rfl) rfl ?_
        refine s_nil ?_
        refine S_ ?_
        exact k_1 (by first | exact r_tmpC rfl | exact r_tmpA rfl) (by first | kernel_rfl | rfl)
end Go.Proofs.Ytcjponmaeamjdaa
/- trystlaw05.AeadBounds (Drawn up by a program.) -/
namespace Go.Proofs.Ytcjponmaeamjdaa
open Go.RowKit

set_option maxRecDepth 100000 in
set_option maxHeartbeats 2000000 in
theorem aeadBounds0_ev (key : List (BitVec 8)) (which : Int) (hkey : key.length = 32) (hE : rfTagA key (zer8 12) [] (cut (zer8 65552) 0 (65552 - 16)) = cut (zer8 65552) (65552 - 16) 16) : Ev Try.prog (.call 6 [.agg (.a8 (key)), .c (.val (.int .i64 ((0 : Nat) : Int))), .c (.val (.int .i64 which))] []) (.val (.c (.val (.bool (true)))) []) := by
  refine c_call Try.func6 rfl Try.ntmps6 rfl LEN_ ?_
  refine S_ ?_
  refine c_region ?_
  refine s_memN (m_box BX_ LEN_) APP_ rfl ?_
  refine s_val (v_assignC rfl) rfl ?_
  refine s_nil ?_
  refine S_ ?_
  refine c_region ?_
  refine s_val (v_moveC rfl) rfl ?_
  refine s_val (v_lssI rfl rfl) rfl ?_
  refine s_val (v_moveC rfl) rfl ?_
  refine s_go GO_ ?_
  refine s_val (v_moveC rfl) rfl ?_
  refine s_go GO_ ?_
  refine s_val (v_gtrN (a := 0) (b := 2) rfl rfl) rfl ?_
  refine s_val (v_pickF rfl PK_ rfl) rfl ?_
  refine s_nil ?_
  refine S_ ?_
  refine c_region ?_
  refine s_val (v_moveC rfl) rfl ?_
  refine s_val (v_addN (a := 65536) (b := 0) rfl rfl (by omega)) rfl ?_
  refine s_memN (m_make8 (a := 65536) (b := 65536) Try.underlying24 rfl rfl el_5 rep_5 (by omega) (by omega) (by omega) LEN_) APP_ rfl ?_
  refine s_val (v_assignC rfl) rfl ?_
  refine s_nil ?_
  refine S_ ?_
  refine c_region ?_
  refine s_val (v_moveC rfl) rfl ?_
  refine s_val (v_leqN (a := 0) (b := 0) rfl rfl) rfl ?_
  refine s_val (v_assignC rfl) rfl ?_
  refine s_nil ?_
  refine S_ ?_
  refine c_region ?_
  refine s_val (v_moveC rfl) rfl ?_
  refine s_val (v_conv rfl Try.underlying3 Try.underlying36 (wI_64 _)) rfl ?_
  refine s_val (v_rem64 (b := 3#64) rfl rfl (by first | decide | assumption)) rfl ?_
  refine s_nil ?_
  refine S_ ?_
  refine c_region ?_
  refine s_val (v_eql64 (b := 0#64) rfl rfl) rfl ?_
  refine s_val (v_assignC rfl) rfl ?_
  refine s_nil ?_
  refine Q_ ?_
  by_cases hc1 : (((BitVec.ofInt 64 which) % 3#64) == 0#64) = true
  all_goals (have hc1_ := hc1; try simp at hc1_)
  · try simp only [if_pos hc1] at *
    refine c_condT rfl (hc1) ?_
    have hQ2 : (rfSeal key (zer8 12) [] (zer8 65536)).length = 65552 := LQ_
    refine S_ ?_
    refine c_region ?_
    refine s_val (v_loadR rfl rfl row_22 sz_22 EQ_ (by decide)) rfl ?_
    refine s_val (v_blf8 (l := (zer8 12)) za_23 Try.underlying23 sz_5 rfl rfl) rfl ?_
    refine s_val (v_moveC rfl) rfl ?_
    refine s_evN (e_callR (bs := [1]) (adSealR_evNT key (zer8 12) (zer8 65536) 65536 65536 HYP_ HYP_ HYP_ HYP_ HYP_) ok_9 (by kernel_rfl) (by kernel_rfl) rfl VAL_) APP_ rfl ?_
    refine s_val (v_moveT rfl) rfl ?_
    refine s_val (v_extract rfl rfl) rfl ?_
    refine s_val (v_extract rfl rfl) rfl ?_
    refine s_val (v_assignC rfl) rfl ?_
    refine s_val (v_assignC rfl) rfl ?_
    refine s_nil ?_
    refine S_ ?_
    refine c_region ?_
    refine s_val (v_moveC rfl) rfl ?_
    refine s_val (v_moveC rfl) rfl ?_
    refine s_val (v_eqlN (a := 0) (b := 0) rfl rfl) rfl ?_
    refine s_val (v_eqlB rfl rfl Try.underlying4) rfl ?_
    refine s_val (v_moveC rfl) rfl ?_
    refine s_go GO_ ?_
    refine s_val (v_moveC rfl) rfl ?_
    refine s_go GO_ ?_
    refine s_val (v_moveC rfl) rfl ?_
    refine s_go GO_ ?_
    refine s_val (v_moveC rfl) rfl ?_
    refine s_go GO_ ?_
    refine s_val (v_lenS rfl Try.underlying24) rfl ?_
    refine s_go GO_ ?_
    refine s_val (v_moveC rfl) rfl ?_
    refine s_go GO_ ?_
    refine s_val (v_lenS rfl Try.underlying24) rfl ?_
    refine s_go GO_ ?_
    refine s_val (v_addN (a := 65536) (b := 16) rfl rfl (by omega)) rfl ?_
    refine s_go GO_ ?_
    refine s_val (v_eqlN (a := 65552) (b := 65552) rfl rfl) rfl ?_
    refine s_go GO_ ?_
    refine s_val (v_pickT rfl PK_ rfl) rfl ?_
    refine s_go GO_ ?_
    refine s_val (v_moveC rfl) rfl ?_
    refine s_no GO_ rfl ?_
    refine s_no GO_ rfl ?_
    refine s_no GO_ rfl ?_
    refine s_no GO_ rfl ?_
    refine s_no GO_ rfl ?_
    refine s_no GO_ rfl ?_
    refine s_no GO_ rfl ?_
    refine s_no GO_ rfl ?_
    refine s_no GO_ rfl ?_
    refine s_no GO_ rfl ?_
    refine s_no GO_ rfl ?_
    refine s_go GO_ ?_
    refine s_val (v_pickT rfl PK_ rfl) rfl ?_
    refine s_val (v_pickT rfl PK_ rfl) rfl ?_
    refine s_val (v_moveC rfl) rfl ?_
    refine s_go GO_ ?_
    refine s_evN (e_callR (wakes_ev) ok_12 rfl rfl rfl VAL_) APP_ rfl ?_
    refine s_val (v_pickT rfl PK_ rfl) rfl ?_
    refine s_val (v_assignC rfl) rfl ?_
    refine s_nil ?_
    refine S_ ?_
    exact k_1 (by first | exact r_tmpC rfl | exact r_tmpA rfl) (by first | kernel_rfl | rfl)
  · try simp only [if_neg hc1] at *
    refine c_condF rfl (by simpa using hc1) ?_
    refine S_ ?_
    refine c_region ?_
    refine s_val (v_eql64 (b := 1#64) rfl rfl) rfl ?_
    refine s_val (v_assignC rfl) rfl ?_
    refine s_nil ?_
    refine Q_ ?_
    by_cases hc3 : (((BitVec.ofInt 64 which) % 3#64) == 1#64) = true
    all_goals (have hc3_ := hc3; try simp at hc3_)
    · try simp only [if_pos hc3] at *
      refine c_condT rfl (hc3) ?_
      have hQ4 : (rfSeal key (zer8 12) (zer8 65536) [120#8]).length = 17 := LQ_
      refine S_ ?_
      refine c_region ?_
      refine s_val (v_loadR rfl rfl row_22 sz_22 EQ_ (by decide)) rfl ?_
      refine s_val (v_blf8 (l := (zer8 12)) za_23 Try.underlying23 sz_5 rfl rfl) rfl ?_
      refine s_val (v_moveC rfl) rfl ?_
      refine s_memN (m_bs8 (l := [120#8]) Try.underlying24 el_5 rfl rfl (by decide) (by decide) LEN_) APP_ rfl ?_
      refine s_mark rfl Try.underlying24 Try.underlying5 rfl rfl (by decide) LEN_ KILL_ rfl ?_
      refine s_evN (e_callR (bs := [1,3]) (adSealR_ev key (zer8 12) (zer8 65536) 65536 65536 [120#8] 1 1 HYP_ HYP_ HYP_ HYP_ HYP_ HYP_ HYP_ HYP_) ok_9 (by kernel_rfl) (by kernel_rfl) rfl VAL_) APP_ rfl ?_
      refine s_val (v_moveT rfl) rfl ?_
      refine s_val (v_extract rfl rfl) rfl ?_
      refine s_val (v_extract rfl rfl) rfl ?_
      refine s_val (v_assignC rfl) rfl ?_
      refine s_val (v_assignC rfl) rfl ?_
      refine s_nil ?_
      refine S_ ?_
      refine c_region ?_
      refine s_val (v_moveC rfl) rfl ?_
      refine s_val (v_moveC rfl) rfl ?_
      refine s_val (v_eqlN (a := 0) (b := 0) rfl rfl) rfl ?_
      refine s_val (v_eqlB rfl rfl Try.underlying4) rfl ?_
      refine s_val (v_moveC rfl) rfl ?_
      refine s_go GO_ ?_
      refine s_val (v_moveC rfl) rfl ?_
      refine s_go GO_ ?_
      refine s_val (v_moveC rfl) rfl ?_
      refine s_go GO_ ?_
      refine s_val (v_moveC rfl) rfl ?_
      refine s_go GO_ ?_
      refine s_val (v_lenS rfl Try.underlying24) rfl ?_
      refine s_go GO_ ?_
      refine s_val (v_eqlN (a := 17) (b := 17) rfl rfl) rfl ?_
      refine s_go GO_ ?_
      refine s_val (v_pickT rfl PK_ rfl) rfl ?_
      refine s_go GO_ ?_
      refine s_val (v_moveC rfl) rfl ?_
      refine s_no GO_ rfl ?_
      refine s_no GO_ rfl ?_
      refine s_no GO_ rfl ?_
      refine s_no GO_ rfl ?_
      refine s_no GO_ rfl ?_
      refine s_no GO_ rfl ?_
      refine s_no GO_ rfl ?_
      refine s_no GO_ rfl ?_
      refine s_no GO_ rfl ?_
      refine s_no GO_ rfl ?_
      refine s_no GO_ rfl ?_
      refine s_go GO_ ?_
      refine s_val (v_pickT rfl PK_ rfl) rfl ?_
      refine s_val (v_pickT rfl PK_ rfl) rfl ?_
      refine s_val (v_moveC rfl) rfl ?_
      refine s_go GO_ ?_
      refine s_evN (e_callR (wakes_ev) ok_12 rfl rfl rfl VAL_) APP_ rfl ?_
      refine s_val (v_pickT rfl PK_ rfl) rfl ?_
      refine s_val (v_assignC rfl) rfl ?_
      refine s_nil ?_
      refine S_ ?_
      exact k_1 (by first | exact r_tmpC rfl | exact r_tmpA rfl) (by first | kernel_rfl | rfl)
    · try simp only [if_neg hc3] at *
      refine c_condF rfl (by simpa using hc3) ?_
      refine S_ ?_
      refine c_region ?_
      refine s_val (v_moveC rfl) rfl ?_
      refine s_val (v_lenS rfl Try.underlying24) rfl ?_
      refine s_val (v_addN (a := 65536) (b := 16) rfl rfl (by omega)) rfl ?_
      refine s_memN (m_make8 (a := 65552) (b := 65552) Try.underlying24 rfl rfl el_5 rep_5 (by omega) (by omega) (by omega) LEN_) APP_ rfl ?_
      refine s_val (v_assignC rfl) rfl ?_
      refine s_nil ?_
      have hQ5 : (rfOpen0 key (zer8 12) (zer8 65552)).length = 65536 := LQ_
      refine S_ ?_
      refine c_region ?_
      refine s_val (v_loadR rfl rfl row_22 sz_22 EQ_ (by decide)) rfl ?_
      refine s_val (v_blf8 (l := (zer8 12)) za_23 Try.underlying23 sz_5 rfl rfl) rfl ?_
      refine s_val (v_moveC rfl) rfl ?_
      refine s_evN (e_callR (bs := [2]) (adOpenR_evNT key (zer8 12) (zer8 65552) 65552 65552 HYP_ HYP_ HYP_ HYP_ HYP_ HYP_ HYP_) ok_13 (by kernel_rfl) (by kernel_rfl) rfl VAL_) APP_ rfl ?_
      refine s_val (v_moveT rfl) rfl ?_
      refine s_val (v_extract rfl rfl) rfl ?_
      refine s_val (v_extract rfl rfl) rfl ?_
      refine s_val (v_assignC rfl) rfl ?_
      refine s_val (v_assignC rfl) rfl ?_
      refine s_nil ?_
      refine S_ ?_
      refine c_region ?_
      refine s_val (v_moveC rfl) rfl ?_
      refine s_val (v_moveC rfl) rfl ?_
      refine s_no GO_ rfl ?_
      refine s_no GO_ rfl ?_
      refine s_val (v_pickT rfl PK_ rfl) rfl ?_
      refine s_val (v_moveC rfl) rfl ?_
      refine s_go GO_ ?_
      refine s_val (v_moveC rfl) rfl ?_
      refine s_go GO_ ?_
      refine s_val (v_unnotB rfl) rfl ?_
      refine s_go GO_ ?_
      refine s_val (v_moveC rfl) rfl ?_
      refine s_go GO_ ?_
      refine s_val (v_moveC rfl) rfl ?_
      refine s_go GO_ ?_
      refine s_val (v_neqN (a := 0) (b := 2) rfl rfl) rfl ?_
      refine s_go GO_ ?_
      refine s_val (v_pickF rfl PK_ rfl) rfl ?_
      refine s_val (v_pickT rfl PK_ rfl) rfl ?_
      refine s_val (v_moveC rfl) rfl ?_
      refine s_go GO_ ?_
      refine s_evN (e_callR (wakes_ev) ok_12 rfl rfl rfl VAL_) APP_ rfl ?_
      refine s_val (v_pickT rfl PK_ rfl) rfl ?_
      refine s_val (v_assignC rfl) rfl ?_
      refine s_nil ?_
      refine S_ ?_
      exact k_1 (by first | exact r_tmpC rfl | exact r_tmpA rfl) (by first | kernel_rfl | rfl)
end Go.Proofs.Ytcjponmaeamjdaa
/- trystlaw05.AeadBounds (Drawn up by a program.) -/
namespace Go.Proofs.Ytcjponmaeamjdaa
open Go.RowKit

set_option maxRecDepth 100000 in
set_option maxHeartbeats 2000000 in
theorem aeadBounds0E_ev (key : List (BitVec 8)) (which : Int) (hkey : key.length = 32) (hE : ¬ (rfTagA key (zer8 12) [] (cut (zer8 65552) 0 (65552 - 16)) = cut (zer8 65552) (65552 - 16) 16)) : Ev Try.prog (.call 6 [.agg (.a8 (key)), .c (.val (.int .i64 ((0 : Nat) : Int))), .c (.val (.int .i64 which))] []) (.val (.c (.val (.bool (true)))) []) := by
  refine c_call Try.func6 rfl Try.ntmps6 rfl LEN_ ?_
  refine S_ ?_
  refine c_region ?_
  refine s_memN (m_box BX_ LEN_) APP_ rfl ?_
  refine s_val (v_assignC rfl) rfl ?_
  refine s_nil ?_
  refine S_ ?_
  refine c_region ?_
  refine s_val (v_moveC rfl) rfl ?_
  refine s_val (v_lssI rfl rfl) rfl ?_
  refine s_val (v_moveC rfl) rfl ?_
  refine s_go GO_ ?_
  refine s_val (v_moveC rfl) rfl ?_
  refine s_go GO_ ?_
  refine s_val (v_gtrN (a := 0) (b := 2) rfl rfl) rfl ?_
  refine s_val (v_pickF rfl PK_ rfl) rfl ?_
  refine s_nil ?_
  refine S_ ?_
  refine c_region ?_
  refine s_val (v_moveC rfl) rfl ?_
  refine s_val (v_addN (a := 65536) (b := 0) rfl rfl (by omega)) rfl ?_
  refine s_memN (m_make8 (a := 65536) (b := 65536) Try.underlying24 rfl rfl el_5 rep_5 (by omega) (by omega) (by omega) LEN_) APP_ rfl ?_
  refine s_val (v_assignC rfl) rfl ?_
  refine s_nil ?_
  refine S_ ?_
  refine c_region ?_
  refine s_val (v_moveC rfl) rfl ?_
  refine s_val (v_leqN (a := 0) (b := 0) rfl rfl) rfl ?_
  refine s_val (v_assignC rfl) rfl ?_
  refine s_nil ?_
  refine S_ ?_
  refine c_region ?_
  refine s_val (v_moveC rfl) rfl ?_
  refine s_val (v_conv rfl Try.underlying3 Try.underlying36 (wI_64 _)) rfl ?_
  refine s_val (v_rem64 (b := 3#64) rfl rfl (by first | decide | assumption)) rfl ?_
  refine s_nil ?_
  refine S_ ?_
  refine c_region ?_
  refine s_val (v_eql64 (b := 0#64) rfl rfl) rfl ?_
  refine s_val (v_assignC rfl) rfl ?_
  refine s_nil ?_
  refine Q_ ?_
  by_cases hc1 : (((BitVec.ofInt 64 which) % 3#64) == 0#64) = true
  all_goals (have hc1_ := hc1; try simp at hc1_)
  · try simp only [if_pos hc1] at *
    refine c_condT rfl (hc1) ?_
    have hQ2 : (rfSeal key (zer8 12) [] (zer8 65536)).length = 65552 := LQ_
    refine S_ ?_
    refine c_region ?_
    refine s_val (v_loadR rfl rfl row_22 sz_22 EQ_ (by decide)) rfl ?_
    refine s_val (v_blf8 (l := (zer8 12)) za_23 Try.underlying23 sz_5 rfl rfl) rfl ?_
    refine s_val (v_moveC rfl) rfl ?_
    refine s_evN (e_callR (bs := [1]) (adSealR_evNT key (zer8 12) (zer8 65536) 65536 65536 HYP_ HYP_ HYP_ HYP_ HYP_) ok_9 (by kernel_rfl) (by kernel_rfl) rfl VAL_) APP_ rfl ?_
    refine s_val (v_moveT rfl) rfl ?_
    refine s_val (v_extract rfl rfl) rfl ?_
    refine s_val (v_extract rfl rfl) rfl ?_
    refine s_val (v_assignC rfl) rfl ?_
    refine s_val (v_assignC rfl) rfl ?_
    refine s_nil ?_
    refine S_ ?_
    refine c_region ?_
    refine s_val (v_moveC rfl) rfl ?_
    refine s_val (v_moveC rfl) rfl ?_
    refine s_val (v_eqlN (a := 0) (b := 0) rfl rfl) rfl ?_
    refine s_val (v_eqlB rfl rfl Try.underlying4) rfl ?_
    refine s_val (v_moveC rfl) rfl ?_
    refine s_go GO_ ?_
    refine s_val (v_moveC rfl) rfl ?_
    refine s_go GO_ ?_
    refine s_val (v_moveC rfl) rfl ?_
    refine s_go GO_ ?_
    refine s_val (v_moveC rfl) rfl ?_
    refine s_go GO_ ?_
    refine s_val (v_lenS rfl Try.underlying24) rfl ?_
    refine s_go GO_ ?_
    refine s_val (v_moveC rfl) rfl ?_
    refine s_go GO_ ?_
    refine s_val (v_lenS rfl Try.underlying24) rfl ?_
    refine s_go GO_ ?_
    refine s_val (v_addN (a := 65536) (b := 16) rfl rfl (by omega)) rfl ?_
    refine s_go GO_ ?_
    refine s_val (v_eqlN (a := 65552) (b := 65552) rfl rfl) rfl ?_
    refine s_go GO_ ?_
    refine s_val (v_pickT rfl PK_ rfl) rfl ?_
    refine s_go GO_ ?_
    refine s_val (v_moveC rfl) rfl ?_
    refine s_no GO_ rfl ?_
    refine s_no GO_ rfl ?_
    refine s_no GO_ rfl ?_
    refine s_no GO_ rfl ?_
    refine s_no GO_ rfl ?_
    refine s_no GO_ rfl ?_
    refine s_no GO_ rfl ?_
    refine s_no GO_ rfl ?_
    refine s_no GO_ rfl ?_
    refine s_no GO_ rfl ?_
    refine s_no GO_ rfl ?_
    refine s_go GO_ ?_
    refine s_val (v_pickT rfl PK_ rfl) rfl ?_
    refine s_val (v_pickT rfl PK_ rfl) rfl ?_
    refine s_val (v_moveC rfl) rfl ?_
    refine s_go GO_ ?_
    refine s_evN (e_callR (wakes_ev) ok_12 rfl rfl rfl VAL_) APP_ rfl ?_
    refine s_val (v_pickT rfl PK_ rfl) rfl ?_
    refine s_val (v_assignC rfl) rfl ?_
    refine s_nil ?_
    refine S_ ?_
    exact k_1 (by first | exact r_tmpC rfl | exact r_tmpA rfl) (by first | kernel_rfl | rfl)
  · try simp only [if_neg hc1] at *
    refine c_condF rfl (by simpa using hc1) ?_
    refine S_ ?_
    refine c_region ?_
    refine s_val (v_eql64 (b := 1#64) rfl rfl) rfl ?_
    refine s_val (v_assignC rfl) rfl ?_
    refine s_nil ?_
    refine Q_ ?_
    by_cases hc3 : (((BitVec.ofInt 64 which) % 3#64) == 1#64) = true
    all_goals (have hc3_ := hc3; try simp at hc3_)
    · try simp only [if_pos hc3] at *
      refine c_condT rfl (hc3) ?_
      have hQ4 : (rfSeal key (zer8 12) (zer8 65536) [120#8]).length = 17 := LQ_
      refine S_ ?_
      refine c_region ?_
      refine s_val (v_loadR rfl rfl row_22 sz_22 EQ_ (by decide)) rfl ?_
      refine s_val (v_blf8 (l := (zer8 12)) za_23 Try.underlying23 sz_5 rfl rfl) rfl ?_
      refine s_val (v_moveC rfl) rfl ?_
      refine s_memN (m_bs8 (l := [120#8]) Try.underlying24 el_5 rfl rfl (by decide) (by decide) LEN_) APP_ rfl ?_
      refine s_mark rfl Try.underlying24 Try.underlying5 rfl rfl (by decide) LEN_ KILL_ rfl ?_
      refine s_evN (e_callR (bs := [1,3]) (adSealR_ev key (zer8 12) (zer8 65536) 65536 65536 [120#8] 1 1 HYP_ HYP_ HYP_ HYP_ HYP_ HYP_ HYP_ HYP_) ok_9 (by kernel_rfl) (by kernel_rfl) rfl VAL_) APP_ rfl ?_
      refine s_val (v_moveT rfl) rfl ?_
      refine s_val (v_extract rfl rfl) rfl ?_
      refine s_val (v_extract rfl rfl) rfl ?_
      refine s_val (v_assignC rfl) rfl ?_
      refine s_val (v_assignC rfl) rfl ?_
      refine s_nil ?_
      refine S_ ?_
      refine c_region ?_
      refine s_val (v_moveC rfl) rfl ?_
      refine s_val (v_moveC rfl) rfl ?_
      refine s_val (v_eqlN (a := 0) (b := 0) rfl rfl) rfl ?_
      refine s_val (v_eqlB rfl rfl Try.underlying4) rfl ?_
      refine s_val (v_moveC rfl) rfl ?_
      refine s_go GO_ ?_
      refine s_val (v_moveC rfl) rfl ?_
      refine s_go GO_ ?_
      refine s_val (v_moveC rfl) rfl ?_
      refine s_go GO_ ?_
      refine s_val (v_moveC rfl) rfl ?_
      refine s_go GO_ ?_
      refine s_val (v_lenS rfl Try.underlying24) rfl ?_
      refine s_go GO_ ?_
      refine s_val (v_eqlN (a := 17) (b := 17) rfl rfl) rfl ?_
      refine s_go GO_ ?_
      refine s_val (v_pickT rfl PK_ rfl) rfl ?_
      refine s_go GO_ ?_
      refine s_val (v_moveC rfl) rfl ?_
      refine s_no GO_ rfl ?_
      refine s_no GO_ rfl ?_
      refine s_no GO_ rfl ?_
      refine s_no GO_ rfl ?_
      refine s_no GO_ rfl ?_
      refine s_no GO_ rfl ?_
      refine s_no GO_ rfl ?_
      refine s_no GO_ rfl ?_
      refine s_no GO_ rfl ?_
      refine s_no GO_ rfl ?_
      refine s_no GO_ rfl ?_
      refine s_go GO_ ?_
      refine s_val (v_pickT rfl PK_ rfl) rfl ?_
      refine s_val (v_pickT rfl PK_ rfl) rfl ?_
      refine s_val (v_moveC rfl) rfl ?_
      refine s_go GO_ ?_
      refine s_evN (e_callR (wakes_ev) ok_12 rfl rfl rfl VAL_) APP_ rfl ?_
      refine s_val (v_pickT rfl PK_ rfl) rfl ?_
      refine s_val (v_assignC rfl) rfl ?_
      refine s_nil ?_
      refine S_ ?_
      exact k_1 (by first | exact r_tmpC rfl | exact r_tmpA rfl) (by first | kernel_rfl | rfl)
    · try simp only [if_neg hc3] at *
      refine c_condF rfl (by simpa using hc3) ?_
      refine S_ ?_
      refine c_region ?_
      refine s_val (v_moveC rfl) rfl ?_
      refine s_val (v_lenS rfl Try.underlying24) rfl ?_
      refine s_val (v_addN (a := 65536) (b := 16) rfl rfl (by omega)) rfl ?_
      refine s_memN (m_make8 (a := 65552) (b := 65552) Try.underlying24 rfl rfl el_5 rep_5 (by omega) (by omega) (by omega) LEN_) APP_ rfl ?_
      refine s_val (v_assignC rfl) rfl ?_
      refine s_nil ?_
      refine S_ ?_
      refine c_region ?_
      refine s_val (v_loadR rfl rfl row_22 sz_22 EQ_ (by decide)) rfl ?_
      refine s_val (v_blf8 (l := (zer8 12)) za_23 Try.underlying23 sz_5 rfl rfl) rfl ?_
      refine s_val (v_moveC rfl) rfl ?_
      refine s_evN (e_callR (bs := [2]) (adOpenRE_evNT key (zer8 12) (zer8 65552) 65552 65552 HYP_ HYP_ HYP_ HYP_ HYP_ HYP_ HYP_) ok_13 (by kernel_rfl) (by kernel_rfl) rfl VAL_) APP_ rfl ?_
      refine s_val (v_moveT rfl) rfl ?_
      refine s_val (v_extract rfl rfl) rfl ?_
      refine s_val (v_extract rfl rfl) rfl ?_
      refine s_val (v_assignC rfl) rfl ?_
      refine s_val (v_assignC rfl) rfl ?_
      refine s_nil ?_
      refine S_ ?_
      refine c_region ?_
      refine s_val (v_moveC rfl) rfl ?_
      refine s_val (v_moveC rfl) rfl ?_
      refine s_no GO_ rfl ?_
      refine s_no GO_ rfl ?_
      refine s_val (v_pickT rfl PK_ rfl) rfl ?_
      refine s_val (v_moveC rfl) rfl ?_
      refine s_go GO_ ?_
      refine s_val (v_moveC rfl) rfl ?_
      refine s_go GO_ ?_
      refine s_val (v_unnotB rfl) rfl ?_
      refine s_go GO_ ?_
      refine s_val (v_moveC rfl) rfl ?_
      refine s_go GO_ ?_
      refine s_val (v_moveC rfl) rfl ?_
      refine s_go GO_ ?_
      refine s_val (v_neqN (a := 3) (b := 2) rfl rfl) rfl ?_
      refine s_go GO_ ?_
      refine s_val (v_pickF rfl PK_ rfl) rfl ?_
      refine s_val (v_pickT rfl PK_ rfl) rfl ?_
      refine s_val (v_moveC rfl) rfl ?_
      refine s_go GO_ ?_
      refine s_evN (e_callR (wakes_ev) ok_12 rfl rfl rfl VAL_) APP_ rfl ?_
      refine s_val (v_pickT rfl PK_ rfl) rfl ?_
      refine s_val (v_assignC rfl) rfl ?_
      refine s_nil ?_
      refine S_ ?_
      exact k_1 (by first | exact r_tmpC rfl | exact r_tmpA rfl) (by first | kernel_rfl | rfl)
end Go.Proofs.Ytcjponmaeamjdaa
/- trystlaw05.AeadBounds (Drawn up by a program.) -/
namespace Go.Proofs.Ytcjponmaeamjdaa
open Go.RowKit

set_option maxRecDepth 100000 in
set_option maxHeartbeats 2000000 in
theorem aeadBoundsJ_ev (key : List (BitVec 8)) (which : Int) (hkey : key.length = 32) (hE : rfTagA key (zer8 12) [] (cut (zer8 65551) 0 (65551 - 16)) = cut (zer8 65551) (65551 - 16) 16) : Ev Try.prog (.call 6 [.agg (.a8 (key)), .c (.val (.int .i64 (-1))), .c (.val (.int .i64 which))] []) (.val (.c (.val (.bool (true)))) []) := by
  refine c_call Try.func6 rfl Try.ntmps6 rfl LEN_ ?_
  refine S_ ?_
  refine c_region ?_
  refine s_memN (m_box BX_ LEN_) APP_ rfl ?_
  refine s_val (v_assignC rfl) rfl ?_
  refine s_nil ?_
  refine S_ ?_
  refine c_region ?_
  refine s_val (v_moveC rfl) rfl ?_
  refine s_val (v_lssI rfl rfl) rfl ?_
  refine s_val (v_moveC rfl) rfl ?_
  refine s_go GO_ ?_
  refine s_val (v_moveC rfl) rfl ?_
  refine s_go GO_ ?_
  refine s_val (v_gtrI rfl rfl) rfl ?_
  refine s_val (v_pickF rfl PK_ rfl) rfl ?_
  refine s_nil ?_
  refine S_ ?_
  refine c_region ?_
  refine s_val (v_moveC rfl) rfl ?_
  refine s_val (v_addI rfl rfl (by omega)) rfl ?_
  refine s_memN (m_make8 (a := 65535) (b := 65535) Try.underlying24 rfl rfl el_5 rep_5 (by omega) (by omega) (by omega) LEN_) APP_ rfl ?_
  refine s_val (v_assignC rfl) rfl ?_
  refine s_nil ?_
  refine S_ ?_
  refine c_region ?_
  refine s_val (v_moveC rfl) rfl ?_
  refine s_val (v_leqI rfl rfl) rfl ?_
  refine s_val (v_assignC rfl) rfl ?_
  refine s_nil ?_
  refine S_ ?_
  refine c_region ?_
  refine s_val (v_moveC rfl) rfl ?_
  refine s_val (v_conv rfl Try.underlying3 Try.underlying36 (wI_64 _)) rfl ?_
  refine s_val (v_rem64 (b := 3#64) rfl rfl (by first | decide | assumption)) rfl ?_
  refine s_nil ?_
  refine S_ ?_
  refine c_region ?_
  refine s_val (v_eql64 (b := 0#64) rfl rfl) rfl ?_
  refine s_val (v_assignC rfl) rfl ?_
  refine s_nil ?_
  refine Q_ ?_
  by_cases hc1 : (((BitVec.ofInt 64 which) % 3#64) == 0#64) = true
  all_goals (have hc1_ := hc1; try simp at hc1_)
  · try simp only [if_pos hc1] at *
    refine c_condT rfl (hc1) ?_
    have hQ2 : (rfSeal key (zer8 12) [] (zer8 65535)).length = 65551 := LQ_
    refine S_ ?_
    refine c_region ?_
    refine s_val (v_loadR rfl rfl row_22 sz_22 EQ_ (by decide)) rfl ?_
    refine s_val (v_blf8 (l := (zer8 12)) za_23 Try.underlying23 sz_5 rfl rfl) rfl ?_
    refine s_val (v_moveC rfl) rfl ?_
    refine s_evN (e_callR (bs := [1]) (adSealR_evNT key (zer8 12) (zer8 65535) 65535 65535 HYP_ HYP_ HYP_ HYP_ HYP_) ok_9 (by kernel_rfl) (by kernel_rfl) rfl VAL_) APP_ rfl ?_
    refine s_val (v_moveT rfl) rfl ?_
    refine s_val (v_extract rfl rfl) rfl ?_
    refine s_val (v_extract rfl rfl) rfl ?_
    refine s_val (v_assignC rfl) rfl ?_
    refine s_val (v_assignC rfl) rfl ?_
    refine s_nil ?_
    refine S_ ?_
    refine c_region ?_
    refine s_val (v_moveC rfl) rfl ?_
    refine s_val (v_moveC rfl) rfl ?_
    refine s_val (v_eqlN (a := 0) (b := 0) rfl rfl) rfl ?_
    refine s_val (v_eqlB rfl rfl Try.underlying4) rfl ?_
    refine s_val (v_moveC rfl) rfl ?_
    refine s_go GO_ ?_
    refine s_val (v_moveC rfl) rfl ?_
    refine s_go GO_ ?_
    refine s_val (v_moveC rfl) rfl ?_
    refine s_go GO_ ?_
    refine s_val (v_moveC rfl) rfl ?_
    refine s_go GO_ ?_
    refine s_val (v_lenS rfl Try.underlying24) rfl ?_
    refine s_go GO_ ?_
    refine s_val (v_moveC rfl) rfl ?_
    refine s_go GO_ ?_
    refine s_val (v_lenS rfl Try.underlying24) rfl ?_
    refine s_go GO_ ?_
    refine s_val (v_addN (a := 65535) (b := 16) rfl rfl (by omega)) rfl ?_
    refine s_go GO_ ?_
    refine s_val (v_eqlN (a := 65551) (b := 65551) rfl rfl) rfl ?_
    refine s_go GO_ ?_
    refine s_val (v_pickT rfl PK_ rfl) rfl ?_
    refine s_go GO_ ?_
    refine s_val (v_moveC rfl) rfl ?_
    refine s_no GO_ rfl ?_
    refine s_no GO_ rfl ?_
    refine s_no GO_ rfl ?_
    refine s_no GO_ rfl ?_
    refine s_no GO_ rfl ?_
    refine s_no GO_ rfl ?_
    refine s_no GO_ rfl ?_
    refine s_no GO_ rfl ?_
    refine s_no GO_ rfl ?_
    refine s_no GO_ rfl ?_
    refine s_no GO_ rfl ?_
    refine s_go GO_ ?_
    refine s_val (v_pickT rfl PK_ rfl) rfl ?_
    refine s_val (v_pickT rfl PK_ rfl) rfl ?_
    refine s_val (v_moveC rfl) rfl ?_
    refine s_go GO_ ?_
    refine s_evN (e_callR (wakes_ev) ok_12 rfl rfl rfl VAL_) APP_ rfl ?_
    refine s_val (v_pickT rfl PK_ rfl) rfl ?_
    refine s_val (v_assignC rfl) rfl ?_
    refine s_nil ?_
    refine S_ ?_
    exact k_1 (by first | exact r_tmpC rfl | exact r_tmpA rfl) (by first | kernel_rfl | rfl)
  · try simp only [if_neg hc1] at *
    refine c_condF rfl (by simpa using hc1) ?_
    refine S_ ?_
    refine c_region ?_
    refine s_val (v_eql64 (b := 1#64) rfl rfl) rfl ?_
    refine s_val (v_assignC rfl) rfl ?_
    refine s_nil ?_
    refine Q_ ?_
    by_cases hc3 : (((BitVec.ofInt 64 which) % 3#64) == 1#64) = true
    all_goals (have hc3_ := hc3; try simp at hc3_)
    · try simp only [if_pos hc3] at *
      refine c_condT rfl (hc3) ?_
      have hQ4 : (rfSeal key (zer8 12) (zer8 65535) [120#8]).length = 17 := LQ_
      refine S_ ?_
      refine c_region ?_
      refine s_val (v_loadR rfl rfl row_22 sz_22 EQ_ (by decide)) rfl ?_
      refine s_val (v_blf8 (l := (zer8 12)) za_23 Try.underlying23 sz_5 rfl rfl) rfl ?_
      refine s_val (v_moveC rfl) rfl ?_
      refine s_memN (m_bs8 (l := [120#8]) Try.underlying24 el_5 rfl rfl (by decide) (by decide) LEN_) APP_ rfl ?_
      refine s_mark rfl Try.underlying24 Try.underlying5 rfl rfl (by decide) LEN_ KILL_ rfl ?_
      refine s_evN (e_callR (bs := [1,3]) (adSealR_ev key (zer8 12) (zer8 65535) 65535 65535 [120#8] 1 1 HYP_ HYP_ HYP_ HYP_ HYP_ HYP_ HYP_ HYP_) ok_9 (by kernel_rfl) (by kernel_rfl) rfl VAL_) APP_ rfl ?_
      refine s_val (v_moveT rfl) rfl ?_
      refine s_val (v_extract rfl rfl) rfl ?_
      refine s_val (v_extract rfl rfl) rfl ?_
      refine s_val (v_assignC rfl) rfl ?_
      refine s_val (v_assignC rfl) rfl ?_
      refine s_nil ?_
      refine S_ ?_
      refine c_region ?_
      refine s_val (v_moveC rfl) rfl ?_
      refine s_val (v_moveC rfl) rfl ?_
      refine s_val (v_eqlN (a := 0) (b := 0) rfl rfl) rfl ?_
      refine s_val (v_eqlB rfl rfl Try.underlying4) rfl ?_
      refine s_val (v_moveC rfl) rfl ?_
      refine s_go GO_ ?_
      refine s_val (v_moveC rfl) rfl ?_
      refine s_go GO_ ?_
      refine s_val (v_moveC rfl) rfl ?_
      refine s_go GO_ ?_
      refine s_val (v_moveC rfl) rfl ?_
      refine s_go GO_ ?_
      refine s_val (v_lenS rfl Try.underlying24) rfl ?_
      refine s_go GO_ ?_
      refine s_val (v_eqlN (a := 17) (b := 17) rfl rfl) rfl ?_
      refine s_go GO_ ?_
      refine s_val (v_pickT rfl PK_ rfl) rfl ?_
      refine s_go GO_ ?_
      refine s_val (v_moveC rfl) rfl ?_
      refine s_no GO_ rfl ?_
      refine s_no GO_ rfl ?_
      refine s_no GO_ rfl ?_
      refine s_no GO_ rfl ?_
      refine s_no GO_ rfl ?_
      refine s_no GO_ rfl ?_
      refine s_no GO_ rfl ?_
      refine s_no GO_ rfl ?_
      refine s_no GO_ rfl ?_
      refine s_no GO_ rfl ?_
      refine s_no GO_ rfl ?_
      refine s_go GO_ ?_
      refine s_val (v_pickT rfl PK_ rfl) rfl ?_
      refine s_val (v_pickT rfl PK_ rfl) rfl ?_
      refine s_val (v_moveC rfl) rfl ?_
      refine s_go GO_ ?_
      refine s_evN (e_callR (wakes_ev) ok_12 rfl rfl rfl VAL_) APP_ rfl ?_
      refine s_val (v_pickT rfl PK_ rfl) rfl ?_
      refine s_val (v_assignC rfl) rfl ?_
      refine s_nil ?_
      refine S_ ?_
      exact k_1 (by first | exact r_tmpC rfl | exact r_tmpA rfl) (by first | kernel_rfl | rfl)
    · try simp only [if_neg hc3] at *
      refine c_condF rfl (by simpa using hc3) ?_
      refine S_ ?_
      refine c_region ?_
      refine s_val (v_moveC rfl) rfl ?_
      refine s_val (v_lenS rfl Try.underlying24) rfl ?_
      refine s_val (v_addN (a := 65535) (b := 16) rfl rfl (by omega)) rfl ?_
      refine s_memN (m_make8 (a := 65551) (b := 65551) Try.underlying24 rfl rfl el_5 rep_5 (by omega) (by omega) (by omega) LEN_) APP_ rfl ?_
      refine s_val (v_assignC rfl) rfl ?_
      refine s_nil ?_
      have hQ5 : (rfOpen0 key (zer8 12) (zer8 65551)).length = 65535 := LQ_
      refine S_ ?_
      refine c_region ?_
      refine s_val (v_loadR rfl rfl row_22 sz_22 EQ_ (by decide)) rfl ?_
      refine s_val (v_blf8 (l := (zer8 12)) za_23 Try.underlying23 sz_5 rfl rfl) rfl ?_
      refine s_val (v_moveC rfl) rfl ?_
      refine s_evN (e_callR (bs := [2]) (adOpenR_evNT key (zer8 12) (zer8 65551) 65551 65551 HYP_ HYP_ HYP_ HYP_ HYP_ HYP_ HYP_) ok_13 (by kernel_rfl) (by kernel_rfl) rfl VAL_) APP_ rfl ?_
      refine s_val (v_moveT rfl) rfl ?_
      refine s_val (v_extract rfl rfl) rfl ?_
      refine s_val (v_extract rfl rfl) rfl ?_
      refine s_val (v_assignC rfl) rfl ?_
      refine s_val (v_assignC rfl) rfl ?_
      refine s_nil ?_
      refine S_ ?_
      refine c_region ?_
      refine s_val (v_moveC rfl) rfl ?_
      refine s_val (v_moveC rfl) rfl ?_
      refine s_no GO_ rfl ?_
      refine s_no GO_ rfl ?_
      refine s_val (v_pickT rfl PK_ rfl) rfl ?_
      refine s_val (v_moveC rfl) rfl ?_
      refine s_go GO_ ?_
      refine s_val (v_moveC rfl) rfl ?_
      refine s_go GO_ ?_
      refine s_val (v_unnotB rfl) rfl ?_
      refine s_go GO_ ?_
      refine s_val (v_moveC rfl) rfl ?_
      refine s_go GO_ ?_
      refine s_val (v_moveC rfl) rfl ?_
      refine s_go GO_ ?_
      refine s_val (v_neqN (a := 0) (b := 2) rfl rfl) rfl ?_
      refine s_go GO_ ?_
      refine s_val (v_pickF rfl PK_ rfl) rfl ?_
      refine s_val (v_pickT rfl PK_ rfl) rfl ?_
      refine s_val (v_moveC rfl) rfl ?_
      refine s_go GO_ ?_
      refine s_evN (e_callR (wakes_ev) ok_12 rfl rfl rfl VAL_) APP_ rfl ?_
      refine s_val (v_pickT rfl PK_ rfl) rfl ?_
      refine s_val (v_assignC rfl) rfl ?_
      refine s_nil ?_
      refine S_ ?_
      exact k_1 (by first | exact r_tmpC rfl | exact r_tmpA rfl) (by first | kernel_rfl | rfl)
end Go.Proofs.Ytcjponmaeamjdaa
/- trystlaw05.AeadBounds (Drawn up by a program.) -/
namespace Go.Proofs.Ytcjponmaeamjdaa
open Go.RowKit

set_option maxRecDepth 100000 in
set_option maxHeartbeats 2000000 in
theorem aeadBoundsJE_ev (key : List (BitVec 8)) (which : Int) (hkey : key.length = 32) (hE : ¬ (rfTagA key (zer8 12) [] (cut (zer8 65551) 0 (65551 - 16)) = cut (zer8 65551) (65551 - 16) 16)) : Ev Try.prog (.call 6 [.agg (.a8 (key)), .c (.val (.int .i64 (-1))), .c (.val (.int .i64 which))] []) (.val (.c (.val (.bool (true)))) []) := by
  refine c_call Try.func6 rfl Try.ntmps6 rfl LEN_ ?_
  refine S_ ?_
  refine c_region ?_
  refine s_memN (m_box BX_ LEN_) APP_ rfl ?_
  refine s_val (v_assignC rfl) rfl ?_
  refine s_nil ?_
  refine S_ ?_
  refine c_region ?_
  refine s_val (v_moveC rfl) rfl ?_
  refine s_val (v_lssI rfl rfl) rfl ?_
  refine s_val (v_moveC rfl) rfl ?_
  refine s_go GO_ ?_
  refine s_val (v_moveC rfl) rfl ?_
  refine s_go GO_ ?_
  refine s_val (v_gtrI rfl rfl) rfl ?_
  refine s_val (v_pickF rfl PK_ rfl) rfl ?_
  refine s_nil ?_
  refine S_ ?_
  refine c_region ?_
  refine s_val (v_moveC rfl) rfl ?_
  refine s_val (v_addI rfl rfl (by omega)) rfl ?_
  refine s_memN (m_make8 (a := 65535) (b := 65535) Try.underlying24 rfl rfl el_5 rep_5 (by omega) (by omega) (by omega) LEN_) APP_ rfl ?_
  refine s_val (v_assignC rfl) rfl ?_
  refine s_nil ?_
  refine S_ ?_
  refine c_region ?_
  refine s_val (v_moveC rfl) rfl ?_
  refine s_val (v_leqI rfl rfl) rfl ?_
  refine s_val (v_assignC rfl) rfl ?_
  refine s_nil ?_
  refine S_ ?_
  refine c_region ?_
  refine s_val (v_moveC rfl) rfl ?_
  refine s_val (v_conv rfl Try.underlying3 Try.underlying36 (wI_64 _)) rfl ?_
  refine s_val (v_rem64 (b := 3#64) rfl rfl (by first | decide | assumption)) rfl ?_
  refine s_nil ?_
  refine S_ ?_
  refine c_region ?_
  refine s_val (v_eql64 (b := 0#64) rfl rfl) rfl ?_
  refine s_val (v_assignC rfl) rfl ?_
  refine s_nil ?_
  refine Q_ ?_
  by_cases hc1 : (((BitVec.ofInt 64 which) % 3#64) == 0#64) = true
  all_goals (have hc1_ := hc1; try simp at hc1_)
  · try simp only [if_pos hc1] at *
    refine c_condT rfl (hc1) ?_
    have hQ2 : (rfSeal key (zer8 12) [] (zer8 65535)).length = 65551 := LQ_
    refine S_ ?_
    refine c_region ?_
    refine s_val (v_loadR rfl rfl row_22 sz_22 EQ_ (by decide)) rfl ?_
    refine s_val (v_blf8 (l := (zer8 12)) za_23 Try.underlying23 sz_5 rfl rfl) rfl ?_
    refine s_val (v_moveC rfl) rfl ?_
    refine s_evN (e_callR (bs := [1]) (adSealR_evNT key (zer8 12) (zer8 65535) 65535 65535 HYP_ HYP_ HYP_ HYP_ HYP_) ok_9 (by kernel_rfl) (by kernel_rfl) rfl VAL_) APP_ rfl ?_
    refine s_val (v_moveT rfl) rfl ?_
    refine s_val (v_extract rfl rfl) rfl ?_
    refine s_val (v_extract rfl rfl) rfl ?_
    refine s_val (v_assignC rfl) rfl ?_
    refine s_val (v_assignC rfl) rfl ?_
    refine s_nil ?_
    refine S_ ?_
    refine c_region ?_
    refine s_val (v_moveC rfl) rfl ?_
    refine s_val (v_moveC rfl) rfl ?_
    refine s_val (v_eqlN (a := 0) (b := 0) rfl rfl) rfl ?_
    refine s_val (v_eqlB rfl rfl Try.underlying4) rfl ?_
    refine s_val (v_moveC rfl) rfl ?_
    refine s_go GO_ ?_
    refine s_val (v_moveC rfl) rfl ?_
    refine s_go GO_ ?_
    refine s_val (v_moveC rfl) rfl ?_
    refine s_go GO_ ?_
    refine s_val (v_moveC rfl) rfl ?_
    refine s_go GO_ ?_
    refine s_val (v_lenS rfl Try.underlying24) rfl ?_
    refine s_go GO_ ?_
    refine s_val (v_moveC rfl) rfl ?_
    refine s_go GO_ ?_
    refine s_val (v_lenS rfl Try.underlying24) rfl ?_
    refine s_go GO_ ?_
    refine s_val (v_addN (a := 65535) (b := 16) rfl rfl (by omega)) rfl ?_
    refine s_go GO_ ?_
    refine s_val (v_eqlN (a := 65551) (b := 65551) rfl rfl) rfl ?_
    refine s_go GO_ ?_
    refine s_val (v_pickT rfl PK_ rfl) rfl ?_
    refine s_go GO_ ?_
    refine s_val (v_moveC rfl) rfl ?_
    refine s_no GO_ rfl ?_
    refine s_no GO_ rfl ?_
    refine s_no GO_ rfl ?_
    refine s_no GO_ rfl ?_
    refine s_no GO_ rfl ?_
    refine s_no GO_ rfl ?_
    refine s_no GO_ rfl ?_
    refine s_no GO_ rfl ?_
    refine s_no GO_ rfl ?_
    refine s_no GO_ rfl ?_
    refine s_no GO_ rfl ?_
    refine s_go GO_ ?_
    refine s_val (v_pickT rfl PK_ rfl) rfl ?_
    refine s_val (v_pickT rfl PK_ rfl) rfl ?_
    refine s_val (v_moveC rfl) rfl ?_
    refine s_go GO_ ?_
    refine s_evN (e_callR (wakes_ev) ok_12 rfl rfl rfl VAL_) APP_ rfl ?_
    refine s_val (v_pickT rfl PK_ rfl) rfl ?_
    refine s_val (v_assignC rfl) rfl ?_
    refine s_nil ?_
    refine S_ ?_
    exact k_1 (by first | exact r_tmpC rfl | exact r_tmpA rfl) (by first | kernel_rfl | rfl)
  · try simp only [if_neg hc1] at *
    refine c_condF rfl (by simpa using hc1) ?_
    refine S_ ?_
    refine c_region ?_
    refine s_val (v_eql64 (b := 1#64) rfl rfl) rfl ?_
    refine s_val (v_assignC rfl) rfl ?_
    refine s_nil ?_
    refine Q_ ?_
    by_cases hc3 : (((BitVec.ofInt 64 which) % 3#64) == 1#64) = true
    all_goals (have hc3_ := hc3; try simp at hc3_)
    · try simp only [if_pos hc3] at *
      refine c_condT rfl (hc3) ?_
      have hQ4 : (rfSeal key (zer8 12) (zer8 65535) [120#8]).length = 17 := LQ_
      refine S_ ?_
      refine c_region ?_
      refine s_val (v_loadR rfl rfl row_22 sz_22 EQ_ (by decide)) rfl ?_
      refine s_val (v_blf8 (l := (zer8 12)) za_23 Try.underlying23 sz_5 rfl rfl) rfl ?_
      refine s_val (v_moveC rfl) rfl ?_
      refine s_memN (m_bs8 (l := [120#8]) Try.underlying24 el_5 rfl rfl (by decide) (by decide) LEN_) APP_ rfl ?_
      refine s_mark rfl Try.underlying24 Try.underlying5 rfl rfl (by decide) LEN_ KILL_ rfl ?_
      refine s_evN (e_callR (bs := [1,3]) (adSealR_ev key (zer8 12) (zer8 65535) 65535 65535 [120#8] 1 1 HYP_ HYP_ HYP_ HYP_ HYP_ HYP_ HYP_ HYP_) ok_9 (by kernel_rfl) (by kernel_rfl) rfl VAL_) APP_ rfl ?_
      refine s_val (v_moveT rfl) rfl ?_
      refine s_val (v_extract rfl rfl) rfl ?_
      refine s_val (v_extract rfl rfl) rfl ?_
      refine s_val (v_assignC rfl) rfl ?_
      refine s_val (v_assignC rfl) rfl ?_
      refine s_nil ?_
      refine S_ ?_
      refine c_region ?_
      refine s_val (v_moveC rfl) rfl ?_
      refine s_val (v_moveC rfl) rfl ?_
      refine s_val (v_eqlN (a := 0) (b := 0) rfl rfl) rfl ?_
      refine s_val (v_eqlB rfl rfl Try.underlying4) rfl ?_
      refine s_val (v_moveC rfl) rfl ?_
      refine s_go GO_ ?_
      refine s_val (v_moveC rfl) rfl ?_
      refine s_go GO_ ?_
      refine s_val (v_moveC rfl) rfl ?_
      refine s_go GO_ ?_
      refine s_val (v_moveC rfl) rfl ?_
      refine s_go GO_ ?_
      refine s_val (v_lenS rfl Try.underlying24) rfl ?_
      refine s_go GO_ ?_
      refine s_val (v_eqlN (a := 17) (b := 17) rfl rfl) rfl ?_
      refine s_go GO_ ?_
      refine s_val (v_pickT rfl PK_ rfl) rfl ?_
      refine s_go GO_ ?_
      refine s_val (v_moveC rfl) rfl ?_
      refine s_no GO_ rfl ?_
      refine s_no GO_ rfl ?_
      refine s_no GO_ rfl ?_
      refine s_no GO_ rfl ?_
      refine s_no GO_ rfl ?_
      refine s_no GO_ rfl ?_
      refine s_no GO_ rfl ?_
      refine s_no GO_ rfl ?_
      refine s_no GO_ rfl ?_
      refine s_no GO_ rfl ?_
      refine s_no GO_ rfl ?_
      refine s_go GO_ ?_
      refine s_val (v_pickT rfl PK_ rfl) rfl ?_
      refine s_val (v_pickT rfl PK_ rfl) rfl ?_
      refine s_val (v_moveC rfl) rfl ?_
      refine s_go GO_ ?_
      refine s_evN (e_callR (wakes_ev) ok_12 rfl rfl rfl VAL_) APP_ rfl ?_
      refine s_val (v_pickT rfl PK_ rfl) rfl ?_
      refine s_val (v_assignC rfl) rfl ?_
      refine s_nil ?_
      refine S_ ?_
      exact k_1 (by first | exact r_tmpC rfl | exact r_tmpA rfl) (by first | kernel_rfl | rfl)
    · try simp only [if_neg hc3] at *
      refine c_condF rfl (by simpa using hc3) ?_
      refine S_ ?_
      refine c_region ?_
      refine s_val (v_moveC rfl) rfl ?_
      refine s_val (v_lenS rfl Try.underlying24) rfl ?_
      refine s_val (v_addN (a := 65535) (b := 16) rfl rfl (by omega)) rfl ?_
      refine s_memN (m_make8 (a := 65551) (b := 65551) Try.underlying24 rfl rfl el_5 rep_5 (by omega) (by omega) (by omega) LEN_) APP_ rfl ?_
      refine s_val (v_assignC rfl) rfl ?_
      refine s_nil ?_
      refine S_ ?_
      refine c_region ?_
      refine s_val (v_loadR rfl rfl row_22 sz_22 EQ_ (by decide)) rfl ?_
      refine s_val (v_blf8 (l := (zer8 12)) za_23 Try.underlying23 sz_5 rfl rfl) rfl ?_
      refine s_val (v_moveC rfl) rfl ?_
      refine s_evN (e_callR (bs := [2]) (adOpenRE_evNT key (zer8 12) (zer8 65551) 65551 65551 HYP_ HYP_ HYP_ HYP_ HYP_ HYP_ HYP_) ok_13 (by kernel_rfl) (by kernel_rfl) rfl VAL_) APP_ rfl ?_
      refine s_val (v_moveT rfl) rfl ?_
      refine s_val (v_extract rfl rfl) rfl ?_
      refine s_val (v_extract rfl rfl) rfl ?_
      refine s_val (v_assignC rfl) rfl ?_
      refine s_val (v_assignC rfl) rfl ?_
      refine s_nil ?_
      refine S_ ?_
      refine c_region ?_
      refine s_val (v_moveC rfl) rfl ?_
      refine s_val (v_moveC rfl) rfl ?_
      refine s_no GO_ rfl ?_
      refine s_no GO_ rfl ?_
      refine s_val (v_pickT rfl PK_ rfl) rfl ?_
      refine s_val (v_moveC rfl) rfl ?_
      refine s_go GO_ ?_
      refine s_val (v_moveC rfl) rfl ?_
      refine s_go GO_ ?_
      refine s_val (v_unnotB rfl) rfl ?_
      refine s_go GO_ ?_
      refine s_val (v_moveC rfl) rfl ?_
      refine s_go GO_ ?_
      refine s_val (v_moveC rfl) rfl ?_
      refine s_go GO_ ?_
      refine s_val (v_neqN (a := 3) (b := 2) rfl rfl) rfl ?_
      refine s_go GO_ ?_
      refine s_val (v_pickF rfl PK_ rfl) rfl ?_
      refine s_val (v_pickT rfl PK_ rfl) rfl ?_
      refine s_val (v_moveC rfl) rfl ?_
      refine s_go GO_ ?_
      refine s_evN (e_callR (wakes_ev) ok_12 rfl rfl rfl VAL_) APP_ rfl ?_
      refine s_val (v_pickT rfl PK_ rfl) rfl ?_
      refine s_val (v_assignC rfl) rfl ?_
      refine s_nil ?_
      refine S_ ?_
      exact k_1 (by first | exact r_tmpC rfl | exact r_tmpA rfl) (by first | kernel_rfl | rfl)
end Go.Proofs.Ytcjponmaeamjdaa
/- trystlaw05.AeadBounds (Drawn up by a program.) -/
namespace Go.Proofs.Ytcjponmaeamjdaa
open Go.RowKit

set_option maxRecDepth 100000 in
set_option maxHeartbeats 2000000 in
theorem aeadBounds1_ev (key : List (BitVec 8)) (which : Int) (hkey : key.length = 32) : Ev Try.prog (.call 6 [.agg (.a8 (key)), .c (.val (.int .i64 ((1 : Nat) : Int))), .c (.val (.int .i64 which))] []) (.val (.c (.val (.bool (true)))) []) := by
  refine c_call Try.func6 rfl Try.ntmps6 rfl LEN_ ?_
  refine S_ ?_
  refine c_region ?_
  refine s_memN (m_box BX_ LEN_) APP_ rfl ?_
  refine s_val (v_assignC rfl) rfl ?_
  refine s_nil ?_
  refine S_ ?_
  refine c_region ?_
  refine s_val (v_moveC rfl) rfl ?_
  refine s_val (v_lssI rfl rfl) rfl ?_
  refine s_val (v_moveC rfl) rfl ?_
  refine s_go GO_ ?_
  refine s_val (v_moveC rfl) rfl ?_
  refine s_go GO_ ?_
  refine s_val (v_gtrN (a := 1) (b := 2) rfl rfl) rfl ?_
  refine s_val (v_pickF rfl PK_ rfl) rfl ?_
  refine s_nil ?_
  refine S_ ?_
  refine c_region ?_
  refine s_val (v_moveC rfl) rfl ?_
  refine s_val (v_addN (a := 65536) (b := 1) rfl rfl (by omega)) rfl ?_
  refine s_memN (m_make8 (a := 65537) (b := 65537) Try.underlying24 rfl rfl el_5 rep_5 (by omega) (by omega) (by omega) LEN_) APP_ rfl ?_
  refine s_val (v_assignC rfl) rfl ?_
  refine s_nil ?_
  refine S_ ?_
  refine c_region ?_
  refine s_val (v_moveC rfl) rfl ?_
  refine s_val (v_leqN (a := 1) (b := 0) rfl rfl) rfl ?_
  refine s_val (v_assignC rfl) rfl ?_
  refine s_nil ?_
  refine S_ ?_
  refine c_region ?_
  refine s_val (v_moveC rfl) rfl ?_
  refine s_val (v_conv rfl Try.underlying3 Try.underlying36 (wI_64 _)) rfl ?_
  refine s_val (v_rem64 (b := 3#64) rfl rfl (by first | decide | assumption)) rfl ?_
  refine s_nil ?_
  refine S_ ?_
  refine c_region ?_
  refine s_val (v_eql64 (b := 0#64) rfl rfl) rfl ?_
  refine s_val (v_assignC rfl) rfl ?_
  refine s_nil ?_
  refine Q_ ?_
  by_cases hc1 : (((BitVec.ofInt 64 which) % 3#64) == 0#64) = true
  all_goals (have hc1_ := hc1; try simp at hc1_)
  · try simp only [if_pos hc1] at *
    refine c_condT rfl (hc1) ?_
    refine S_ ?_
    refine c_region ?_
    refine s_val (v_loadR rfl rfl row_22 sz_22 EQ_ (by decide)) rfl ?_
    refine s_val (v_blf8 (l := (zer8 12)) za_23 Try.underlying23 sz_5 rfl rfl) rfl ?_
    refine s_val (v_moveC rfl) rfl ?_
    refine s_evN (e_callR (bs := [1]) (adSealT_evNT key (zer8 12) (zer8 65537) 65537 65537 HYP_ HYP_ HYP_ HYP_ HYP_) ok_9 (by kernel_rfl) (by kernel_rfl) rfl VAL_) APP_ rfl ?_
    refine s_val (v_moveT rfl) rfl ?_
    refine s_val (v_extract rfl rfl) rfl ?_
    refine s_val (v_extract rfl rfl) rfl ?_
    refine s_val (v_assignC rfl) rfl ?_
    refine s_val (v_assignC rfl) rfl ?_
    refine s_nil ?_
    refine S_ ?_
    refine c_region ?_
    refine s_val (v_moveC rfl) rfl ?_
    refine s_val (v_moveC rfl) rfl ?_
    refine s_val (v_eqlN (a := 2) (b := 0) rfl rfl) rfl ?_
    refine s_val (v_eqlB rfl rfl Try.underlying4) rfl ?_
    refine s_val (v_moveC rfl) rfl ?_
    refine s_go GO_ ?_
    refine s_val (v_moveC rfl) rfl ?_
    refine s_go GO_ ?_
    refine s_val (v_moveC rfl) rfl ?_
    refine s_no GO_ rfl ?_
    refine s_no GO_ rfl ?_
    refine s_no GO_ rfl ?_
    refine s_no GO_ rfl ?_
    refine s_no GO_ rfl ?_
    refine s_no GO_ rfl ?_
    refine s_go GO_ ?_
    refine s_val (v_pickF rfl PK_ rfl) rfl ?_
    refine s_go GO_ ?_
    refine s_val (v_moveC rfl) rfl ?_
    refine s_go GO_ ?_
    refine s_val (v_moveC rfl) rfl ?_
    refine s_go GO_ ?_
    refine s_val (v_unnotB rfl) rfl ?_
    refine s_go GO_ ?_
    refine s_val (v_moveC rfl) rfl ?_
    refine s_go GO_ ?_
    refine s_val (v_moveC rfl) rfl ?_
    refine s_go GO_ ?_
    refine s_val (v_eqlN (a := 2) (b := 2) rfl rfl) rfl ?_
    refine s_go GO_ ?_
    refine s_val (v_pickT rfl PK_ rfl) rfl ?_
    refine s_go GO_ ?_
    refine s_val (v_moveC rfl) rfl ?_
    refine s_go GO_ ?_
    refine s_val (v_moveC rfl) rfl ?_
    refine s_go GO_ ?_
    refine s_val (v_lenN rfl Try.underlying24) rfl ?_
    refine s_go GO_ ?_
    refine s_val (v_eqlN (a := 0) (b := 0) rfl rfl) rfl ?_
    refine s_go GO_ ?_
    refine s_val (v_pickT rfl PK_ rfl) rfl ?_
    refine s_go GO_ ?_
    refine s_val (v_pickF rfl PK_ rfl) rfl ?_
    refine s_val (v_pickT rfl PK_ rfl) rfl ?_
    refine s_val (v_moveC rfl) rfl ?_
    refine s_go GO_ ?_
    refine s_evN (e_callR (wakes_ev) ok_12 rfl rfl rfl VAL_) APP_ rfl ?_
    refine s_val (v_pickT rfl PK_ rfl) rfl ?_
    refine s_val (v_assignC rfl) rfl ?_
    refine s_nil ?_
    refine S_ ?_
    exact k_1 (by first | exact r_tmpC rfl | exact r_tmpA rfl) (by first | kernel_rfl | rfl)
  · try simp only [if_neg hc1] at *
    refine c_condF rfl (by simpa using hc1) ?_
    refine S_ ?_
    refine c_region ?_
    refine s_val (v_eql64 (b := 1#64) rfl rfl) rfl ?_
    refine s_val (v_assignC rfl) rfl ?_
    refine s_nil ?_
    refine Q_ ?_
    by_cases hc2 : (((BitVec.ofInt 64 which) % 3#64) == 1#64) = true
    all_goals (have hc2_ := hc2; try simp at hc2_)
    · try simp only [if_pos hc2] at *
      refine c_condT rfl (hc2) ?_
      refine S_ ?_
      refine c_region ?_
      refine s_val (v_loadR rfl rfl row_22 sz_22 EQ_ (by decide)) rfl ?_
      refine s_val (v_blf8 (l := (zer8 12)) za_23 Try.underlying23 sz_5 rfl rfl) rfl ?_
      refine s_val (v_moveC rfl) rfl ?_
      refine s_memN (m_bs8 (l := [120#8]) Try.underlying24 el_5 rfl rfl (by decide) (by decide) LEN_) APP_ rfl ?_
      refine s_mark rfl Try.underlying24 Try.underlying5 rfl rfl (by decide) LEN_ KILL_ rfl ?_
      refine s_evN (e_callR (bs := [1,3]) (adSealA_ev key (zer8 12) (zer8 65537) 65537 65537 [120#8] 1 1 HYP_ HYP_ HYP_ HYP_ HYP_ HYP_ HYP_) ok_9 (by kernel_rfl) (by kernel_rfl) rfl VAL_) APP_ rfl ?_
      refine s_val (v_moveT rfl) rfl ?_
      refine s_val (v_extract rfl rfl) rfl ?_
      refine s_val (v_extract rfl rfl) rfl ?_
      refine s_val (v_assignC rfl) rfl ?_
      refine s_val (v_assignC rfl) rfl ?_
      refine s_nil ?_
      refine S_ ?_
      refine c_region ?_
      refine s_val (v_moveC rfl) rfl ?_
      refine s_val (v_moveC rfl) rfl ?_
      refine s_val (v_eqlN (a := 2) (b := 0) rfl rfl) rfl ?_
      refine s_val (v_eqlB rfl rfl Try.underlying4) rfl ?_
      refine s_val (v_moveC rfl) rfl ?_
      refine s_go GO_ ?_
      refine s_val (v_moveC rfl) rfl ?_
      refine s_go GO_ ?_
      refine s_val (v_moveC rfl) rfl ?_
      refine s_no GO_ rfl ?_
      refine s_no GO_ rfl ?_
      refine s_no GO_ rfl ?_
      refine s_go GO_ ?_
      refine s_val (v_pickF rfl PK_ rfl) rfl ?_
      refine s_go GO_ ?_
      refine s_val (v_moveC rfl) rfl ?_
      refine s_go GO_ ?_
      refine s_val (v_moveC rfl) rfl ?_
      refine s_go GO_ ?_
      refine s_val (v_unnotB rfl) rfl ?_
      refine s_go GO_ ?_
      refine s_val (v_moveC rfl) rfl ?_
      refine s_go GO_ ?_
      refine s_val (v_moveC rfl) rfl ?_
      refine s_go GO_ ?_
      refine s_val (v_eqlN (a := 2) (b := 2) rfl rfl) rfl ?_
      refine s_go GO_ ?_
      refine s_val (v_pickT rfl PK_ rfl) rfl ?_
      refine s_go GO_ ?_
      refine s_val (v_moveC rfl) rfl ?_
      refine s_go GO_ ?_
      refine s_val (v_moveC rfl) rfl ?_
      refine s_go GO_ ?_
      refine s_val (v_lenN rfl Try.underlying24) rfl ?_
      refine s_go GO_ ?_
      refine s_val (v_eqlN (a := 0) (b := 0) rfl rfl) rfl ?_
      refine s_go GO_ ?_
      refine s_val (v_pickT rfl PK_ rfl) rfl ?_
      refine s_go GO_ ?_
      refine s_val (v_pickF rfl PK_ rfl) rfl ?_
      refine s_val (v_pickT rfl PK_ rfl) rfl ?_
      refine s_val (v_moveC rfl) rfl ?_
      refine s_go GO_ ?_
      refine s_evN (e_callR (wakes_ev) ok_12 rfl rfl rfl VAL_) APP_ rfl ?_
      refine s_val (v_pickT rfl PK_ rfl) rfl ?_
      refine s_val (v_assignC rfl) rfl ?_
      refine s_nil ?_
      refine S_ ?_
      exact k_1 (by first | exact r_tmpC rfl | exact r_tmpA rfl) (by first | kernel_rfl | rfl)
    · try simp only [if_neg hc2] at *
      refine c_condF rfl (by simpa using hc2) ?_
      refine S_ ?_
      refine c_region ?_
      refine s_val (v_moveC rfl) rfl ?_
      refine s_val (v_lenS rfl Try.underlying24) rfl ?_
      refine s_val (v_addN (a := 65537) (b := 16) rfl rfl (by omega)) rfl ?_
      refine s_memN (m_make8 (a := 65553) (b := 65553) Try.underlying24 rfl rfl el_5 rep_5 (by omega) (by omega) (by omega) LEN_) APP_ rfl ?_
      refine s_val (v_assignC rfl) rfl ?_
      refine s_nil ?_
      refine S_ ?_
      refine c_region ?_
      refine s_val (v_loadR rfl rfl row_22 sz_22 EQ_ (by decide)) rfl ?_
      refine s_val (v_blf8 (l := (zer8 12)) za_23 Try.underlying23 sz_5 rfl rfl) rfl ?_
      refine s_val (v_moveC rfl) rfl ?_
      refine s_evN (e_callR (bs := [2]) (adOpenT_evNT key (zer8 12) (zer8 65553) 65553 65553 HYP_ HYP_ HYP_ HYP_ HYP_ HYP_) ok_13 (by kernel_rfl) (by kernel_rfl) rfl VAL_) APP_ rfl ?_
      refine s_val (v_moveT rfl) rfl ?_
      refine s_val (v_extract rfl rfl) rfl ?_
      refine s_val (v_extract rfl rfl) rfl ?_
      refine s_val (v_assignC rfl) rfl ?_
      refine s_val (v_assignC rfl) rfl ?_
      refine s_nil ?_
      refine S_ ?_
      refine c_region ?_
      refine s_val (v_moveC rfl) rfl ?_
      refine s_val (v_moveC rfl) rfl ?_
      refine s_go GO_ ?_
      refine s_val (v_moveC rfl) rfl ?_
      refine s_go GO_ ?_
      refine s_val (v_eqlN (a := 2) (b := 2) rfl rfl) rfl ?_
      refine s_val (v_pickF rfl PK_ rfl) rfl ?_
      refine s_val (v_moveC rfl) rfl ?_
      refine s_go GO_ ?_
      refine s_val (v_moveC rfl) rfl ?_
      refine s_go GO_ ?_
      refine s_val (v_unnotB rfl) rfl ?_
      refine s_go GO_ ?_
      refine s_val (v_moveC rfl) rfl ?_
      refine s_no GO_ rfl ?_
      refine s_no GO_ rfl ?_
      refine s_go GO_ ?_
      refine s_val (v_pickT rfl PK_ rfl) rfl ?_
      refine s_val (v_pickT rfl PK_ rfl) rfl ?_
      refine s_val (v_moveC rfl) rfl ?_
      refine s_go GO_ ?_
      refine s_evN (e_callR (wakes_ev) ok_12 rfl rfl rfl VAL_) APP_ rfl ?_
      refine s_val (v_pickT rfl PK_ rfl) rfl ?_
      refine s_val (v_assignC rfl) rfl ?_
      refine s_nil ?_
      refine S_ ?_
      exact k_1 (by first | exact r_tmpC rfl | exact r_tmpA rfl) (by first | kernel_rfl | rfl)
end Go.Proofs.Ytcjponmaeamjdaa
/- trystlaw05.AeadBounds (Drawn up by a program.) -/
namespace Go.Proofs.Ytcjponmaeamjdaa
open Go.RowKit

set_option maxRecDepth 100000 in
set_option maxHeartbeats 2000000 in
theorem aeadBounds2_ev (key : List (BitVec 8)) (which : Int) (hkey : key.length = 32) : Ev Try.prog (.call 6 [.agg (.a8 (key)), .c (.val (.int .i64 ((2 : Nat) : Int))), .c (.val (.int .i64 which))] []) (.val (.c (.val (.bool (true)))) []) := by
  refine c_call Try.func6 rfl Try.ntmps6 rfl LEN_ ?_
  refine S_ ?_
  refine c_region ?_
  refine s_memN (m_box BX_ LEN_) APP_ rfl ?_
  refine s_val (v_assignC rfl) rfl ?_
  refine s_nil ?_
  refine S_ ?_
  refine c_region ?_
  refine s_val (v_moveC rfl) rfl ?_
  refine s_val (v_lssI rfl rfl) rfl ?_
  refine s_val (v_moveC rfl) rfl ?_
  refine s_go GO_ ?_
  refine s_val (v_moveC rfl) rfl ?_
  refine s_go GO_ ?_
  refine s_val (v_gtrN (a := 2) (b := 2) rfl rfl) rfl ?_
  refine s_val (v_pickF rfl PK_ rfl) rfl ?_
  refine s_nil ?_
  refine S_ ?_
  refine c_region ?_
  refine s_val (v_moveC rfl) rfl ?_
  refine s_val (v_addN (a := 65536) (b := 2) rfl rfl (by omega)) rfl ?_
  refine s_memN (m_make8 (a := 65538) (b := 65538) Try.underlying24 rfl rfl el_5 rep_5 (by omega) (by omega) (by omega) LEN_) APP_ rfl ?_
  refine s_val (v_assignC rfl) rfl ?_
  refine s_nil ?_
  refine S_ ?_
  refine c_region ?_
  refine s_val (v_moveC rfl) rfl ?_
  refine s_val (v_leqN (a := 2) (b := 0) rfl rfl) rfl ?_
  refine s_val (v_assignC rfl) rfl ?_
  refine s_nil ?_
  refine S_ ?_
  refine c_region ?_
  refine s_val (v_moveC rfl) rfl ?_
  refine s_val (v_conv rfl Try.underlying3 Try.underlying36 (wI_64 _)) rfl ?_
  refine s_val (v_rem64 (b := 3#64) rfl rfl (by first | decide | assumption)) rfl ?_
  refine s_nil ?_
  refine S_ ?_
  refine c_region ?_
  refine s_val (v_eql64 (b := 0#64) rfl rfl) rfl ?_
  refine s_val (v_assignC rfl) rfl ?_
  refine s_nil ?_
  refine Q_ ?_
  by_cases hc1 : (((BitVec.ofInt 64 which) % 3#64) == 0#64) = true
  all_goals (have hc1_ := hc1; try simp at hc1_)
  · try simp only [if_pos hc1] at *
    refine c_condT rfl (hc1) ?_
    refine S_ ?_
    refine c_region ?_
    refine s_val (v_loadR rfl rfl row_22 sz_22 EQ_ (by decide)) rfl ?_
    refine s_val (v_blf8 (l := (zer8 12)) za_23 Try.underlying23 sz_5 rfl rfl) rfl ?_
    refine s_val (v_moveC rfl) rfl ?_
    refine s_evN (e_callR (bs := [1]) (adSealT_evNT key (zer8 12) (zer8 65538) 65538 65538 HYP_ HYP_ HYP_ HYP_ HYP_) ok_9 (by kernel_rfl) (by kernel_rfl) rfl VAL_) APP_ rfl ?_
    refine s_val (v_moveT rfl) rfl ?_
    refine s_val (v_extract rfl rfl) rfl ?_
    refine s_val (v_extract rfl rfl) rfl ?_
    refine s_val (v_assignC rfl) rfl ?_
    refine s_val (v_assignC rfl) rfl ?_
    refine s_nil ?_
    refine S_ ?_
    refine c_region ?_
    refine s_val (v_moveC rfl) rfl ?_
    refine s_val (v_moveC rfl) rfl ?_
    refine s_val (v_eqlN (a := 2) (b := 0) rfl rfl) rfl ?_
    refine s_val (v_eqlB rfl rfl Try.underlying4) rfl ?_
    refine s_val (v_moveC rfl) rfl ?_
    refine s_go GO_ ?_
    refine s_val (v_moveC rfl) rfl ?_
    refine s_go GO_ ?_
    refine s_val (v_moveC rfl) rfl ?_
    refine s_no GO_ rfl ?_
    refine s_no GO_ rfl ?_
    refine s_no GO_ rfl ?_
    refine s_no GO_ rfl ?_
    refine s_no GO_ rfl ?_
    refine s_no GO_ rfl ?_
    refine s_go GO_ ?_
    refine s_val (v_pickF rfl PK_ rfl) rfl ?_
    refine s_go GO_ ?_
    refine s_val (v_moveC rfl) rfl ?_
    refine s_go GO_ ?_
    refine s_val (v_moveC rfl) rfl ?_
    refine s_go GO_ ?_
    refine s_val (v_unnotB rfl) rfl ?_
    refine s_go GO_ ?_
    refine s_val (v_moveC rfl) rfl ?_
    refine s_go GO_ ?_
    refine s_val (v_moveC rfl) rfl ?_
    refine s_go GO_ ?_
    refine s_val (v_eqlN (a := 2) (b := 2) rfl rfl) rfl ?_
    refine s_go GO_ ?_
    refine s_val (v_pickT rfl PK_ rfl) rfl ?_
    refine s_go GO_ ?_
    refine s_val (v_moveC rfl) rfl ?_
    refine s_go GO_ ?_
    refine s_val (v_moveC rfl) rfl ?_
    refine s_go GO_ ?_
    refine s_val (v_lenN rfl Try.underlying24) rfl ?_
    refine s_go GO_ ?_
    refine s_val (v_eqlN (a := 0) (b := 0) rfl rfl) rfl ?_
    refine s_go GO_ ?_
    refine s_val (v_pickT rfl PK_ rfl) rfl ?_
    refine s_go GO_ ?_
    refine s_val (v_pickF rfl PK_ rfl) rfl ?_
    refine s_val (v_pickT rfl PK_ rfl) rfl ?_
    refine s_val (v_moveC rfl) rfl ?_
    refine s_go GO_ ?_
    refine s_evN (e_callR (wakes_ev) ok_12 rfl rfl rfl VAL_) APP_ rfl ?_
    refine s_val (v_pickT rfl PK_ rfl) rfl ?_
    refine s_val (v_assignC rfl) rfl ?_
    refine s_nil ?_
    refine S_ ?_
    exact k_1 (by first | exact r_tmpC rfl | exact r_tmpA rfl) (by first | kernel_rfl | rfl)
  · try simp only [if_neg hc1] at *
    refine c_condF rfl (by simpa using hc1) ?_
    refine S_ ?_
    refine c_region ?_
    refine s_val (v_eql64 (b := 1#64) rfl rfl) rfl ?_
    refine s_val (v_assignC rfl) rfl ?_
    refine s_nil ?_
    refine Q_ ?_
    by_cases hc2 : (((BitVec.ofInt 64 which) % 3#64) == 1#64) = true
    all_goals (have hc2_ := hc2; try simp at hc2_)
    · try simp only [if_pos hc2] at *
      refine c_condT rfl (hc2) ?_
      refine S_ ?_
      refine c_region ?_
      refine s_val (v_loadR rfl rfl row_22 sz_22 EQ_ (by decide)) rfl ?_
      refine s_val (v_blf8 (l := (zer8 12)) za_23 Try.underlying23 sz_5 rfl rfl) rfl ?_
      refine s_val (v_moveC rfl) rfl ?_
      refine s_memN (m_bs8 (l := [120#8]) Try.underlying24 el_5 rfl rfl (by decide) (by decide) LEN_) APP_ rfl ?_
      refine s_mark rfl Try.underlying24 Try.underlying5 rfl rfl (by decide) LEN_ KILL_ rfl ?_
      refine s_evN (e_callR (bs := [1,3]) (adSealA_ev key (zer8 12) (zer8 65538) 65538 65538 [120#8] 1 1 HYP_ HYP_ HYP_ HYP_ HYP_ HYP_ HYP_) ok_9 (by kernel_rfl) (by kernel_rfl) rfl VAL_) APP_ rfl ?_
      refine s_val (v_moveT rfl) rfl ?_
      refine s_val (v_extract rfl rfl) rfl ?_
      refine s_val (v_extract rfl rfl) rfl ?_
      refine s_val (v_assignC rfl) rfl ?_
      refine s_val (v_assignC rfl) rfl ?_
      refine s_nil ?_
      refine S_ ?_
      refine c_region ?_
      refine s_val (v_moveC rfl) rfl ?_
      refine s_val (v_moveC rfl) rfl ?_
      refine s_val (v_eqlN (a := 2) (b := 0) rfl rfl) rfl ?_
      refine s_val (v_eqlB rfl rfl Try.underlying4) rfl ?_
      refine s_val (v_moveC rfl) rfl ?_
      refine s_go GO_ ?_
      refine s_val (v_moveC rfl) rfl ?_
      refine s_go GO_ ?_
      refine s_val (v_moveC rfl) rfl ?_
      refine s_no GO_ rfl ?_
      refine s_no GO_ rfl ?_
      refine s_no GO_ rfl ?_
      refine s_go GO_ ?_
      refine s_val (v_pickF rfl PK_ rfl) rfl ?_
      refine s_go GO_ ?_
      refine s_val (v_moveC rfl) rfl ?_
      refine s_go GO_ ?_
      refine s_val (v_moveC rfl) rfl ?_
      refine s_go GO_ ?_
      refine s_val (v_unnotB rfl) rfl ?_
      refine s_go GO_ ?_
      refine s_val (v_moveC rfl) rfl ?_
      refine s_go GO_ ?_
      refine s_val (v_moveC rfl) rfl ?_
      refine s_go GO_ ?_
      refine s_val (v_eqlN (a := 2) (b := 2) rfl rfl) rfl ?_
      refine s_go GO_ ?_
      refine s_val (v_pickT rfl PK_ rfl) rfl ?_
      refine s_go GO_ ?_
      refine s_val (v_moveC rfl) rfl ?_
      refine s_go GO_ ?_
      refine s_val (v_moveC rfl) rfl ?_
      refine s_go GO_ ?_
      refine s_val (v_lenN rfl Try.underlying24) rfl ?_
      refine s_go GO_ ?_
      refine s_val (v_eqlN (a := 0) (b := 0) rfl rfl) rfl ?_
      refine s_go GO_ ?_
      refine s_val (v_pickT rfl PK_ rfl) rfl ?_
      refine s_go GO_ ?_
      refine s_val (v_pickF rfl PK_ rfl) rfl ?_
      refine s_val (v_pickT rfl PK_ rfl) rfl ?_
      refine s_val (v_moveC rfl) rfl ?_
      refine s_go GO_ ?_
      refine s_evN (e_callR (wakes_ev) ok_12 rfl rfl rfl VAL_) APP_ rfl ?_
      refine s_val (v_pickT rfl PK_ rfl) rfl ?_
      refine s_val (v_assignC rfl) rfl ?_
      refine s_nil ?_
      refine S_ ?_
      exact k_1 (by first | exact r_tmpC rfl | exact r_tmpA rfl) (by first | kernel_rfl | rfl)
    · try simp only [if_neg hc2] at *
      refine c_condF rfl (by simpa using hc2) ?_
      refine S_ ?_
      refine c_region ?_
      refine s_val (v_moveC rfl) rfl ?_
      refine s_val (v_lenS rfl Try.underlying24) rfl ?_
      refine s_val (v_addN (a := 65538) (b := 16) rfl rfl (by omega)) rfl ?_
      refine s_memN (m_make8 (a := 65554) (b := 65554) Try.underlying24 rfl rfl el_5 rep_5 (by omega) (by omega) (by omega) LEN_) APP_ rfl ?_
      refine s_val (v_assignC rfl) rfl ?_
      refine s_nil ?_
      refine S_ ?_
      refine c_region ?_
      refine s_val (v_loadR rfl rfl row_22 sz_22 EQ_ (by decide)) rfl ?_
      refine s_val (v_blf8 (l := (zer8 12)) za_23 Try.underlying23 sz_5 rfl rfl) rfl ?_
      refine s_val (v_moveC rfl) rfl ?_
      refine s_evN (e_callR (bs := [2]) (adOpenT_evNT key (zer8 12) (zer8 65554) 65554 65554 HYP_ HYP_ HYP_ HYP_ HYP_ HYP_) ok_13 (by kernel_rfl) (by kernel_rfl) rfl VAL_) APP_ rfl ?_
      refine s_val (v_moveT rfl) rfl ?_
      refine s_val (v_extract rfl rfl) rfl ?_
      refine s_val (v_extract rfl rfl) rfl ?_
      refine s_val (v_assignC rfl) rfl ?_
      refine s_val (v_assignC rfl) rfl ?_
      refine s_nil ?_
      refine S_ ?_
      refine c_region ?_
      refine s_val (v_moveC rfl) rfl ?_
      refine s_val (v_moveC rfl) rfl ?_
      refine s_go GO_ ?_
      refine s_val (v_moveC rfl) rfl ?_
      refine s_go GO_ ?_
      refine s_val (v_eqlN (a := 2) (b := 2) rfl rfl) rfl ?_
      refine s_val (v_pickF rfl PK_ rfl) rfl ?_
      refine s_val (v_moveC rfl) rfl ?_
      refine s_go GO_ ?_
      refine s_val (v_moveC rfl) rfl ?_
      refine s_go GO_ ?_
      refine s_val (v_unnotB rfl) rfl ?_
      refine s_go GO_ ?_
      refine s_val (v_moveC rfl) rfl ?_
      refine s_no GO_ rfl ?_
      refine s_no GO_ rfl ?_
      refine s_go GO_ ?_
      refine s_val (v_pickT rfl PK_ rfl) rfl ?_
      refine s_val (v_pickT rfl PK_ rfl) rfl ?_
      refine s_val (v_moveC rfl) rfl ?_
      refine s_go GO_ ?_
      refine s_evN (e_callR (wakes_ev) ok_12 rfl rfl rfl VAL_) APP_ rfl ?_
      refine s_val (v_pickT rfl PK_ rfl) rfl ?_
      refine s_val (v_assignC rfl) rfl ?_
      refine s_nil ?_
      refine S_ ?_
      exact k_1 (by first | exact r_tmpC rfl | exact r_tmpA rfl) (by first | kernel_rfl | rfl)
end Go.Proofs.Ytcjponmaeamjdaa
/- trystlaw05.AeadBounds, trystlaw05.AeadBounds (Drawn up by a program.) -/
namespace Go.Proofs.Ytcjponmaeamjdaa
open Go.RowKit

set_option maxRecDepth 100000 in
set_option maxHeartbeats 2000000 in
theorem aeadBoundsL_ev (key : List (BitVec 8)) (over : Int) (which : Int) (hkey : key.length = 32) (hO : over < -1) : Ev Try.prog (.call 6 [.agg (.a8 (key)), .c (.val (.int .i64 over)), .c (.val (.int .i64 which))] []) (.val (.c (.val (.bool (true)))) []) := by
  refine c_call Try.func6 rfl Try.ntmps6 rfl LEN_ ?_
  refine S_ ?_
  refine c_region ?_
  refine s_memN (m_box BX_ LEN_) APP_ rfl ?_
  refine s_val (v_assignC rfl) rfl ?_
  refine s_nil ?_
  refine S_ ?_
  refine c_region ?_
  refine s_val (v_moveC rfl) rfl ?_
  refine s_val (v_lssI rfl rfl) rfl ?_
  refine s_val (v_moveC rfl) rfl ?_
  refine s_no GO_ rfl ?_
  refine s_no GO_ rfl ?_
  refine s_val (v_pickT rfl PK_ rfl) rfl ?_
  refine s_nil ?_
  refine S_ ?_
  refine c_region ?_
  refine s_val (v_assignC rfl) rfl ?_
  refine s_nil ?_
  refine S_ ?_
  exact k_1 (by first | exact r_tmpC rfl | exact r_tmpA rfl) (by first | kernel_rfl | rfl)


set_option maxRecDepth 100000 in
set_option maxHeartbeats 2000000 in
theorem aeadBoundsG_ev (key : List (BitVec 8)) (over : Int) (which : Int) (hkey : key.length = 32) (hO : 2 < over) : Ev Try.prog (.call 6 [.agg (.a8 (key)), .c (.val (.int .i64 over)), .c (.val (.int .i64 which))] []) (.val (.c (.val (.bool (true)))) []) := by
  refine c_call Try.func6 rfl Try.ntmps6 rfl LEN_ ?_
  refine S_ ?_
  refine c_region ?_
  refine s_memN (m_box BX_ LEN_) APP_ rfl ?_
  refine s_val (v_assignC rfl) rfl ?_
  refine s_nil ?_
  refine S_ ?_
  refine c_region ?_
  refine s_val (v_moveC rfl) rfl ?_
  refine s_val (v_lssI rfl rfl) rfl ?_
  refine s_val (v_moveC rfl) rfl ?_
  refine s_go GO_ ?_
  refine s_val (v_moveC rfl) rfl ?_
  refine s_go GO_ ?_
  refine s_val (v_gtrI rfl rfl) rfl ?_
  refine s_val (v_pickF rfl PK_ rfl) rfl ?_
  refine s_nil ?_
  refine S_ ?_
  refine c_region ?_
  refine s_val (v_assignC rfl) rfl ?_
  refine s_nil ?_
  refine S_ ?_
  exact k_1 (by first | exact r_tmpC rfl | exact r_tmpA rfl) (by first | kernel_rfl | rfl)
end Go.Proofs.Ytcjponmaeamjdaa
/- trystlaw05.AeadBounds, all cases. -/
namespace Go.Proofs.Ytcjponmaeamjdaa
open Go.RowKit
theorem aeadBounds_ev (key : List (BitVec 8)) (over : Int) (which : Int) (hkey : key.length = 32) : Ev Try.prog (.call 6 [.agg (.a8 (key)), .c (.val (.int .i64 over)), .c (.val (.int .i64 which))] []) (.val (.c (.val (.bool (true)))) []) := by
  rcases (by omega : over < -1 ∨ over = -1 ∨ over = 0 ∨ over = 1 ∨ over = 2 ∨ 2 < over) with h | h | h | h | h | h
  · exact aeadBoundsL_ev key over which hkey h
  · subst h
    by_cases hE : rfTagA key (zer8 12) [] (cut (zer8 65551) 0 (65551 - 16)) = cut (zer8 65551) (65551 - 16) 16
    · exact aeadBoundsJ_ev key which hkey hE
    · exact aeadBoundsJE_ev key which hkey hE
  · subst h
    by_cases hE : rfTagA key (zer8 12) [] (cut (zer8 65552) 0 (65552 - 16)) = cut (zer8 65552) (65552 - 16) 16
    · exact aeadBounds0_ev key which hkey hE
    · exact aeadBounds0E_ev key which hkey hE
  · subst h; exact aeadBounds1_ev key which hkey
  · subst h; exact aeadBounds2_ev key which hkey
  · exact aeadBoundsG_ev key over which hkey h
end Go.Proofs.Ytcjponmaeamjdaa
/- trystlaw05.AeadParts (Drawn up by a program.) -/
namespace Go.Proofs.Ytcjponmaeamjdaa
open Go.RowKit

set_option maxRecDepth 100000 in
set_option maxHeartbeats 2000000 in
theorem aeadParts_ev (key : List (BitVec 8)) (nonce : List (BitVec 8)) (text : List (BitVec 8)) (tcap : Nat) (hkey : key.length = 32) (hnonce : nonce.length = 12) : Ev Try.prog (.call 7 [.agg (.a8 (key)), .agg (.a8 (nonce)), .c (.sl 0 0 text.length tcap 1)] [.row false (.a8 (text))]) (.val (.c (.val (.bool (true)))) [.row false (.a8 (text))]) := by
  refine c_call Try.func7 rfl Try.ntmps7 rfl LEN_ ?_
  refine S_ ?_
  refine c_region ?_
  refine s_memN (m_box BX_ LEN_) APP_ rfl ?_
  refine s_memN (m_box BX_ LEN_) APP_ rfl ?_
  refine s_val (v_assignC rfl) rfl ?_
  refine s_nil ?_
  refine S_ ?_
  refine c_region ?_
  refine s_val (v_moveC rfl) rfl ?_
  refine s_val (v_lenS rfl Try.underlying24) rfl ?_
  refine s_val (v_gtrN (b := 1000) rfl rfl) rfl ?_
  refine s_nil ?_
  refine Q_ ?_
  by_cases hc1 : 1000 < text.length
  · try simp only [if_pos hc1] at *
    refine c_condT rfl (decide_eq_true hc1) ?_
    refine S_ ?_
    refine c_region ?_
    refine s_val (v_assignC rfl) rfl ?_
    refine s_nil ?_
    refine S_ ?_
    exact k_1 (by first | exact r_tmpC rfl | exact r_tmpA rfl) (by first | kernel_rfl | rfl)
  · try simp only [if_neg hc1] at *
    refine c_condF rfl (decide_eq_false hc1) ?_
    have hQ2 : (rfSeal key nonce [] text).length = text.length + 16 := LQ_
    refine S_ ?_
    refine c_region ?_
    refine s_val (v_loadR rfl rfl row_22 sz_22 EQ_ (by decide)) rfl ?_
    refine s_val (v_loadR rfl rfl row_23 sz_23 EQ_ (by decide)) rfl ?_
    refine s_val (v_moveC rfl) rfl ?_
    refine s_evN (e_callR (bs := [0]) (adSealR_evNT key nonce text text.length tcap HYP_ HYP_ HYP_ HYP_ HYP_) ok_9 (by kernel_rfl) (by kernel_rfl) rfl VAL_) APP_ rfl ?_
    refine s_val (v_moveT rfl) rfl ?_
    refine s_val (v_extract rfl rfl) rfl ?_
    refine s_val (v_extract rfl rfl) rfl ?_
    refine s_val (v_assignC rfl) rfl ?_
    refine s_val (v_assignC rfl) rfl ?_
    refine s_nil ?_
    have hQ3 : (rfSeal key nonce [] text).length = text.length + 16 := LQ_
    refine S_ ?_
    refine c_region ?_
    refine s_val (v_loadR rfl rfl row_22 sz_22 EQ_ (by decide)) rfl ?_
    refine s_val (v_loadR rfl rfl row_23 sz_23 EQ_ (by decide)) rfl ?_
    refine s_val (v_moveC rfl) rfl ?_
    refine s_evN (e_callR (bs := [0]) (adSealR_evNT key nonce text text.length tcap HYP_ HYP_ HYP_ HYP_ HYP_) ok_9 (by kernel_rfl) (by kernel_rfl) rfl VAL_) APP_ rfl ?_
    refine s_val (v_moveT rfl) rfl ?_
    refine s_val (v_extract rfl rfl) rfl ?_
    refine s_val (v_extract rfl rfl) rfl ?_
    refine s_val (v_assignC rfl) rfl ?_
    refine s_val (v_assignC rfl) rfl ?_
    refine s_nil ?_
    have hQ4 : (rfSeal key nonce [] []).length = 16 := LQ_
    refine S_ ?_
    refine c_region ?_
    refine s_val (v_loadR rfl rfl row_22 sz_22 EQ_ (by decide)) rfl ?_
    refine s_val (v_loadR rfl rfl row_23 sz_23 EQ_ (by decide)) rfl ?_
    refine s_evN (e_callR (bs := []) (adSealR_evNN key nonce HYP_ HYP_) ok_9 (by kernel_rfl) (by kernel_rfl) rfl VAL_) APP_ rfl ?_
    refine s_val (v_moveT rfl) rfl ?_
    refine s_val (v_extract rfl rfl) rfl ?_
    refine s_val (v_extract rfl rfl) rfl ?_
    refine s_val (v_assignC rfl) rfl ?_
    refine s_val (v_assignC rfl) rfl ?_
    refine s_nil ?_
    refine S_ ?_
    refine c_region ?_
    refine s_val (v_moveC rfl) rfl ?_
    refine s_val (v_neqN (a := 0) (b := 0) rfl rfl) rfl ?_
    refine s_val (v_moveC rfl) rfl ?_
    refine s_go GO_ ?_
    refine s_val (v_moveC rfl) rfl ?_
    refine s_go GO_ ?_
    refine s_val (v_neqN (a := 0) (b := 0) rfl rfl) rfl ?_
    refine s_val (v_pickF rfl PK_ rfl) rfl ?_
    refine s_val (v_moveC rfl) rfl ?_
    refine s_go GO_ ?_
    refine s_val (v_moveC rfl) rfl ?_
    refine s_go GO_ ?_
    refine s_val (v_neqN (a := 0) (b := 0) rfl rfl) rfl ?_
    refine s_val (v_pickF rfl PK_ rfl) rfl ?_
    refine s_val (v_moveC rfl) rfl ?_
    refine s_go GO_ ?_
    refine s_val (v_moveC rfl) rfl ?_
    refine s_go GO_ ?_
    refine s_val (v_moveC rfl) rfl ?_
    refine s_go GO_ ?_
    refine s_evN (e_callR (bs := [3,4]) (bytes_ev (rfSeal key nonce [] text) (rfSeal key nonce [] text) 0 0 (text.length + 16) (text.length + 16) (text.length + 16) HYP_ HYP_ HYP_ (fun _ _ => rfl)) ok_10 (by kernel_rfl) (by kernel_rfl) rfl VAL_) APP_ rfl ?_
    refine s_go GO_ ?_
    refine s_val (v_unnotB rfl) rfl ?_
    refine s_val (v_pickF rfl PK_ rfl) rfl ?_
    refine s_val (v_moveC rfl) rfl ?_
    refine s_go GO_ ?_
    refine s_val (v_moveC rfl) rfl ?_
    refine s_go GO_ ?_
    refine s_val (v_lenS rfl Try.underlying24) rfl ?_
    refine s_go GO_ ?_
    refine s_val (v_neqN (a := 16) (b := 16) rfl rfl) rfl ?_
    refine s_val (v_pickF rfl PK_ rfl) rfl ?_
    refine s_val (v_moveC rfl) rfl ?_
    refine s_go GO_ ?_
    refine s_val (v_moveC rfl) rfl ?_
    refine s_go GO_ ?_
    refine s_val (v_lenS rfl Try.underlying24) rfl ?_
    refine s_go GO_ ?_
    refine s_val (v_moveC rfl) rfl ?_
    refine s_go GO_ ?_
    refine s_val (v_lenS rfl Try.underlying24) rfl ?_
    refine s_go GO_ ?_
    refine s_val (v_addN (b := 16) rfl rfl (by omega)) rfl ?_
    refine s_go GO_ ?_
    refine s_val (v_neqN rfl rfl) rfl ?_
    refine s_val (v_pickF rfl PK_ rfl) rfl ?_
    refine s_nil ?_
    have hQ5 : (chBlock key 0#32 nonce).length = 64 := LQ_
    refine S_ ?_
    refine c_region ?_
    refine s_val (v_loadR rfl rfl row_22 sz_22 EQ_ (by decide)) rfl ?_
    refine s_val (v_loadR rfl rfl row_23 sz_23 EQ_ (by decide)) rfl ?_
    refine s_evN (e_callR (bs := []) (chBlock_ev key 0#32 nonce HYP_ HYP_) ok_16 (by kernel_rfl) (by kernel_rfl) rfl VAL_) APP_ rfl ?_
    refine s_memN (m_alloc al_39 LEN_) APP_ rfl ?_
    refine s_storeR rfl rfl rfl rfl sz_39 EQ_ EQ_ SET_ ?_
    refine s_nil ?_
    refine S_ ?_
    refine c_region ?_
    refine s_memN (m_alloc al_22 LEN_) APP_ rfl ?_
    refine s_nil ?_
    have hQ6 : (cut (chBlock key 0#32 nonce) 0 32).length = 32 := LQ_
    refine S_ ?_
    refine c_draw 2 mixed (by kernel_rfl) rfl rfl rfl ?_
    refine h_val (v_slA1 (l := 0) (h := 32) (len := 32) (cp := 32) rfl Try.underlying22 sz_5 rfl rfl rfl (by omega) (by omega) FIT_ rfl rfl) rfl ?_
    refine h_val (v_slA1 (l := 0) (h := 32) (len := 32) (cp := 64) rfl Try.underlying39 sz_5 rfl rfl rfl (by omega) (by omega) FIT_ rfl rfl) rfl ?_
    refine h_nil ?_
    refine s_copy8w rfl rfl rfl rfl Try.underlying24 sz_5 EQL_ LE_ MN_ rfl SET_ rfl ?_
    refine s_nil ?_
    have hQ7 : (polyTag (cut (chBlock key 0#32 nonce) 0 32) (zer8 16)).length = 16 := LQ_
    refine S_ ?_
    refine c_draw 4 mixed (by kernel_rfl) rfl rfl rfl ?_
    refine h_val (v_loadR rfl rfl row_22 sz_22 EQ_ (by decide)) rfl ?_
    refine h_memN (m_make8 (a := 16) (b := 16) Try.underlying24 rfl rfl el_5 rep_5 (by omega) (by omega) (by omega) LEN_) APP_ rfl ?_
    refine h_evN (e_callR (polyTag_ev (cut (chBlock key 0#32 nonce) 0 32) (zer8 16) 16 16 HYP_ HYP_ HYP_) ok_17 rfl rfl rfl VAL_) APP_ rfl ?_
    refine h_memN (m_alloc al_42 LEN_) APP_ rfl ?_
    refine h_nil ?_
    refine s_storeR rfl rfl rfl rfl sz_42 EQ_ EQ_ SET_ ?_
    refine s_nil ?_
    have hQ8 : (chXor key 1#32 nonce text).length = text.length := LQ_
    refine S_ ?_
    refine c_draw 18 mixed (by kernel_rfl) rfl rfl rfl ?_
    refine h_val (v_moveC rfl) rfl ?_
    refine h_val (v_moveC rfl) rfl ?_
    refine h_val (v_lenS rfl Try.underlying24) rfl ?_
    refine h_val (v_slS0 rfl Try.underlying24 sz_5 rfl (by omega)) rfl ?_
    refine h_val (v_loadR rfl rfl row_22 sz_22 EQ_ (by decide)) rfl ?_
    refine h_val (v_loadR rfl rfl row_23 sz_23 EQ_ (by decide)) rfl ?_
    refine h_val (v_moveC rfl) rfl ?_
    refine h_evN (e_callR (bs := [0]) (chXor_evS key 1#32 nonce text text.length tcap HYP_ HYP_ HYP_ HYP_) ok_18 (by kernel_rfl) (by kernel_rfl) rfl VAL_) APP_ rfl ?_
    refine h_evN (e_callR (bs := [3,10]) (bytes_ev (rfSeal key nonce [] text) (chXor key 1#32 nonce text) 0 0 text.length (text.length + 16) text.length HYP_ HYP_ HYP_ (fun i hi => by rw [Nat.zero_add]; exact seal_front key nonce [] text i hkey hnonce hi)) ok_10 (by kernel_rfl) (by kernel_rfl) rfl VAL_) APP_ rfl ?_
    refine h_val (v_moveC rfl) rfl ?_
    refine h_go GO_ ?_
    refine h_val (v_moveC rfl) rfl ?_
    refine h_go GO_ ?_
    refine h_val (v_slA1 (l := 0) (h := 16) (len := 16) (cp := 16) rfl Try.underlying42 sz_5 rfl rfl rfl (by omega) (by omega) FIT_ rfl rfl) rfl ?_
    refine h_go GO_ ?_
    refine h_evN (e_callR (bs := [5,9]) (bytes_ev (rfSeal key nonce [] []) (polyTag (cut (chBlock key 0#32 nonce) 0 32) (zer8 16)) 0 0 16 16 16 HYP_ HYP_ HYP_ (fun i _ => by rw [seal_none key nonce hkey hnonce])) ok_10 (by kernel_rfl) (by kernel_rfl) rfl VAL_) APP_ rfl ?_
    refine h_val (v_pickT rfl PK_ rfl) rfl ?_
    refine h_val (v_moveC rfl) rfl ?_
    refine h_go GO_ ?_
    refine h_evN (e_callR (wakes_ev) ok_12 rfl rfl rfl VAL_) APP_ rfl ?_
    refine h_val (v_pickT rfl PK_ rfl) rfl ?_
    refine h_val (v_assignC rfl) rfl ?_
    refine h_nil ?_
    refine s_nil ?_
    refine S_ ?_
    exact k_1 (by first | exact r_tmpC rfl | exact r_tmpA rfl) (by first | kernel_rfl | rfl)
end Go.Proofs.Ytcjponmaeamjdaa
