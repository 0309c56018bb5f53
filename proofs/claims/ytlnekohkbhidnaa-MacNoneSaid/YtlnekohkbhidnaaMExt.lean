/- mac.Extract, mac.Extract (Drawn up by a program.) -/
import Derived.Test.YtlnekohkbhidnaaMSame
namespace Go.Proofs.Ytlnekohkbhidnaa
open Go.RowKit

set_option maxRecDepth 100000 in
set_option maxHeartbeats 2000000 in
theorem macExt_ev (key : List (BitVec 8)) (kn : Nat) (kcap : Nat) (b : List (BitVec 8)) (n : Nat) (cap : Nat) (hkey : key.length = kn) (hkn : kn ≤ 1099511627776) (hb : b.length = n) (hn : n ≤ 1099511627776) : Ev Try.prog (.call 15 [.c (.sl 0 0 kn kcap 1), .c (.sl 1 0 n cap 1)] [.row false (.a8 (key)), .row false (.a8 (b))]) (.val (.agg (.a8 (macSum key b))) [.row false (.a8 (key)), .row false (.a8 (b))]) := by
  subst hkey
  subst hb
  refine c_call Try.func15 rfl Try.ntmps15 rfl LEN_ ?_
  refine S_ ?_
  refine c_region ?_
  refine s_memN (m_alloc al_23 LEN_) APP_ rfl ?_
  refine s_nil ?_
  refine S_ ?_
  refine c_region ?_
  refine s_val (v_moveC rfl) rfl ?_
  refine s_val (v_moveC rfl) rfl ?_
  refine s_evN (e_callR (bs := [0,1]) (macSum_ev key key.length kcap b b.length cap HYP_ HYP_ HYP_ HYP_) ok_8 (by kernel_rfl) (by kernel_rfl) rfl VAL_) APP_ rfl ?_
  refine s_storeR rfl rfl rfl rfl sz_23 EQ_ EQ_ SET_ ?_
  refine s_nil ?_
  have hQ1 : (macSum key b).length = 32 := LQ_
  refine S_ ?_
  exact k_1 (r_row rfl rfl row_23 sz_23 EQ_ (by decide)) (by first | kernel_rfl | rfl)


set_option maxRecDepth 100000 in
set_option maxHeartbeats 2000000 in
theorem macExtN_ev (b : List (BitVec 8)) (n : Nat) (cap : Nat) (hb : b.length = n) (hn : n ≤ 1099511627776) : Ev Try.prog (.call 15 [.c .nsl, .c (.sl 0 0 n cap 1)] [.row false (.a8 (b))]) (.val (.agg (.a8 (macSum [] b))) [.row false (.a8 (b))]) := by
  subst hb
  refine c_call Try.func15 rfl Try.ntmps15 rfl LEN_ ?_
  refine S_ ?_
  refine c_region ?_
  refine s_memN (m_alloc al_23 LEN_) APP_ rfl ?_
  refine s_nil ?_
  refine S_ ?_
  refine c_region ?_
  refine s_val (v_moveC rfl) rfl ?_
  refine s_val (v_moveC rfl) rfl ?_
  refine s_evN (e_callR (bs := [0]) (macSumN_ev b b.length cap HYP_ HYP_) ok_8 (by kernel_rfl) (by kernel_rfl) rfl VAL_) APP_ rfl ?_
  refine s_storeR rfl rfl rfl rfl sz_23 EQ_ EQ_ SET_ ?_
  refine s_nil ?_
  have hQ1 : (macSum [] b).length = 32 := LQ_
  refine S_ ?_
  exact k_1 (r_row rfl rfl row_23 sz_23 EQ_ (by decide)) (by first | kernel_rfl | rfl)
theorem rfMac_evA (key : List (BitVec 8)) (kn kcap : Nat) (b : List (BitVec 8)) (n cap : Nat) (hkey : key.length = kn) (hkn : kn ≤ 1099511627776) (hb : b.length = n) (hn : n ≤ 1099511627776) : Ev Try.prog (.call 14 [.c (.sl 0 0 kn kcap 1), .c (.sl 1 0 n cap 1)] [.row false (.a8 key), .row false (.a8 b)]) (.val (.agg (.a8 (macSum key b))) [.row false (.a8 key), .row false (.a8 b)]) := by
  rw [← mac_same]; exact rfMac_ev key kn kcap b n cap hkey hkn hb hn
theorem rfExp_evA (key : List (BitVec 8)) (kn kcap : Nat) (info : List (BitVec 8)) (m mcap n : Nat) (hkey : key.length = kn) (hkn : kn ≤ 1099511627) (hinfo : info.length = m) (hm : m ≤ 1099511627) (hn : n ≤ 1099511627) (hok : n ≤ 8160) : Ev Try.prog (.call 16 [.c (.sl 0 0 kn kcap 1), .c (.sl 1 0 m mcap 1), .c (.val (.int .i64 ((n : Nat) : Int)))] [.row false (.a8 key), .row false (.a8 info)]) (.val (.c (.sl 2 0 n (32 * ((n + 31) / 32)) 1)) [.row false (.a8 key), .row false (.a8 info), .row true (.a8 (expAll key info ((n + 31) / 32)))]) := by
  rw [← rfExp_all]; exact rfExp_ev key kn kcap info m mcap n hkey hkn hinfo hm hn hok
theorem wkM_eq : macSum [11#8, 11#8, 11#8, 11#8, 11#8, 11#8, 11#8, 11#8, 11#8, 11#8, 11#8, 11#8, 11#8, 11#8, 11#8, 11#8, 11#8, 11#8, 11#8, 11#8] [72#8, 105#8, 32#8, 84#8, 104#8, 101#8, 114#8, 101#8] = [176#8, 52#8, 76#8, 97#8, 216#8, 219#8, 56#8, 83#8, 92#8, 168#8, 175#8, 206#8, 175#8, 11#8, 241#8, 43#8, 136#8, 29#8, 194#8, 0#8, 201#8, 131#8, 61#8, 167#8, 38#8, 233#8, 55#8, 108#8, 46#8, 50#8, 207#8, 247#8] := by kernel_rfl
def wkM : List (BitVec 8) := [176#8, 52#8, 76#8, 97#8, 216#8, 219#8, 56#8, 83#8, 92#8, 168#8, 175#8, 206#8, 175#8, 11#8, 241#8, 43#8, 136#8, 29#8, 194#8, 0#8, 201#8, 131#8, 61#8, 167#8, 38#8, 233#8, 55#8, 108#8, 46#8, 50#8, 207#8, 247#8]
theorem wkM_ev (K : List (BitVec 8)) (h : K = [11#8, 11#8, 11#8, 11#8, 11#8, 11#8, 11#8, 11#8, 11#8, 11#8, 11#8, 11#8, 11#8, 11#8, 11#8, 11#8, 11#8, 11#8, 11#8, 11#8]) : Ev Try.prog (.call 8 [.c (.sl 0 0 20 20 1), .c (.sl 1 0 8 8 1)] [.row false (.a8 K), .row false (.a8 [72#8, 105#8, 32#8, 84#8, 104#8, 101#8, 114#8, 101#8])]) (.val (.agg (.a8 wkM)) [.row false (.a8 K), .row false (.a8 [72#8, 105#8, 32#8, 84#8, 104#8, 101#8, 114#8, 101#8])]) := by
  subst h
  have h := macSum_ev [11#8, 11#8, 11#8, 11#8, 11#8, 11#8, 11#8, 11#8, 11#8, 11#8, 11#8, 11#8, 11#8, 11#8, 11#8, 11#8, 11#8, 11#8, 11#8, 11#8] 20 20 [72#8, 105#8, 32#8, 84#8, 104#8, 101#8, 114#8, 101#8] 8 8 rfl (by decide) rfl (by decide)
  rw [wkM_eq] at h
  exact h
end Go.Proofs.Ytlnekohkbhidnaa
