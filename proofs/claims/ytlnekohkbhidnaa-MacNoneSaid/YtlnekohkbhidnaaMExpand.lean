/- mac.Expand, mac.Expand, mac.Expand (Drawn up by a program.) -/
import Derived.Test.YtlnekohkbhidnaaMSum
import Derived.Test.YtlnekohkbhidnaaAvTy
namespace Go.Proofs.Ytlnekohkbhidnaa
open Go.RowKit

set_option maxRecDepth 100000 in
set_option maxHeartbeats 2000000 in
theorem macExpJ_ev (key : List (BitVec 8)) (kn : Nat) (kcap : Nat) (info : List (BitVec 8)) (m : Nat) (mcap : Nat) (z : Int) (hkey : key.length = kn) (hkn : kn ≤ 1099511627776) (hinfo : info.length = m) (hm : m ≤ 1099511627776) (hz : z < 0) : Ev Try.prog (.call 12 [.c (.sl 0 0 kn kcap 1), .c (.sl 1 0 m mcap 1), .c (.val (.int .i64 z))] [.row false (.a8 (key)), .row false (.a8 (info))]) (.val (.tup [.c .nsl, .c (.val (.int .i64 ((2 : Nat) : Int)))]) [.row false (.a8 (key)), .row false (.a8 (info))]) := by
  subst hkey
  subst hinfo
  refine c_call Try.func12 rfl Try.ntmps12 rfl LEN_ ?_
  refine S_ ?_
  refine c_region ?_
  refine s_val (v_assignC rfl) rfl ?_
  refine s_val (v_assignC rfl) rfl ?_
  refine s_nil ?_
  refine S_ ?_
  refine c_region ?_
  refine s_val (v_moveC rfl) rfl ?_
  refine s_val (v_lssI rfl rfl) rfl ?_
  refine s_val (v_moveC rfl) rfl ?_
  refine s_no GO_ rfl ?_
  refine s_no GO_ rfl ?_
  refine s_val (v_pickT rfl PK_ rfl) rfl ?_
  refine s_nil ?_
  refine S_ ?_
  refine c_region ?_
  refine s_val (v_assignC rfl) rfl ?_
  refine s_val (v_assignC rfl) rfl ?_
  refine s_nil ?_
  refine S_ ?_
  exact k_2 (by first | exact r_tmpC rfl | exact r_tmpA rfl) (by first | exact r_tmpC rfl | exact r_tmpA rfl) (by first | kernel_rfl | rfl)


set_option maxRecDepth 100000 in
set_option maxHeartbeats 2000000 in
theorem macExpG_ev (key : List (BitVec 8)) (kn : Nat) (kcap : Nat) (info : List (BitVec 8)) (m : Nat) (mcap : Nat) (n : Nat) (hkey : key.length = kn) (hkn : kn ≤ 9223372036854775807) (hinfo : info.length = m) (hm : m ≤ 9223372036854775807) (hn : n ≤ 9223372036854775807) (hbig : 8160 < n) : Ev Try.prog (.call 12 [.c (.sl 0 0 kn kcap 1), .c (.sl 1 0 m mcap 1), .c (.val (.int .i64 ((n : Nat) : Int)))] [.row false (.a8 (key)), .row false (.a8 (info))]) (.val (.tup [.c .nsl, .c (.val (.int .i64 ((2 : Nat) : Int)))]) [.row false (.a8 (key)), .row false (.a8 (info))]) := by
  subst hkey
  subst hinfo
  refine c_call Try.func12 rfl Try.ntmps12 rfl LEN_ ?_
  refine S_ ?_
  refine c_region ?_
  refine s_val (v_assignC rfl) rfl ?_
  refine s_val (v_assignC rfl) rfl ?_
  refine s_nil ?_
  refine S_ ?_
  refine c_region ?_
  refine s_val (v_moveC rfl) rfl ?_
  refine s_val (v_lssN (b := 0) rfl rfl) rfl ?_
  refine s_val (v_moveC rfl) rfl ?_
  refine s_go GO_ ?_
  refine s_val (v_moveC rfl) rfl ?_
  refine s_go GO_ ?_
  refine s_val (v_gtrN (b := 8160) rfl rfl) rfl ?_
  refine s_val (v_pickF rfl PK_ rfl) rfl ?_
  refine s_nil ?_
  refine Q_ ?_
  refine c_condT rfl (decide_eq_true (by omega)) ?_
  refine S_ ?_
  refine c_region ?_
  refine s_val (v_assignC rfl) rfl ?_
  refine s_val (v_assignC rfl) rfl ?_
  refine s_nil ?_
  refine S_ ?_
  exact k_2 (by first | exact r_tmpC rfl | exact r_tmpA rfl) (by first | exact r_tmpC rfl | exact r_tmpA rfl) (by first | kernel_rfl | rfl)

def macExp_L5_S (key : List (BitVec 8)) (info : List (BitVec 8)) (X1 : List (BitVec 8)) (X2 : List (BitVec 8)) (j5 : Nat) : List (BitVec 8) × List (BitVec 8) := (X1 ++ (macSum key ((X2 ++ info) ++ [BitVec.ofNat 8 (1 + j5)])), macSum key ((X2 ++ info) ++ [BitVec.ofNat 8 (1 + j5)]))
def macExp_L5 (key : List (BitVec 8)) (info : List (BitVec 8)) : Nat → List (BitVec 8) × List (BitVec 8)
  | 0 => ([], [])
  | j5 + 1 => macExp_L5_S key info (macExp_L5 key info j5).1 (macExp_L5 key info j5).2 j5
@[simp] theorem macExp_L5_len0 (key : List (BitVec 8)) (info : List (BitVec 8)) (j5 : Nat) : (macExp_L5 key info j5).1.length = 32 * j5 := by
  induction j5 with
  | zero => first | (simp [macExp_L5, *]; done) | (simp [macExp_L5, *]; omega)
  | succ j5 ih => rw [macExp_L5.eq_2, macExp_L5_S]; first | (simp [ih]; done) | (simp [ih]; omega) | (simp [*]; done) | (split <;> first | (simp [ih]; done) | (simp [ih]; omega) | (simp [*]; done))
@[simp] theorem macExp_L5_len1 (key : List (BitVec 8)) (info : List (BitVec 8)) (j5 : Nat) : (macExp_L5 key info j5).2.length = lst j5 := by
  induction j5 with
  | zero => first | (simp [macExp_L5, *]; done) | (simp [macExp_L5, *]; omega)
  | succ j5 ih => rw [macExp_L5.eq_2, macExp_L5_S]; first | (simp [ih]; done) | (simp [ih]; omega) | (simp [*]; done) | (split <;> first | (simp [ih]; done) | (simp [ih]; omega) | (simp [*]; done))
def macExp0 (key : List (BitVec 8)) (info : List (BitVec 8)) (n : Nat) : List (BitVec 8) := cut ((macExp_L5 key info ((n + 31) / 32)).1) 0 n
set_option maxRecDepth 100000 in
set_option maxHeartbeats 2000000 in
theorem macExp_ev (key : List (BitVec 8)) (kn : Nat) (kcap : Nat) (info : List (BitVec 8)) (m : Nat) (mcap : Nat) (n : Nat) (hkey : key.length = kn) (hkn : kn ≤ 1099511627) (hinfo : info.length = m) (hm : m ≤ 1099511627) (hn : n ≤ 1099511627) (hok : n ≤ 8160) : Ev Try.prog (.call 12 [.c (.sl 0 0 kn kcap 1), .c (.sl 1 0 m mcap 1), .c (.val (.int .i64 ((n : Nat) : Int)))] [.row false (.a8 (key)), .row false (.a8 (info))]) (.val (.tup [.c (.sl 2 0 n n 1), .c (.val (.int .i64 ((0 : Nat) : Int)))]) [.row false (.a8 (key)), .row false (.a8 (info)), .row true (.a8 (macExp0 key info n))]) := by
  have hP_macExp0 : Hid (macExp0 key info n = cut ((macExp_L5 key info ((n + 31) / 32)).1) 0 n) := ⟨rfl⟩
  subst hkey
  subst hinfo
  refine c_call Try.func12 rfl Try.ntmps12 rfl LEN_ ?_
  refine S_ ?_
  refine c_region ?_
  refine s_val (v_assignC rfl) rfl ?_
  refine s_val (v_assignC rfl) rfl ?_
  refine s_nil ?_
  refine S_ ?_
  refine c_region ?_
  refine s_val (v_moveC rfl) rfl ?_
  refine s_val (v_lssN (b := 0) rfl rfl) rfl ?_
  refine s_val (v_moveC rfl) rfl ?_
  refine s_go GO_ ?_
  refine s_val (v_moveC rfl) rfl ?_
  refine s_go GO_ ?_
  refine s_val (v_gtrN (b := 8160) rfl rfl) rfl ?_
  refine s_val (v_pickF rfl PK_ rfl) rfl ?_
  refine s_nil ?_
  refine Q_ ?_
  refine c_condF rfl (decide_eq_false (by omega)) ?_
  refine S_ ?_
  refine c_region ?_
  refine s_val (v_assignC rfl) rfl ?_
  refine s_val (v_assignC rfl) rfl ?_
  refine s_nil ?_
  refine S_ ?_
  refine c_region ?_
  refine s_val (v_assignC rfl) rfl ?_
  refine s_nil ?_
  refine S_ ?_
  refine c_nil 8 1 (.a8 ([])) rfl rfl LEN_ rfl ?_
  refine S_ ?_
  refine c_nil 9 1 (.a8 ([])) rfl rfl LEN_ rfl ?_
  refine S_ ?_
  refine c_loopC [0, 1, 2, 8, 9, 10] (fun (zz : Nat × List (BitVec 8) × List (BitVec 8)) => ⟨44, keepT [0, 1, 2, 8, 9, 10] [.c (.sl 0 0 key.length kcap 1), .c (.sl 1 0 info.length mcap 1), .c (.val (.int .i64 (((n : Nat) : Int)))), .c (.sl 2 0 (32 * zz.1) (32 * zz.1) 1), .c (.sl 3 0 (lst zz.1) (lst zz.1) 1), .c (.val (.int .i64 (((1 + zz.1 : Nat) : Int))))], [.row false (.a8 (key)), .row false (.a8 (info)), .row true (.a8 (zz.2.1)), .row true (.a8 (zz.2.2))]⟩) (fun j5 => (j5, macExp_L5 key info j5)) ((n + 31) / 32) (by kernel_rfl) ?_ ?_
  · intro j5 hj5
    try dsimp only
    have hX1 : (macExp_L5 key info j5).1.length = 32 * j5 := by rw [macExp_L5_len0 key info _]; try omega
    have hX2 : (macExp_L5 key info j5).2.length = lst j5 := by rw [macExp_L5_len1 key info _]; try omega
    have hl := lst_le j5
    rw [macExp_L5.eq_2, macExp_L5_S]
    generalize macExp_L5 key info j5 = Z3 at *
    obtain ⟨X1, X2⟩ := Z3
    try dsimp only at *
    refine S_ ?_
    refine c_region ?_
    refine s_val (v_moveC rfl) rfl ?_
    refine s_val (v_lenS rfl Try.underlying22) rfl ?_
    refine s_val (v_moveC rfl) rfl ?_
    refine s_val (v_lssN rfl rfl) rfl ?_
    refine s_nil ?_
    refine S_ ?_
    refine c_region ?_
    refine s_val (v_moveC rfl) rfl ?_
    refine s_memN (m_bs0 Try.underlying22 el_5) APP_ rfl ?_
    refine s_val (v_moveC rfl) rfl ?_
    refine s_memN (m_appE8 rfl rfl rfl Try.underlying22 Try.underlying22 el_5 EQL_ (by omega) LEN_) APP_ rfl ?_
    refine s_val (v_moveC rfl) rfl ?_
    refine s_app8 rfl rfl rfl rfl Try.underlying22 Try.underlying22 el_5 EQL_ EQL_ (by omega) LEN_ KILL_ rfl ?_
    refine s_val (v_moveC rfl) rfl ?_
    refine s_val (v_conv rfl Try.underlying3 Try.underlying5 (wi_8 _)) rfl ?_
    refine s_memN (m_bs8 (l := [_]) Try.underlying22 el_5 rfl rfl (by decide) (by decide) LEN_) APP_ rfl ?_
    refine s_app8 rfl rfl rfl rfl Try.underlying22 Try.underlying22 el_5 EQL_ EQL_ (by omega) LEN_ KILL_ rfl ?_
    refine s_evN (e_callR (bs := [0,7]) (macSum_ev key key.length kcap ((X2 ++ info) ++ [BitVec.ofNat 8 (1 + j5)]) (((lst j5) + info.length) + 1) (((lst j5) + info.length) + 1) HYP_ HYP_ HYP_ HYP_) ok_8 (by kernel_rfl) (by kernel_rfl) rfl VAL_) APP_ rfl ?_
    refine s_memN (m_alloc al_23 LEN_) APP_ rfl ?_
    refine s_storeR rfl rfl rfl rfl sz_23 EQ_ EQ_ SET_ ?_
    refine s_nil ?_
    have hQ4 : (macSum key ((X2 ++ info) ++ [BitVec.ofNat 8 (1 + j5)])).length = 32 := LQ_
    refine S_ ?_
    refine c_region ?_
    refine s_val (v_slA1 (l := 0) (h := 32) (len := 32) (cp := 32) rfl Try.underlying23 sz_5 rfl rfl rfl (by omega) (by omega) FIT_ rfl rfl) rfl ?_
    refine s_val (v_assignC rfl) rfl ?_
    refine s_nil ?_
    refine S_ ?_
    refine c_region ?_
    refine s_val (v_moveC rfl) rfl ?_
    refine s_val (v_moveC rfl) rfl ?_
    refine s_app8 rfl rfl rfl rfl Try.underlying22 Try.underlying22 el_5 EQL_ EQL_ (by omega) LEN_ KILL_ rfl ?_
    refine s_val (v_assignC rfl) rfl ?_
    refine s_nil ?_
    refine S_ ?_
    refine c_region ?_
    refine s_val (v_moveC rfl) rfl ?_
    refine s_val (v_addN (b := 1) rfl rfl (by omega)) rfl ?_
    refine s_val (v_assignC rfl) rfl ?_
    refine s_nil ?_
    exact ⟨(j5 + 1, _), by kernel_rfl, rfl⟩
  · try dsimp only
    have hY5 : (macExp_L5 key info ((n + 31) / 32)).1.length = 32 * ((n + 31) / 32) := by rw [macExp_L5_len0 key info _]; try omega
    have hY6 : (macExp_L5 key info ((n + 31) / 32)).2.length = lst ((n + 31) / 32) := by rw [macExp_L5_len1 key info _]; try omega
    have hl := lst_le ((n + 31) / 32)
    generalize macExp_L5 key info ((n + 31) / 32) = Z7 at *
    obtain ⟨Y5, Y6⟩ := Z7
    try dsimp only at *
    refine S_ ?_
    refine c_region ?_
    refine s_val (v_moveC rfl) rfl ?_
    refine s_val (v_lenS rfl Try.underlying22) rfl ?_
    refine s_val (v_moveC rfl) rfl ?_
    refine s_val (v_lssN rfl rfl) rfl ?_
    refine s_nil ?_
    refine S_ ?_
    refine c_region ?_
    refine s_memN (m_bs0 Try.underlying22 el_5) APP_ rfl ?_
    refine s_val (v_moveC rfl) rfl ?_
    refine s_val (v_moveC rfl) rfl ?_
    refine s_val (v_slS0 rfl Try.underlying22 sz_5 rfl (by omega)) rfl ?_
    refine s_memN (m_appE8c rfl rfl rfl Try.underlying22 Try.underlying22 el_5 LE_ (by omega) LEN_) APP_ rfl ?_
    refine s_val (v_assignC rfl) rfl ?_
    refine s_val (v_assignC rfl) rfl ?_
    refine s_nil ?_
    refine S_ ?_
    rw [hP_macExp0.out]
    exact k_2 (by first | exact r_tmpC rfl | exact r_tmpA rfl) (by first | exact r_tmpC rfl | exact r_tmpA rfl) (by first | kernel_rfl | rfl)

@[simp] theorem macExp0_len (key : List (BitVec 8)) (info : List (BitVec 8)) (n : Nat) : (macExp0 key info n).length = n := by
  unfold macExp0
  first | (simp [macExp_L5_len0, macExp_L5_len1, *]; done) | (simp [macExp_L5_len0, macExp_L5_len1, *]; omega)

attribute [irreducible] macExp0
end Go.Proofs.Ytlnekohkbhidnaa
