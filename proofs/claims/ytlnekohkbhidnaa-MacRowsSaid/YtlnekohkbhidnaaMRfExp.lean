/- trystref01.Expand (Drawn up by a program.) -/
import Derived.Test.YtlnekohkbhidnaaMRfMac
import Derived.Test.YtlnekohkbhidnaaMJoin
namespace Go.Proofs.Ytlnekohkbhidnaa
open Go.RowKit
def rfExp_L3_S (key : List (BitVec 8)) (info : List (BitVec 8)) (X1 : List (BitVec 8)) (X2 : List (BitVec 8)) (j3 : Nat) : List (BitVec 8) × List (BitVec 8) := (X1 ++ (rfMac key ((X2 ++ info) ++ [BitVec.ofNat 8 (1 + j3)])), (rfMac key ((X2 ++ info) ++ [BitVec.ofNat 8 (1 + j3)])))
def rfExp_L3 (key : List (BitVec 8)) (info : List (BitVec 8)) : Nat → List (BitVec 8) × List (BitVec 8)
  | 0 => ([], [])
  | j3 + 1 => rfExp_L3_S key info (rfExp_L3 key info j3).1 (rfExp_L3 key info j3).2 j3
@[simp] theorem rfExp_L3_len0 (key : List (BitVec 8)) (info : List (BitVec 8)) (j3 : Nat) : (rfExp_L3 key info j3).1.length = 32 * j3 := by
  induction j3 with
  | zero => first | (simp [rfExp_L3, *]; done) | (simp [rfExp_L3, *]; omega)
  | succ j3 ih => rw [rfExp_L3.eq_2, rfExp_L3_S]; first | (simp [ih]; done) | (simp [ih]; omega) | (simp [*]; done) | (split <;> first | (simp [ih]; done) | (simp [ih]; omega) | (simp [*]; done))
@[simp] theorem rfExp_L3_len1 (key : List (BitVec 8)) (info : List (BitVec 8)) (j3 : Nat) : (rfExp_L3 key info j3).2.length = lst j3 := by
  induction j3 with
  | zero => first | (simp [rfExp_L3, *]; done) | (simp [rfExp_L3, *]; omega)
  | succ j3 ih => rw [rfExp_L3.eq_2, rfExp_L3_S]; first | (simp [ih]; done) | (simp [ih]; omega) | (simp [*]; done) | (split <;> first | (simp [ih]; done) | (simp [ih]; omega) | (simp [*]; done))
def rfExp (key : List (BitVec 8)) (info : List (BitVec 8)) (n : Nat) : List (BitVec 8) := ((rfExp_L3 key info ((n + 31) / 32)).1)
set_option maxRecDepth 100000 in
set_option maxHeartbeats 2000000 in
theorem rfExp_ev (key : List (BitVec 8)) (kn : Nat) (kcap : Nat) (info : List (BitVec 8)) (m : Nat) (mcap : Nat) (n : Nat) (hkey : key.length = kn) (hkn : kn ≤ 1099511627) (hinfo : info.length = m) (hm : m ≤ 1099511627) (hn : n ≤ 1099511627) (hok : n ≤ 8160) : Ev Try.prog (.call 16 [.c (.sl 0 0 kn kcap 1), .c (.sl 1 0 m mcap 1), .c (.val (.int .i64 ((n : Nat) : Int)))] [.row false (.a8 (key)), .row false (.a8 (info))]) (.val (.c (.sl 2 0 n (32 * ((n + 31) / 32)) 1)) [.row false (.a8 (key)), .row false (.a8 (info)), .row true (.a8 (rfExp key info n))]) := by
  have hP : Hid (rfExp key info n = ((rfExp_L3 key info ((n + 31) / 32)).1)) := ⟨rfl⟩
  subst hkey
  subst hinfo
  refine c_call Try.func16 rfl Try.ntmps16 rfl LEN_ ?_
  refine S_ ?_
  refine c_region ?_
  refine s_val (v_assignC rfl) rfl ?_
  refine s_nil ?_
  refine S_ ?_
  refine c_region ?_
  refine s_val (v_assignC rfl) rfl ?_
  refine s_val (v_assignC rfl) rfl ?_
  refine s_nil ?_
  refine S_ ?_
  refine c_region ?_
  refine s_val (v_assignC rfl) rfl ?_
  refine s_nil ?_
  refine S_ ?_
  refine c_nil 7 1 (.a8 ([])) rfl rfl LEN_ rfl ?_
  refine S_ ?_
  refine c_nil 8 1 (.a8 ([])) rfl rfl LEN_ rfl ?_
  refine S_ ?_
  refine c_loopC [0, 1, 2, 7, 8, 9] (fun (zz : Nat × List (BitVec 8) × List (BitVec 8)) => ⟨35, keepT [0, 1, 2, 7, 8, 9] [.c (.sl 0 0 key.length kcap 1), .c (.sl 1 0 info.length mcap 1), .c (.val (.int .i64 (((n : Nat) : Int)))), .c (.sl 2 0 (32 * zz.1) (32 * zz.1) 1), .c (.sl 3 0 (lst zz.1) (lst zz.1) 1), .c (.val (.int .i64 (((1 + zz.1 : Nat) : Int))))], [.row false (.a8 (key)), .row false (.a8 (info)), .row true (.a8 (zz.2.1)), .row true (.a8 (zz.2.2))]⟩) (fun j3 => (j3, rfExp_L3 key info j3)) ((n + 31) / 32) (by kernel_rfl) ?_ ?_
  · intro j3 hj3
    try dsimp only
    have hX1 : (rfExp_L3 key info j3).1.length = 32 * j3 := by rw [rfExp_L3_len0 key info _]; try omega
    have hX2 : (rfExp_L3 key info j3).2.length = lst j3 := by rw [rfExp_L3_len1 key info _]; try omega
    have hl := lst_le j3
    rw [rfExp_L3.eq_2, rfExp_L3_S]
    generalize rfExp_L3 key info j3 = Z3 at *
    obtain ⟨X1, X2⟩ := Z3
    try dsimp only at *
    refine S_ ?_
    refine c_region ?_
    refine s_val (v_moveC rfl) rfl ?_
    refine s_val (v_lenS rfl Try.underlying22) rfl ?_
    refine s_val (v_moveC rfl) rfl ?_
    refine s_val (v_lssN rfl rfl) rfl ?_
    refine s_nil ?_
    refine S_ ?_
    refine c_region ?_
    refine s_val (v_moveC rfl) rfl ?_
    refine s_val (v_moveC rfl) rfl ?_
    refine s_val (v_moveC rfl) rfl ?_
    refine s_val (v_moveC rfl) rfl ?_
    refine s_val (v_conv rfl Try.underlying3 Try.underlying5 (wi_8 _)) rfl ?_
    refine s_memN (m_bs8 (l := [_]) Try.underlying22 el_5 rfl rfl (by decide) (by decide) LEN_) APP_ rfl ?_
    refine s_memN (m_bsc Try.underlying50 el_22 (rep_22 _) rfl CS_ (by decide) (by decide) LEN_) APP_ rfl ?_
    refine s_evN (e_callR (bs := [5,3,1,4]) (rfJoin3_ev X2 (lst j3) (lst j3) info info.length mcap [BitVec.ofNat 8 (1 + j3)] 1 1 HYP_ HYP_ HYP_ HYP_ HYP_ HYP_) ok_22 (by kernel_rfl) (by kernel_rfl) rfl VAL_) APP_ rfl ?_
    refine s_evN (e_callR (bs := [0,6]) (rfMac_ev key key.length kcap ((X2 ++ info) ++ [BitVec.ofNat 8 (1 + j3)]) (((lst j3) + info.length) + 1) (((lst j3) + info.length) + 1) HYP_ HYP_ HYP_ HYP_) ok_14 (by kernel_rfl) (by kernel_rfl) rfl VAL_) APP_ rfl ?_
    refine s_memN (m_alloc al_23 LEN_) APP_ rfl ?_
    refine s_storeR rfl rfl rfl rfl sz_23 EQ_ EQ_ SET_ ?_
    refine s_nil ?_
    have hQ4 : ((X2 ++ info) ++ [BitVec.ofNat 8 (1 + j3)]).length = ((lst j3) + info.length) + 1 := LQ_
    have hQ5 : (rfMac key ((X2 ++ info) ++ [BitVec.ofNat 8 (1 + j3)])).length = 32 := LQ_
    refine S_ ?_
    refine c_region ?_
    refine s_val (v_slA1 (l := 0) (h := 32) (len := 32) (cp := 32) rfl Try.underlying23 sz_5 rfl rfl rfl (by omega) (by omega) FIT_ rfl rfl) rfl ?_
    refine s_memN (m_bsc Try.underlying50 el_22 (rep_22 _) rfl CS_ (by decide) (by decide) LEN_) APP_ rfl ?_
    refine s_evN (e_callR (bs := [8,7]) (rfJoin1_ev (rfMac key ((X2 ++ info) ++ [BitVec.ofNat 8 (1 + j3)])) 32 32 HYP_ HYP_) ok_22 (by kernel_rfl) (by kernel_rfl) rfl VAL_) APP_ rfl ?_
    refine s_val (v_assignC rfl) rfl ?_
    refine s_nil ?_
    have hQ6 : ((rfMac key ((X2 ++ info) ++ [BitVec.ofNat 8 (1 + j3)]))).length = 32 := LQ_
    refine S_ ?_
    refine c_region ?_
    refine s_val (v_moveC rfl) rfl ?_
    refine s_val (v_moveC rfl) rfl ?_
    refine s_app8 rfl rfl rfl rfl Try.underlying22 Try.underlying22 el_5 EQL_ EQL_ (by omega) LEN_ KILL_ rfl ?_
    refine s_val (v_assignC rfl) rfl ?_
    refine s_nil ?_
    refine S_ ?_
    refine c_region ?_
    refine s_val (v_moveC rfl) rfl ?_
    refine s_val (v_addN (b := 1) rfl rfl (by omega)) rfl ?_
    refine s_val (v_assignC rfl) rfl ?_
    refine s_nil ?_
    exact ⟨(j3 + 1, _), by kernel_rfl, rfl⟩
  · try dsimp only
    have hY7 : (rfExp_L3 key info ((n + 31) / 32)).1.length = 32 * ((n + 31) / 32) := by rw [rfExp_L3_len0 key info _]; try omega
    have hY8 : (rfExp_L3 key info ((n + 31) / 32)).2.length = lst ((n + 31) / 32) := by rw [rfExp_L3_len1 key info _]; try omega
    have hl := lst_le ((n + 31) / 32)
    generalize rfExp_L3 key info ((n + 31) / 32) = Z9 at *
    obtain ⟨Y7, Y8⟩ := Z9
    try dsimp only at *
    refine S_ ?_
    refine c_region ?_
    refine s_val (v_moveC rfl) rfl ?_
    refine s_val (v_lenS rfl Try.underlying22) rfl ?_
    refine s_val (v_moveC rfl) rfl ?_
    refine s_val (v_lssN rfl rfl) rfl ?_
    refine s_nil ?_
    refine S_ ?_
    refine c_region ?_
    refine s_val (v_moveC rfl) rfl ?_
    refine s_val (v_moveC rfl) rfl ?_
    refine s_val (v_slS0 rfl Try.underlying22 sz_5 rfl (by omega)) rfl ?_
    refine s_val (v_assignC rfl) rfl ?_
    refine s_nil ?_
    refine S_ ?_
    rw [hP.out]
    exact k_1 (by first | exact r_tmpC rfl | exact r_tmpA rfl) (by first | kernel_rfl | rfl)

@[simp] theorem rfExp_len (key : List (BitVec 8)) (info : List (BitVec 8)) (n : Nat) : (rfExp key info n).length = 32 * ((n + 31) / 32) := by
  unfold rfExp
  first | (simp [rfExp_L3_len0, rfExp_L3_len1, *]; done) | (simp [rfExp_L3_len0, rfExp_L3_len1, *]; omega)

attribute [irreducible] rfExp
end Go.Proofs.Ytlnekohkbhidnaa
