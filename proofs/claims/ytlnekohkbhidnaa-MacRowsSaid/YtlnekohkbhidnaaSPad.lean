/- sha.padded (Drawn up by a program.) -/
import Derived.Test.YtlnekohkbhidnaaSNum
namespace Go.Proofs.Ytlnekohkbhidnaa
open Go.RowKit
def shaPad_L3_S (X1 : List (BitVec 8)) : List (BitVec 8) := X1 ++ [0#8]
def shaPad_L3 (tx : List (BitVec 8)) : Nat → List (BitVec 8)
  | 0 => tx ++ [128#8]
  | j3 + 1 => shaPad_L3_S (shaPad_L3 tx j3)
@[simp] theorem shaPad_L3_len (tx : List (BitVec 8)) (j3 : Nat) : (shaPad_L3 tx j3).length = (tx.length + 1) + j3 := by
  induction j3 with
  | zero => first | (simp [shaPad_L3, *]; done) | (simp [shaPad_L3, *]; omega)
  | succ j3 ih => rw [shaPad_L3.eq_2, shaPad_L3_S]; first | (simp [ih]; done) | (simp [ih]; omega) | (simp [*]; done) | (split <;> first | (simp [ih]; done) | (simp [ih]; omega) | (simp [*]; done))
def shaPad (tx : List (BitVec 8)) : List (BitVec 8) := shaNumber (shaPad_L3 tx ((120 - (tx.length + 1) % 64) % 64)) ((BitVec.ofNat 64 tx.length) <<< 3)
set_option maxRecDepth 100000 in
set_option maxHeartbeats 2000000 in
theorem shaPad_ev (b : List (BitVec 8)) (o : Nat) (n : Nat) (cap : Nat) (hb : o + n ≤ b.length) (hn : n ≤ 4398046511104) : Ev Try.prog (.call 18 [.c (.sl 0 o n cap 1), .c (.val (.int .i64 ((64 : Nat) : Int))), .c (.val (.int .i64 ((8 : Nat) : Int)))] [.row false (.a8 (b))]) (.val (.c (.sl 1 0 (((n + 1) + (120 - (n + 1) % 64) % 64) + 8) (((n + 1) + (120 - (n + 1) % 64) % 64) + 8) 1)) [.row false (.a8 (b)), .row true (.a8 (shaPad (cut b o n)))]) := by
  have hP : Hid (shaPad (cut b o n) = shaNumber (shaPad_L3 (cut b o n) ((120 - ((cut b o n).length + 1) % 64) % 64)) ((BitVec.ofNat 64 (cut b o n).length) <<< 3)) := ⟨rfl⟩
  have htx : (cut b o n).length = n := by rw [cut_length]; omega
  try simp only [htx] at hP
  refine c_call Try.func18 rfl Try.ntmps18 rfl LEN_ ?_
  refine S_ ?_
  refine c_region ?_
  refine s_val (v_assignC rfl) rfl ?_
  refine s_nil ?_
  refine S_ ?_
  refine c_region ?_
  refine s_memN (m_bs0 Try.underlying22 el_5) APP_ rfl ?_
  refine s_val (v_moveC rfl) rfl ?_
  refine s_memN (m_appE8c rfl rfl rfl Try.underlying22 Try.underlying22 el_5 LE_ (by omega) LEN_) APP_ rfl ?_
  refine s_val (v_assignC rfl) rfl ?_
  refine s_nil ?_
  refine S_ ?_
  refine c_region ?_
  refine s_val (v_moveC rfl) rfl ?_
  refine s_memN (m_bs8 (l := [128#8]) Try.underlying22 el_5 rfl rfl (by decide) (by decide) LEN_) APP_ rfl ?_
  refine s_app8 rfl rfl rfl rfl Try.underlying22 Try.underlying22 el_5 EQL_ EQL_ (by omega) LEN_ KILL_ rfl ?_
  refine s_val (v_assignC rfl) rfl ?_
  refine s_nil ?_
  refine S_ ?_
  refine c_loopC [0, 1, 2, 7] (fun (zz : Nat × List (BitVec 8)) => ⟨41, keepT [0, 1, 2, 7] [.c (.sl 0 o n cap 1), .c (.val (.int .i64 (((64 : Nat) : Int)))), .c (.val (.int .i64 (((8 : Nat) : Int)))), .c (.sl 1 0 ((n + 1) + zz.1) ((n + 1) + zz.1) 1)], [.row false (.a8 (b)), .row true (.a8 (zz.2))]⟩) (fun j3 => (j3, shaPad_L3 (cut b o n) j3)) ((120 - (n + 1) % 64) % 64) (by kernel_rfl) ?_ ?_
  · intro j3 hj3
    try dsimp only
    have hX1 : (shaPad_L3 (cut b o n) j3).length = (n + 1) + j3 := by rw [shaPad_L3_len (cut b o n) _]; try omega
    rw [shaPad_L3.eq_2, shaPad_L3_S]
    try simp only [htx]
    generalize shaPad_L3 (cut b o n) j3 = X1 at *
    refine S_ ?_
    refine c_region ?_
    refine s_val (v_moveC rfl) rfl ?_
    refine s_val (v_lenS rfl Try.underlying22) rfl ?_
    refine s_val (v_moveC rfl) rfl ?_
    refine s_val (v_remN (b := 64) rfl rfl (by omega) (by omega)) rfl ?_
    refine s_val (v_moveC rfl) rfl ?_
    refine s_val (v_moveC rfl) rfl ?_
    refine s_val (v_subN (a := 64) (b := 8) rfl rfl (by omega) (by omega)) rfl ?_
    refine s_val (v_neqN (b := 56) rfl rfl) rfl ?_
    refine s_nil ?_
    refine S_ ?_
    refine c_region ?_
    refine s_val (v_moveC rfl) rfl ?_
    refine s_memN (m_bs8 (l := [0#8]) Try.underlying22 el_5 rfl rfl (by decide) (by decide) LEN_) APP_ rfl ?_
    refine s_app8 rfl rfl rfl rfl Try.underlying22 Try.underlying22 el_5 EQL_ EQL_ (by omega) LEN_ KILL_ rfl ?_
    refine s_val (v_assignC rfl) rfl ?_
    refine s_nil ?_
    exact ⟨(j3 + 1, _), by kernel_rfl, rfl⟩
  · try dsimp only
    have hY2 : (shaPad_L3 (cut b o n) ((120 - (n + 1) % 64) % 64)).length = (n + 1) + (120 - (n + 1) % 64) % 64 := by rw [shaPad_L3_len (cut b o n) _]; try omega
    generalize shaPad_L3 (cut b o n) ((120 - (n + 1) % 64) % 64) = Y2 at *
    refine S_ ?_
    refine c_region ?_
    refine s_val (v_moveC rfl) rfl ?_
    refine s_val (v_lenS rfl Try.underlying22) rfl ?_
    refine s_val (v_moveC rfl) rfl ?_
    refine s_val (v_remN (b := 64) rfl rfl (by omega) (by omega)) rfl ?_
    refine s_val (v_moveC rfl) rfl ?_
    refine s_val (v_moveC rfl) rfl ?_
    refine s_val (v_subN (a := 64) (b := 8) rfl rfl (by omega) (by omega)) rfl ?_
    refine s_val (v_neqN (b := 56) rfl rfl) rfl ?_
    refine s_nil ?_
    refine S_ ?_
    refine c_region ?_
    refine s_val (v_moveC rfl) rfl ?_
    refine s_val (v_lenS rfl Try.underlying22) rfl ?_
    refine s_val (v_conv rfl Try.underlying3 Try.underlying42 (wi_64 _)) rfl ?_
    refine s_val (v_assignC rfl) rfl ?_
    refine s_nil ?_
    refine S_ ?_
    refine c_region ?_
    refine s_val (v_moveC rfl) rfl ?_
    refine s_nil ?_
    refine S_ ?_
    refine c_region ?_
    refine s_val (v_eqlN (a := 8) (b := 16) rfl rfl) rfl ?_
    refine s_val (v_assignC rfl) rfl ?_
    refine s_nil ?_
    refine S_ ?_
    refine c_region ?_
    refine s_val (v_moveC rfl) rfl ?_
    refine s_val (v_moveC rfl) rfl ?_
    refine s_val (v_shl64n (j := 3) rfl rfl) rfl ?_
    refine s_ev (e_callK (bs := [1]) (shaNumber_ev Y2 ((n + 1) + (120 - (n + 1) % 64) % 64) ((n + 1) + (120 - (n + 1) % 64) % 64) ((BitVec.ofNat 64 n) <<< 3) HYP_ HYP_) ok_23 (by kernel_rfl) rfl rfl VAL_ APP_) rfl ?_
    refine s_val (v_assignC rfl) rfl ?_
    refine s_nil ?_
    have hQ3 : (shaNumber Y2 ((BitVec.ofNat 64 n) <<< 3)).length = ((n + 1) + (120 - (n + 1) % 64) % 64) + 8 := LQ_
    refine S_ ?_
    refine c_region ?_
    refine s_val (v_moveC rfl) rfl ?_
    refine s_val (v_assignC rfl) rfl ?_
    refine s_nil ?_
    refine S_ ?_
    rw [hP.out]
    exact k_1 (by first | exact r_tmpC rfl | exact r_tmpA rfl) (by first | kernel_rfl | rfl)
theorem shaPad_evS (b : List (BitVec 8)) (n : Nat) (cap : Nat) (hb : b.length = n) (hn : n ≤ 4398046511104) : Ev Try.prog (.call 18 [.c (.sl 0 0 n cap 1), .c (.val (.int .i64 ((64 : Nat) : Int))), .c (.val (.int .i64 ((8 : Nat) : Int)))] [.row false (.a8 (b))]) (.val (.c (.sl 1 0 (((n + 1) + (120 - (n + 1) % 64) % 64) + 8) (((n + 1) + (120 - (n + 1) % 64) % 64) + 8) 1)) [.row false (.a8 (b)), .row true (.a8 (shaPad b))]) := by
  have h_ := shaPad_ev b 0 n cap (by omega) hn
  rw [cut_all hb] at h_
  exact h_

@[simp] theorem shaPad_len (tx : List (BitVec 8)) : (shaPad tx).length = ((tx.length + 1) + (120 - (tx.length + 1) % 64) % 64) + 8 := by
  unfold shaPad
  first | (simp [shaPad_L3_len, *]; done) | (simp [shaPad_L3_len, *]; omega)

attribute [irreducible] shaPad
end Go.Proofs.Ytlnekohkbhidnaa
