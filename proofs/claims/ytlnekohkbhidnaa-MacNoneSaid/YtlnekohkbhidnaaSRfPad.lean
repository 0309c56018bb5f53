/- trystref01.padded (Drawn up by a program.) -/
import Derived.Test.YtlnekohkbhidnaaAvTy
namespace Go.Proofs.Ytlnekohkbhidnaa
open Go.RowKit
def rfPad_L3_S (X1 : List (BitVec 8)) : List (BitVec 8) := X1 ++ [0#8]
def rfPad_L3 (tx : List (BitVec 8)) : Nat → List (BitVec 8)
  | 0 => tx ++ [128#8]
  | j3 + 1 => rfPad_L3_S (rfPad_L3 tx j3)
@[simp] theorem rfPad_L3_len (tx : List (BitVec 8)) (j3 : Nat) : (rfPad_L3 tx j3).length = (tx.length + 1) + j3 := by
  induction j3 with
  | zero => first | (simp [rfPad_L3, *]; done) | (simp [rfPad_L3, *]; omega)
  | succ j3 ih => rw [rfPad_L3.eq_2, rfPad_L3_S]; first | (simp [ih]; done) | (simp [ih]; omega) | (simp [*]; done) | (split <;> first | (simp [ih]; done) | (simp [ih]; omega) | (simp [*]; done))
def rfPad_L7_S (tx : List (BitVec 8)) (X3 : List (BitVec 8)) (j7 : Nat) : List (BitVec 8) := (if 8 ≤ 7 - j7 then X3 ++ [0#8] else X3 ++ [(((BitVec.ofNat 64 tx.length) * 8#64) >>> (8#64 * (BitVec.ofNat 64 (7 - j7))).toNat).setWidth 8])
def rfPad_L7 (tx : List (BitVec 8)) (Y2 : List (BitVec 8)) : Nat → List (BitVec 8)
  | 0 => Y2
  | j7 + 1 => rfPad_L7_S tx (rfPad_L7 tx Y2 j7) j7
@[simp] theorem rfPad_L7_len (tx : List (BitVec 8)) (Y2 : List (BitVec 8)) (j7 : Nat) : (rfPad_L7 tx Y2 j7).length = Y2.length + j7 := by
  induction j7 with
  | zero => first | (simp [rfPad_L7, *]; done) | (simp [rfPad_L7, *]; omega)
  | succ j7 ih => rw [rfPad_L7.eq_2, rfPad_L7_S]; first | (simp [ih]; done) | (simp [ih]; omega) | (simp [rfPad_L3_len, *]; done) | (split <;> first | (simp [ih]; done) | (simp [ih]; omega) | (simp [rfPad_L3_len, *]; done))
def rfPad (tx : List (BitVec 8)) : List (BitVec 8) := (rfPad_L7 tx (rfPad_L3 tx ((120 - (tx.length + 1) % 64) % 64)) 8)
set_option maxRecDepth 100000 in
set_option maxHeartbeats 2000000 in
theorem rfPad_ev (b : List (BitVec 8)) (o : Nat) (n : Nat) (cap : Nat) (hb : o + n ≤ b.length) (hn : n ≤ 4398046511104) : Ev Try.prog (.call 25 [.c (.sl 0 o n cap 1), .c (.val (.int .i64 ((64 : Nat) : Int))), .c (.val (.int .i64 ((8 : Nat) : Int)))] [.row false (.a8 (b))]) (.val (.c (.sl 1 0 (((n + 1) + (120 - (n + 1) % 64) % 64) + 8) (((n + 1) + (120 - (n + 1) % 64) % 64) + 8) 1)) [.row false (.a8 (b)), .row true (.a8 (rfPad (cut b o n)))]) := by
  have hP : Hid (rfPad (cut b o n) = (rfPad_L7 (cut b o n) (rfPad_L3 (cut b o n) ((120 - ((cut b o n).length + 1) % 64) % 64)) 8)) := ⟨rfl⟩
  have htx : (cut b o n).length = n := by rw [cut_length]; omega
  try simp only [htx] at hP
  refine c_call Try.func25 rfl Try.ntmps25 rfl LEN_ ?_
  refine S_ ?_
  refine c_region ?_
  refine s_val (v_assignC rfl) rfl ?_
  refine s_nil ?_
  refine S_ ?_
  refine c_region ?_
  refine s_val (v_assignC rfl) rfl ?_
  refine s_nil ?_
  refine S_ ?_
  refine c_region ?_
  refine s_val (v_moveC rfl) rfl ?_
  refine s_val (v_moveC rfl) rfl ?_
  refine s_memN (m_appN8c rfl rfl rfl Try.underlying22 Try.underlying22 el_5 LE_ (by omega) LEN_) APP_ rfl ?_
  refine s_memN (m_bs8 (l := [128#8]) Try.underlying22 el_5 rfl rfl (by decide) (by decide) LEN_) APP_ rfl ?_
  refine s_app8 rfl rfl rfl rfl Try.underlying22 Try.underlying22 el_5 EQL_ EQL_ (by omega) LEN_ KILL_ rfl ?_
  refine s_val (v_assignC rfl) rfl ?_
  refine s_nil ?_
  refine S_ ?_
  refine c_loopC [0, 1, 2, 7] (fun (zz : Nat × List (BitVec 8)) => ⟨50, keepT [0, 1, 2, 7] [.c (.sl 0 o n cap 1), .c (.val (.int .i64 (((64 : Nat) : Int)))), .c (.val (.int .i64 (((8 : Nat) : Int)))), .c (.sl 1 0 ((n + 1) + zz.1) ((n + 1) + zz.1) 1)], [.row false (.a8 (b)), .row true (.a8 (zz.2))]⟩) (fun j3 => (j3, rfPad_L3 (cut b o n) j3)) ((120 - (n + 1) % 64) % 64) (by kernel_rfl) ?_ ?_
  · intro j3 hj3
    try dsimp only
    have hX1 : (rfPad_L3 (cut b o n) j3).length = (n + 1) + j3 := by rw [rfPad_L3_len (cut b o n) _]; try omega
    rw [rfPad_L3.eq_2, rfPad_L3_S]
    try simp only [htx]
    generalize rfPad_L3 (cut b o n) j3 = X1 at *
    refine S_ ?_
    refine c_region ?_
    refine s_val (v_moveC rfl) rfl ?_
    refine s_val (v_lenS rfl Try.underlying22) rfl ?_
    refine s_val (v_moveC rfl) rfl ?_
    refine s_val (v_addN (b := 8) rfl rfl (by omega)) rfl ?_
    refine s_val (v_moveC rfl) rfl ?_
    refine s_val (v_remN (b := 64) rfl rfl (by omega) (by omega)) rfl ?_
    refine s_val (v_neqN (b := 0) rfl rfl) rfl ?_
    refine s_nil ?_
    refine S_ ?_
    refine c_region ?_
    refine s_val (v_moveC rfl) rfl ?_
    refine s_memN (m_bs8 (l := [0#8]) Try.underlying22 el_5 rfl rfl (by decide) (by decide) LEN_) APP_ rfl ?_
    refine s_app8 rfl rfl rfl rfl Try.underlying22 Try.underlying22 el_5 EQL_ EQL_ (by omega) LEN_ KILL_ rfl ?_
    refine s_val (v_assignC rfl) rfl ?_
    refine s_nil ?_
    exact ⟨(j3 + 1, _), by kernel_rfl, rfl⟩
  · try dsimp only
    have hY2 : (rfPad_L3 (cut b o n) ((120 - (n + 1) % 64) % 64)).length = (n + 1) + (120 - (n + 1) % 64) % 64 := by rw [rfPad_L3_len (cut b o n) _]; try omega
    generalize rfPad_L3 (cut b o n) ((120 - (n + 1) % 64) % 64) = Y2 at *
    refine S_ ?_
    refine c_region ?_
    refine s_val (v_moveC rfl) rfl ?_
    refine s_val (v_lenS rfl Try.underlying22) rfl ?_
    refine s_val (v_moveC rfl) rfl ?_
    refine s_val (v_addN (b := 8) rfl rfl (by omega)) rfl ?_
    refine s_val (v_moveC rfl) rfl ?_
    refine s_val (v_remN (b := 64) rfl rfl (by omega) (by omega)) rfl ?_
    refine s_val (v_neqN (b := 0) rfl rfl) rfl ?_
    refine s_nil ?_
    refine S_ ?_
    refine c_region ?_
    refine s_val (v_moveC rfl) rfl ?_
    refine s_val (v_lenS rfl Try.underlying22) rfl ?_
    refine s_val (v_conv rfl Try.underlying3 Try.underlying42 (wi_64 _)) rfl ?_
    refine s_val (v_mul64 (b := 8#64) rfl rfl) rfl ?_
    refine s_val (v_assignC rfl) rfl ?_
    refine s_nil ?_
    refine S_ ?_
    refine c_region ?_
    refine s_val (v_moveC rfl) rfl ?_
    refine s_val (v_subN (a := 8) (b := 1) rfl rfl (by omega) (by omega)) rfl ?_
    refine s_val (v_assignC rfl) rfl ?_
    refine s_nil ?_
    refine S_ ?_
    refine c_loopC [7, 8, 9] (fun (zz : Nat × List (BitVec 8)) => ⟨50, keepT [7, 8, 9] [.c (.sl 1 0 (((n + 1) + (120 - (n + 1) % 64) % 64) + zz.1) (((n + 1) + (120 - (n + 1) % 64) % 64) + zz.1) 1), .c (.val (U64 ((BitVec.ofNat 64 n) * 8#64))), .c (.val (.int .i64 (((7 : Nat) : Int) - ((zz.1 : Nat) : Int))))], [.row false (.a8 (b)), .row true (.a8 (zz.2))]⟩) (fun j7 => (j7, rfPad_L7 (cut b o n) Y2 j7)) (8) (by kernel_rfl) ?_ ?_
    · intro j7 hj7
      try dsimp only
      have hX3 : (rfPad_L7 (cut b o n) Y2 j7).length = ((n + 1) + (120 - (n + 1) % 64) % 64) + j7 := by rw [rfPad_L7_len (cut b o n) Y2 _]; try omega
      rw [rfPad_L7.eq_2, rfPad_L7_S]
      try simp only [htx]
      generalize rfPad_L7 (cut b o n) Y2 j7 = X3 at *
      rw [show ((7 : Nat) : Int) - ((j7 : Nat) : Int) = ((7 - j7 : Nat) : Int) from by omega]
      refine S_ ?_
      refine c_region ?_
      refine s_val (v_moveC rfl) rfl ?_
      refine s_val (v_geqN (b := 0) rfl rfl) rfl ?_
      refine s_nil ?_
      refine S_ ?_
      refine c_region ?_
      refine s_val (v_moveC rfl) rfl ?_
      refine s_val (v_geqN (b := 8) rfl rfl) rfl ?_
      refine s_nil ?_
      refine Q_ ?_
      refine c_join [7, 8, 9] (fun (zz : List (BitVec 8)) => ⟨50, keepT [7, 8, 9] [.c (.sl 1 0 ((((n + 1) + (120 - (n + 1) % 64) % 64) + j7) + 1) ((((n + 1) + (120 - (n + 1) % 64) % 64) + j7) + 1) 1), .c (.val (U64 ((BitVec.ofNat 64 n) * 8#64))), .c (.val (.int .i64 (((7 - j7 : Nat) : Int))))], [.row false (.a8 (b)), .row true (.a8 (zz))]⟩) (if 8 ≤ 7 - j7 then X3 ++ [0#8] else X3 ++ [(((BitVec.ofNat 64 n) * 8#64) >>> (8#64 * (BitVec.ofNat 64 (7 - j7))).toNat).setWidth 8]) rfl (fun hb => ?_) (fun hb => ?_) ?_
      · -- the test is True
        have hb_ := of_decide_eq_true hb
        refine S_ ?_
        refine c_region ?_
        refine s_val (v_moveC rfl) rfl ?_
        refine s_memN (m_bs8 (l := [0#8]) Try.underlying22 el_5 rfl rfl (by decide) (by decide) LEN_) APP_ rfl ?_
        refine s_app8 rfl rfl rfl rfl Try.underlying22 Try.underlying22 el_5 EQL_ EQL_ (by omega) LEN_ KILL_ rfl ?_
        refine s_val (v_assignC rfl) rfl ?_
        refine s_nil ?_
        refine S_ ?_
        refine ⟨(X3 ++ [0#8]), by kernel_rfl, ?_⟩
        rw [if_pos (of_decide_eq_true hb)]
      · -- the test is False
        have hb_ := of_decide_eq_false hb
        refine S_ ?_
        refine c_region ?_
        refine s_val (v_moveC rfl) rfl ?_
        refine s_val (v_moveC rfl) rfl ?_
        refine s_val (v_moveC rfl) rfl ?_
        refine s_val (v_conv rfl Try.underlying3 Try.underlying45 (wi_64 _)) rfl ?_
        refine s_val (v_mul64 (a := 8#64) rfl rfl) rfl ?_
        refine s_val (v_shr64w rfl rfl) rfl ?_
        refine s_val (v_conv rfl Try.underlying42 Try.underlying5 (w64_8 _)) rfl ?_
        refine s_memN (m_bs8 (l := [_]) Try.underlying22 el_5 rfl rfl (by decide) (by decide) LEN_) APP_ rfl ?_
        refine s_app8 rfl rfl rfl rfl Try.underlying22 Try.underlying22 el_5 EQL_ EQL_ (by omega) LEN_ KILL_ rfl ?_
        refine s_val (v_assignC rfl) rfl ?_
        refine s_nil ?_
        refine S_ ?_
        refine ⟨(X3 ++ [(((BitVec.ofNat 64 n) * 8#64) >>> (8#64 * (BitVec.ofNat 64 (7 - j7))).toNat).setWidth 8]), by kernel_rfl, ?_⟩
        rw [if_neg (of_decide_eq_false hb)]
      have hJ4 : (if 8 ≤ 7 - j7 then X3 ++ [0#8] else X3 ++ [(((BitVec.ofNat 64 n) * 8#64) >>> (8#64 * (BitVec.ofNat 64 (7 - j7))).toNat).setWidth 8]).length = (((n + 1) + (120 - (n + 1) % 64) % 64) + j7) + 1 := by split <;> simp [*]
      generalize (if 8 ≤ 7 - j7 then X3 ++ [0#8] else X3 ++ [(((BitVec.ofNat 64 n) * 8#64) >>> (8#64 * (BitVec.ofNat 64 (7 - j7))).toNat).setWidth 8]) = J4 at *
      refine S_ ?_
      refine c_region ?_
      refine s_val (v_moveC rfl) rfl ?_
      first
        | refine s_val (v_subN (b := 1) rfl rfl (by omega) (by omega)) rfl ?_
        | refine s_val (v_subI rfl rfl (by omega)) rfl ?_
      refine s_val (v_assignC rfl) rfl ?_
      refine s_nil ?_
      refine ⟨(j7 + 1, _), (by
        dsimp only
        rw [show ((7 : Nat) : Int) - ((j7 + 1 : Nat) : Int) = ((7 - j7 : Nat) : Int) - 1 from by omega]
        kernel_rfl), rfl⟩
    · try dsimp only
      have hY5 : (rfPad_L7 (cut b o n) Y2 8).length = ((n + 1) + (120 - (n + 1) % 64) % 64) + 8 := by rw [rfPad_L7_len (cut b o n) Y2 _]; try omega
      generalize rfPad_L7 (cut b o n) Y2 8 = Y5 at *
      refine S_ ?_
      refine c_region ?_
      refine s_val (v_moveC rfl) rfl ?_
      refine s_val (v_geqI rfl rfl) rfl ?_
      refine s_nil ?_
      refine S_ ?_
      refine c_region ?_
      refine s_val (v_moveC rfl) rfl ?_
      refine s_val (v_assignC rfl) rfl ?_
      refine s_nil ?_
      refine S_ ?_
      rw [hP.out]
      exact k_1 (by first | exact r_tmpC rfl | exact r_tmpA rfl) (by first | kernel_rfl | rfl)
theorem rfPad_evS (b : List (BitVec 8)) (n : Nat) (cap : Nat) (hb : b.length = n) (hn : n ≤ 4398046511104) : Ev Try.prog (.call 25 [.c (.sl 0 0 n cap 1), .c (.val (.int .i64 ((64 : Nat) : Int))), .c (.val (.int .i64 ((8 : Nat) : Int)))] [.row false (.a8 (b))]) (.val (.c (.sl 1 0 (((n + 1) + (120 - (n + 1) % 64) % 64) + 8) (((n + 1) + (120 - (n + 1) % 64) % 64) + 8) 1)) [.row false (.a8 (b)), .row true (.a8 (rfPad b))]) := by
  have h_ := rfPad_ev b 0 n cap (by omega) hn
  rw [cut_all hb] at h_
  exact h_

@[simp] theorem rfPad_len (tx : List (BitVec 8)) : (rfPad tx).length = ((tx.length + 1) + (120 - (tx.length + 1) % 64) % 64) + 8 := by
  unfold rfPad
  first | (simp [rfPad_L3_len, rfPad_L7_len, *]; done) | (simp [rfPad_L3_len, rfPad_L7_len, *]; omega)

attribute [irreducible] rfPad
end Go.Proofs.Ytlnekohkbhidnaa
