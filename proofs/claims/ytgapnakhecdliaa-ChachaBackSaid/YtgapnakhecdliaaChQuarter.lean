/- The walks of RotateLeft32, of the sums of bytes, and of both quarters of ChaCha20: what each computes. -/
import Derived.Test.YtgapnakhecdliaaWords
namespace Go.Proofs.Ytgapnakhecdliaa
open Go.RowKit
/-- A word, turned. -/
def rot32 (a : BitVec 32) (k : Int) : BitVec 32 := a <<< (BitVec.ofInt 64 k &&& 31#64) ||| a >>> (32#64 - (BitVec.ofInt 64 k &&& 31#64))
set_option maxHeartbeats 400000 in
theorem rot_any (a : BitVec 32) (k : Int) (w : World) :
    Calls Try.prog 17 #[U32 a, .int .i64 k] w fun e w' => e = .returned (U32 (rot32 a k)) ∧ w' = w := by
  go_enter Try.func17, Try.ntmps17
  go_wp2
  go_ret
  exact ⟨by simp [rot32], rfl⟩
/-- The number of bytes, the lowest first. -/
def low8 : List (BitVec 8) → BitVec 64 := fun l => (l.zipIdx).foldl (fun x (c, i) => x ||| c.setWidth 64 <<< (8 * i)) 0#64
theorem low_snoc (l : List (BitVec 8)) (c : BitVec 8) : low8 (l ++ [c]) = low8 l ||| c.setWidth 64 <<< (8 * l.length) := by
  simp [low8, List.zipIdx_append]
theorem low_take (l : List (BitVec 8)) (k : Nat) (h : k < l.length) : low8 (l.take (k + 1)) = low8 (l.take k) ||| (nth l k).setWidth 64 <<< (8 * k) := by
  rw [List.take_succ_eq_append_getElem h, low_snoc, List.length_take, Nat.min_eq_left (by omega), nth_eq l k h]
set_option maxHeartbeats 400000 in
theorem low_any (b off cap : Nat) (l : List (BitVec 8)) (w : World) (hm : l.length ≤ 1000000)
    (hc : ∀ i, i < l.length → w.cell? ⟨b, off + i, none⟩ = some (U8 (nth l i))) :
    Calls Try.prog 13 #[.slice (some ⟨b, off, none⟩) l.length cap] w fun e w' => e = .returned (U64 (low8 l)) ∧ w' = w := by
  go_enter Try.func13, Try.ntmps13
  go_wp2
  go_loop [3, 4, 5, 8] (fun x _ _ i => ∃ k : Nat, k ≤ l.length ∧ i = .int .i64 k ∧ x = U64 (low8 (l.take k))) (fun _ _ _ i => l.length - (intOf i).toNat)
  case atStart => exact ⟨0, Nat.zero_le _, rfl, rfl⟩
  case round =>
    obtain ⟨k, hk, rfl, rfl⟩ := hrel
    by_cases hlt : k < l.length
    · have hcell := hc k hlt
      have h8 : (0 : Int) ≤ 8 * ↑k := by omega
      have H := hid (low_take l k hlt)
      go_wp2
      go_round
      case rel => exact ⟨k + 1, by omega, by go_num, by rw [H.out]⟩
      case measure => simp [intOf]; omega
    · go_wp2
      go_ret
      exact ⟨by simp [List.take_of_length_le (show l.length ≤ k by omega)], rfl⟩
/-- The steps of a quarter, on sixteen words. -/
def addAt (l : List (BitVec 32)) (i j : Nat) : List (BitVec 32) := put l i (nth l i + nth l j)
def rotAt (l : List (BitVec 32)) (i j : Nat) (k : Int) : List (BitVec 32) := put l i (rot32 (nth l i ^^^ nth l j) k)
@[go_sem, simp] theorem addAt_length (l : List (BitVec 32)) (i j : Nat) : (addAt l i j).length = l.length := by simp [addAt]
@[go_sem, simp] theorem rotAt_length (l : List (BitVec 32)) (i j : Nat) (k : Int) : (rotAt l i j k).length = l.length := by simp [rotAt]
def quarterL (l : List (BitVec 32)) (a b c d : Nat) : List (BitVec 32) :=
  rotAt (addAt (rotAt (addAt (rotAt (addAt (rotAt (addAt l a b) d a 16) c d) b c 12) a b) d a 8) c d) b c 7
@[go_sem, simp] theorem quarterL_length (l : List (BitVec 32)) (a b c d : Nat) : (quarterL l a b c d).length = l.length := by simp [quarterL]
set_option maxRecDepth 100000 in
set_option maxHeartbeats 2000000 in
theorem quarter_core (b : Nat) (l : List (BitVec 32)) (w : World) (R : RowOf w b) (hl : l.length = 16) (i0 i1 i2 i3 : Nat) (h0 : i0 < 16) (h1 : i1 < 16) (h2 : i2 < 16) (h3 : i3 < 16) :
    Calls Try.prog 14 #[.pointer (some ⟨b, 0, none⟩), .int .i64 i0, .int .i64 i1, .int .i64 i2, .int .i64 i3] (w.setRow b (cells U32 l)) fun e w' => e = .returned (.tuple #[]) ∧ ∃ n, w' = (w.setRow b (cells U32 (quarterL l i0 i1 i2 i3))).drewN n := by
  obtain ⟨rc, rf, rs⟩ := R
  have g0 : i0 < l.length := by omega
  have g1 : i1 < l.length := by omega
  have g2 : i2 < l.length := by omega
  have g3 : i3 < l.length := by omega
  clear hl
  have j0 : (i0 : Int) < 16 := by omega
  have j1 : (i1 : Int) < 16 := by omega
  have j2 : (i2 : Int) < 16 := by omega
  have j3 : (i3 : Int) < 16 := by omega
  go_enter Try.func14, Try.ntmps14
  go_wp2
  refine region_tail 13 (by kernel_rfl) (by kernel_rfl) ?_
  simp only [List.take_succ_cons, List.take_zero, List.drop_succ_cons, List.drop_zero]
  repeat (first | still_step | still_call (rot_any _ _ _))
  refine wpStill_nil ?_
  go_wp2
  rw [show put (l) i0 (nth (l) i0 + nth (l) i1) = addAt (l) i0 i1 from rfl]
  refine region_tail 16 (by kernel_rfl) (by kernel_rfl) ?_
  simp only [List.take_succ_cons, List.take_zero, List.drop_succ_cons, List.drop_zero]
  repeat (first | still_step | still_call (rot_any _ _ _))
  refine wpStill_nil ?_
  go_wp2
  rw [show put (addAt (l) i0 i1) i3 (rot32 (nth (addAt (l) i0 i1) i3 ^^^ nth (addAt (l) i0 i1) i0) 16) = rotAt (addAt (l) i0 i1) i3 i0 16 from rfl]
  refine region_tail 13 (by kernel_rfl) (by kernel_rfl) ?_
  simp only [List.take_succ_cons, List.take_zero, List.drop_succ_cons, List.drop_zero]
  repeat (first | still_step | still_call (rot_any _ _ _))
  refine wpStill_nil ?_
  go_wp2
  rw [show put (rotAt (addAt (l) i0 i1) i3 i0 16) i2 (nth (rotAt (addAt (l) i0 i1) i3 i0 16) i2 + nth (rotAt (addAt (l) i0 i1) i3 i0 16) i3) = addAt (rotAt (addAt (l) i0 i1) i3 i0 16) i2 i3 from rfl]
  refine region_tail 16 (by kernel_rfl) (by kernel_rfl) ?_
  simp only [List.take_succ_cons, List.take_zero, List.drop_succ_cons, List.drop_zero]
  repeat (first | still_step | still_call (rot_any _ _ _))
  refine wpStill_nil ?_
  go_wp2
  rw [show put (addAt (rotAt (addAt (l) i0 i1) i3 i0 16) i2 i3) i1 (rot32 (nth (addAt (rotAt (addAt (l) i0 i1) i3 i0 16) i2 i3) i1 ^^^ nth (addAt (rotAt (addAt (l) i0 i1) i3 i0 16) i2 i3) i2) 12) = rotAt (addAt (rotAt (addAt (l) i0 i1) i3 i0 16) i2 i3) i1 i2 12 from rfl]
  refine region_tail 13 (by kernel_rfl) (by kernel_rfl) ?_
  simp only [List.take_succ_cons, List.take_zero, List.drop_succ_cons, List.drop_zero]
  repeat (first | still_step | still_call (rot_any _ _ _))
  refine wpStill_nil ?_
  go_wp2
  rw [show put (rotAt (addAt (rotAt (addAt (l) i0 i1) i3 i0 16) i2 i3) i1 i2 12) i0 (nth (rotAt (addAt (rotAt (addAt (l) i0 i1) i3 i0 16) i2 i3) i1 i2 12) i0 + nth (rotAt (addAt (rotAt (addAt (l) i0 i1) i3 i0 16) i2 i3) i1 i2 12) i1) = addAt (rotAt (addAt (rotAt (addAt (l) i0 i1) i3 i0 16) i2 i3) i1 i2 12) i0 i1 from rfl]
  refine region_tail 16 (by kernel_rfl) (by kernel_rfl) ?_
  simp only [List.take_succ_cons, List.take_zero, List.drop_succ_cons, List.drop_zero]
  repeat (first | still_step | still_call (rot_any _ _ _))
  refine wpStill_nil ?_
  go_wp2
  rw [show put (addAt (rotAt (addAt (rotAt (addAt (l) i0 i1) i3 i0 16) i2 i3) i1 i2 12) i0 i1) i3 (rot32 (nth (addAt (rotAt (addAt (rotAt (addAt (l) i0 i1) i3 i0 16) i2 i3) i1 i2 12) i0 i1) i3 ^^^ nth (addAt (rotAt (addAt (rotAt (addAt (l) i0 i1) i3 i0 16) i2 i3) i1 i2 12) i0 i1) i0) 8) = rotAt (addAt (rotAt (addAt (rotAt (addAt (l) i0 i1) i3 i0 16) i2 i3) i1 i2 12) i0 i1) i3 i0 8 from rfl]
  refine region_tail 13 (by kernel_rfl) (by kernel_rfl) ?_
  simp only [List.take_succ_cons, List.take_zero, List.drop_succ_cons, List.drop_zero]
  repeat (first | still_step | still_call (rot_any _ _ _))
  refine wpStill_nil ?_
  go_wp2
  rw [show put (rotAt (addAt (rotAt (addAt (rotAt (addAt (l) i0 i1) i3 i0 16) i2 i3) i1 i2 12) i0 i1) i3 i0 8) i2 (nth (rotAt (addAt (rotAt (addAt (rotAt (addAt (l) i0 i1) i3 i0 16) i2 i3) i1 i2 12) i0 i1) i3 i0 8) i2 + nth (rotAt (addAt (rotAt (addAt (rotAt (addAt (l) i0 i1) i3 i0 16) i2 i3) i1 i2 12) i0 i1) i3 i0 8) i3) = addAt (rotAt (addAt (rotAt (addAt (rotAt (addAt (l) i0 i1) i3 i0 16) i2 i3) i1 i2 12) i0 i1) i3 i0 8) i2 i3 from rfl]
  refine region_tail 16 (by kernel_rfl) (by kernel_rfl) ?_
  simp only [List.take_succ_cons, List.take_zero, List.drop_succ_cons, List.drop_zero]
  repeat (first | still_step | still_call (rot_any _ _ _))
  refine wpStill_nil ?_
  go_wp2
  rw [show put (addAt (rotAt (addAt (rotAt (addAt (rotAt (addAt (l) i0 i1) i3 i0 16) i2 i3) i1 i2 12) i0 i1) i3 i0 8) i2 i3) i1 (rot32 (nth (addAt (rotAt (addAt (rotAt (addAt (rotAt (addAt (l) i0 i1) i3 i0 16) i2 i3) i1 i2 12) i0 i1) i3 i0 8) i2 i3) i1 ^^^ nth (addAt (rotAt (addAt (rotAt (addAt (rotAt (addAt (l) i0 i1) i3 i0 16) i2 i3) i1 i2 12) i0 i1) i3 i0 8) i2 i3) i2) 7) = rotAt (addAt (rotAt (addAt (rotAt (addAt (rotAt (addAt (l) i0 i1) i3 i0 16) i2 i3) i1 i2 12) i0 i1) i3 i0 8) i2 i3) i1 i2 7 from rfl]
  go_end0
  exact ⟨rfl, 8, rfl⟩
theorem quarter_any (b : Nat) (l : List (BitVec 32)) (w : World) (h : w.heap[b]? = some (.cells (cells U32 l) 36 (0, 0))) (hl : l.length = 16) (i0 i1 i2 i3 : Nat) (h0 : i0 < 16) (h1 : i1 < 16) (h2 : i2 < 16) (h3 : i3 < 16) :
    Calls Try.prog 14 #[.pointer (some ⟨b, 0, none⟩), .int .i64 i0, .int .i64 i1, .int .i64 i2, .int .i64 i3] w fun e w' => e = .returned (.tuple #[]) ∧ Upd b (cells U32 (quarterL l i0 i1 i2 i3)) 36 w w' := by
  have := quarter_core b l w (rowOf h) hl i0 i1 i2 i3 h0 h1 h2 h3
  rw [setRow_self h] at this
  refine this.mono ?_
  rintro e w' ⟨rfl, n, rfl⟩
  exact ⟨rfl, upd_setRow h _ n⟩
set_option maxRecDepth 100000 in
set_option maxHeartbeats 2000000 in
theorem refQuarter_core (b : Nat) (l : List (BitVec 32)) (w : World) (R : RowOf w b) (hl : l.length = 16) (i0 i1 i2 i3 : Nat) (h0 : i0 < 16) (h1 : i1 < 16) (h2 : i2 < 16) (h3 : i3 < 16) :
    Calls Try.prog 16 #[.pointer (some ⟨b, 0, none⟩), .int .i64 i0, .int .i64 i1, .int .i64 i2, .int .i64 i3] (w.setRow b (cells U32 l)) fun e w' => e = .returned (.tuple #[]) ∧ ∃ n, w' = (w.setRow b (cells U32 (quarterL l i0 i1 i2 i3))).drewN n := by
  obtain ⟨rc, rf, rs⟩ := R
  have g0 : i0 < l.length := by omega
  have g1 : i1 < l.length := by omega
  have g2 : i2 < l.length := by omega
  have g3 : i3 < l.length := by omega
  clear hl
  have j0 : (i0 : Int) < 16 := by omega
  have j1 : (i1 : Int) < 16 := by omega
  have j2 : (i2 : Int) < 16 := by omega
  have j3 : (i3 : Int) < 16 := by omega
  go_enter Try.func16, Try.ntmps16
  go_wp2
  refine region_tail 13 (by kernel_rfl) (by kernel_rfl) ?_
  simp only [List.take_succ_cons, List.take_zero, List.drop_succ_cons, List.drop_zero]
  repeat (first | still_step | still_call (rot_any _ _ _))
  refine wpStill_nil ?_
  go_wp2
  rw [show put (l) i0 (nth (l) i0 + nth (l) i1) = addAt (l) i0 i1 from rfl]
  refine region_tail 16 (by kernel_rfl) (by kernel_rfl) ?_
  simp only [List.take_succ_cons, List.take_zero, List.drop_succ_cons, List.drop_zero]
  repeat (first | still_step | still_call (rot_any _ _ _))
  refine wpStill_nil ?_
  go_wp2
  rw [show put (addAt (l) i0 i1) i3 (rot32 (nth (addAt (l) i0 i1) i3 ^^^ nth (addAt (l) i0 i1) i0) 16) = rotAt (addAt (l) i0 i1) i3 i0 16 from rfl]
  refine region_tail 13 (by kernel_rfl) (by kernel_rfl) ?_
  simp only [List.take_succ_cons, List.take_zero, List.drop_succ_cons, List.drop_zero]
  repeat (first | still_step | still_call (rot_any _ _ _))
  refine wpStill_nil ?_
  go_wp2
  rw [show put (rotAt (addAt (l) i0 i1) i3 i0 16) i2 (nth (rotAt (addAt (l) i0 i1) i3 i0 16) i2 + nth (rotAt (addAt (l) i0 i1) i3 i0 16) i3) = addAt (rotAt (addAt (l) i0 i1) i3 i0 16) i2 i3 from rfl]
  refine region_tail 16 (by kernel_rfl) (by kernel_rfl) ?_
  simp only [List.take_succ_cons, List.take_zero, List.drop_succ_cons, List.drop_zero]
  repeat (first | still_step | still_call (rot_any _ _ _))
  refine wpStill_nil ?_
  go_wp2
  rw [show put (addAt (rotAt (addAt (l) i0 i1) i3 i0 16) i2 i3) i1 (rot32 (nth (addAt (rotAt (addAt (l) i0 i1) i3 i0 16) i2 i3) i1 ^^^ nth (addAt (rotAt (addAt (l) i0 i1) i3 i0 16) i2 i3) i2) 12) = rotAt (addAt (rotAt (addAt (l) i0 i1) i3 i0 16) i2 i3) i1 i2 12 from rfl]
  refine region_tail 13 (by kernel_rfl) (by kernel_rfl) ?_
  simp only [List.take_succ_cons, List.take_zero, List.drop_succ_cons, List.drop_zero]
  repeat (first | still_step | still_call (rot_any _ _ _))
  refine wpStill_nil ?_
  go_wp2
  rw [show put (rotAt (addAt (rotAt (addAt (l) i0 i1) i3 i0 16) i2 i3) i1 i2 12) i0 (nth (rotAt (addAt (rotAt (addAt (l) i0 i1) i3 i0 16) i2 i3) i1 i2 12) i0 + nth (rotAt (addAt (rotAt (addAt (l) i0 i1) i3 i0 16) i2 i3) i1 i2 12) i1) = addAt (rotAt (addAt (rotAt (addAt (l) i0 i1) i3 i0 16) i2 i3) i1 i2 12) i0 i1 from rfl]
  refine region_tail 16 (by kernel_rfl) (by kernel_rfl) ?_
  simp only [List.take_succ_cons, List.take_zero, List.drop_succ_cons, List.drop_zero]
  repeat (first | still_step | still_call (rot_any _ _ _))
  refine wpStill_nil ?_
  go_wp2
  rw [show put (addAt (rotAt (addAt (rotAt (addAt (l) i0 i1) i3 i0 16) i2 i3) i1 i2 12) i0 i1) i3 (rot32 (nth (addAt (rotAt (addAt (rotAt (addAt (l) i0 i1) i3 i0 16) i2 i3) i1 i2 12) i0 i1) i3 ^^^ nth (addAt (rotAt (addAt (rotAt (addAt (l) i0 i1) i3 i0 16) i2 i3) i1 i2 12) i0 i1) i0) 8) = rotAt (addAt (rotAt (addAt (rotAt (addAt (l) i0 i1) i3 i0 16) i2 i3) i1 i2 12) i0 i1) i3 i0 8 from rfl]
  refine region_tail 13 (by kernel_rfl) (by kernel_rfl) ?_
  simp only [List.take_succ_cons, List.take_zero, List.drop_succ_cons, List.drop_zero]
  repeat (first | still_step | still_call (rot_any _ _ _))
  refine wpStill_nil ?_
  go_wp2
  rw [show put (rotAt (addAt (rotAt (addAt (rotAt (addAt (l) i0 i1) i3 i0 16) i2 i3) i1 i2 12) i0 i1) i3 i0 8) i2 (nth (rotAt (addAt (rotAt (addAt (rotAt (addAt (l) i0 i1) i3 i0 16) i2 i3) i1 i2 12) i0 i1) i3 i0 8) i2 + nth (rotAt (addAt (rotAt (addAt (rotAt (addAt (l) i0 i1) i3 i0 16) i2 i3) i1 i2 12) i0 i1) i3 i0 8) i3) = addAt (rotAt (addAt (rotAt (addAt (rotAt (addAt (l) i0 i1) i3 i0 16) i2 i3) i1 i2 12) i0 i1) i3 i0 8) i2 i3 from rfl]
  refine region_tail 16 (by kernel_rfl) (by kernel_rfl) ?_
  simp only [List.take_succ_cons, List.take_zero, List.drop_succ_cons, List.drop_zero]
  repeat (first | still_step | still_call (rot_any _ _ _))
  refine wpStill_nil ?_
  go_wp2
  rw [show put (addAt (rotAt (addAt (rotAt (addAt (rotAt (addAt (l) i0 i1) i3 i0 16) i2 i3) i1 i2 12) i0 i1) i3 i0 8) i2 i3) i1 (rot32 (nth (addAt (rotAt (addAt (rotAt (addAt (rotAt (addAt (l) i0 i1) i3 i0 16) i2 i3) i1 i2 12) i0 i1) i3 i0 8) i2 i3) i1 ^^^ nth (addAt (rotAt (addAt (rotAt (addAt (rotAt (addAt (l) i0 i1) i3 i0 16) i2 i3) i1 i2 12) i0 i1) i3 i0 8) i2 i3) i2) 7) = rotAt (addAt (rotAt (addAt (rotAt (addAt (rotAt (addAt (l) i0 i1) i3 i0 16) i2 i3) i1 i2 12) i0 i1) i3 i0 8) i2 i3) i1 i2 7 from rfl]
  go_end0
  exact ⟨rfl, 8, rfl⟩
theorem refQuarter_any (b : Nat) (l : List (BitVec 32)) (w : World) (h : w.heap[b]? = some (.cells (cells U32 l) 36 (0, 0))) (hl : l.length = 16) (i0 i1 i2 i3 : Nat) (h0 : i0 < 16) (h1 : i1 < 16) (h2 : i2 < 16) (h3 : i3 < 16) :
    Calls Try.prog 16 #[.pointer (some ⟨b, 0, none⟩), .int .i64 i0, .int .i64 i1, .int .i64 i2, .int .i64 i3] w fun e w' => e = .returned (.tuple #[]) ∧ Upd b (cells U32 (quarterL l i0 i1 i2 i3)) 36 w w' := by
  have := refQuarter_core b l w (rowOf h) hl i0 i1 i2 i3 h0 h1 h2 h3
  rw [setRow_self h] at this
  refine this.mono ?_
  rintro e w' ⟨rfl, n, rfl⟩
  exact ⟨rfl, upd_setRow h _ n⟩
end Go.Proofs.Ytgapnakhecdliaa
