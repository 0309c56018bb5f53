/- The walk of the reference's block. -/
import Derived.Test.YtgapnakhecdliaaChBlock
namespace Go.Proofs.Ytgapnakhecdliaa
open Go.RowKit
def le4 (l : List (BitVec 8)) : BitVec 32 := (nth l 0).setWidth 32 ||| (nth l 1).setWidth 32 <<< 8 ||| (nth l 2).setWidth 32 <<< 16 ||| (nth l 3).setWidth 32 <<< 24
theorem le4_low (l : List (BitVec 8)) (h : l.length = 4) : le4 l = (low8 l).setWidth 32 := by
  match l, h with
  | [a, b, c, d], _ => simp [le4, nth, low8, List.zipIdx, BitVec.setWidth_or, BitVec.setWidth_shiftLeft_of_le, BitVec.setWidth_setWidth_of_le]
set_option maxHeartbeats 1000000 in
theorem le32_any (b off len cap : Nat) (l : List (BitVec 8)) (w : World) (hl : 4 ≤ len)
    (hc : ∀ i, i < 4 → w.cell? ⟨b, off + i, none⟩ = some (U8 (nth l i))) :
    Calls Try.prog 15 #[.slice (some ⟨b, off, none⟩) len cap] w fun e w' => e = .returned (U32 (le4 l)) ∧ ∃ n, w' = w.drewN n := by
  have c0 := hc 0 (by omega)
  have c1 := hc 1 (by omega)
  have c2 := hc 2 (by omega)
  have c3 := hc 3 (by omega)
  clear hc
  rw [Nat.add_zero] at c0
  have d0 : (0 : Int) < len := by omega
  have d1 : (1 : Int) < len := by omega
  have d2 : (2 : Int) < len := by omega
  have d3 : (3 : Int) < len := by omega
  have d4 : 0 < len := by omega
  have d5 : 1 < len := by omega
  have d6 : 2 < len := by omega
  have d7 : 3 < len := by omega
  go_enter Try.func15, Try.ntmps15
  go_wp2
  go_quiet (fail)
  go_wp2
  go_ret
  exact ⟨rfl, _, rfl⟩
theorem refQuarter_at (b : Nat) (l : List (BitVec 32)) (w : World) (h : Has w b (cells U32 l) 36) (hl : l.length = 16) (a0 a1 a2 a3 : Int) (i0 i1 i2 i3 : Nat) (e0 : a0 = i0) (e1 : a1 = i1) (e2 : a2 = i2) (e3 : a3 = i3) (h0 : i0 < 16) (h1 : i1 < 16) (h2 : i2 < 16) (h3 : i3 < 16) :
    Calls Try.prog 16 #[.pointer (some ⟨b, 0, none⟩), .int .i64 a0, .int .i64 a1, .int .i64 a2, .int .i64 a3] w fun e w' => e = .returned (.tuple #[]) ∧ Upd b (cells U32 (quarterL l i0 i1 i2 i3)) 36 w w' := by
  subst e0 e1 e2 e3
  exact refQuarter_any b l w h hl i0 i1 i2 i3 h0 h1 h2 h3
end Go.Proofs.Ytgapnakhecdliaa
