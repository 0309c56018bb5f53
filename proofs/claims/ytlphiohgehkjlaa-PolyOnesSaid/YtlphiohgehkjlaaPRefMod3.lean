/- The reference's remainder as a number: the end. No program in sight. -/
import Derived.Test.YtlphiohgehkjlaaPRefMod2
namespace Go.Proofs.Ytlphiohgehkjlaa
open Go.RowKit
theorem fold_step (l : List (BitVec 32)) (hl : l.length = 64) (hu : under 2147483648 l) (v : Nat) (hv : dN l = v) (hv2 : v < 2037035976334486086268445688409378161051468393665936250636140449354381299763336706183397376) :
    dN (fold1 (c8St l 0#32 64).1) = v % 1361129467683753853853498429727072845824 + 5 * (v / 1361129467683753853853498429727072845824) ∧ under 2147483648 (fold1 (c8St l 0#32 64).1) ∧ (fold1 (c8St l 0#32 64).1).length = 64 := by
  obtain ⟨c1, c2⟩ := c8_64 l 0#32 hl hu (by decide) (by rw [hv]; show v + 0 < _; omega)
  obtain ⟨f1, f2, f3⟩ := fold1_val _ (by rw [c8St_length, hl]) c2
  rw [c1, hv] at f1
  exact ⟨f1, f2, f3⟩
theorem modR_val (a : List (BitVec 32)) (ha : a.length = 64) (hu : under 2147483648 a) (hv : dN a < 2037035976334486086268445688409378161051468393665936250636140449354381299763336706183397376) : dN (modR a) = dN a % pP ∧ under 256 (modR a) := by
  obtain ⟨a1, a2, a3⟩ := fold_step a ha hu _ rfl hv
  generalize dN a = v at *
  have e1 : foldL a 1 = fold1 (c8St a 0#32 64).1 := rfl
  obtain ⟨b1, b2, b3⟩ := fold_step _ a3 a2 _ a1 (by omega)
  have e2 : foldL a 2 = fold1 (c8St (foldL a 1) 0#32 64).1 := rfl
  obtain ⟨d1, d2, d3⟩ := fold_step _ b3 b2 _ b1 (by omega)
  have e3 : foldL a 3 = fold1 (c8St (foldL a 2) 0#32 64).1 := rfl
  obtain ⟨g1, g2, g3⟩ := fold_step _ d3 d2 _ d1 (by omega)
  have e4 : foldL a 4 = fold1 (c8St (foldL a 3) 0#32 64).1 := rfl
  rw [← e1, ← e2, ← e3, ← e4] at g1 g2 g3
  obtain ⟨V, hV⟩ : ∃ V, dN (foldL a 4) = V := ⟨_, rfl⟩
  have hVp : V < 1361129467683753853853498429727072845824 ∧ V % pP = v % pP := by
    rw [← hV, g1]
    unfold pP
    omega
  clear a1 a2 a3 b1 b2 b3 d1 d2 d3 e1 e2 e3 e4 g1
  obtain ⟨p1, p2⟩ := c8_64 (foldL a 4) 0#32 g3 g2 (by decide) (by rw [hV]; show V + 0 < _; omega)
  have p1 : dN (c8St (foldL a 4) 0#32 64).1 = V := by rw [p1, hV]; rfl
  have q0 : under 2147483648 (c8St (foldL a 4) 0#32 64).1 := fun j => Nat.lt_trans (p2 j) (by decide)
  have ql : (c8St (foldL a 4) 0#32 64).1.length = 64 := by rw [c8St_length, g3]
  rw [modR_eq a _ _ rfl rfl]
  generalize (c8St (foldL a 4) 0#32 64).1 = A at *
  obtain ⟨q1, q2⟩ := c8_64 A 5#32 ql q0 (by decide) (by rw [p1]; show V + 5 < _; omega)
  have q1 : dN (c8St A 5#32 64).1 = V + 5 := by rw [q1, p1]; rfl
  have rl : (c8St A 5#32 64).1.length = 64 := by rw [c8St_length, ql]
  generalize (c8St A 5#32 64).1 = G at *
  have h16 := nth_dN G q2 16
  rw [q1] at h16
  rw [← hVp.2]
  have hV2 := hVp.1
  split
  · rename_i h4
    have hp := dN_put G 16 (nth G 16 &&& 3#32) (by omega)
    rw [and3, q1, h16] at hp
    refine ⟨?_, under_put q2 _ _ (by rw [and3]; omega)⟩
    generalize dN (put G 16 (nth G 16 &&& 3#32)) = R at *
    unfold pP
    omega
  · rename_i h4
    refine ⟨?_, p2⟩
    rw [p1]
    unfold pP
    omega
end Go.Proofs.Ytlphiohgehkjlaa
