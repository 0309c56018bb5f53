/- The walks of trystkeep's Bytes and Twin. -/
import Derived.Test.YtgapnakhecdliaaSlice
namespace Go.Proofs.Ytgapnakhecdliaa
open Go.RowKit
set_option maxHeartbeats 1000000 in
theorem bytes_core (x y : Option Addr) (c d : Nat) (bx ox bo oy : Nat) (l m : List (BitVec 8)) (w : World) (hn : l.length ≤ 70368744177664) (hl : l.length = m.length) (hx : 0 < l.length → x = some ⟨bx, ox, none⟩) (hy : 0 < l.length → y = some ⟨bo, oy, none⟩)
    (cx : ∀ i, i < l.length → w.cell? ⟨bx, ox + i, none⟩ = some (U8 (nth l i))) (cy : ∀ i, i < l.length → w.cell? ⟨bo, oy + i, none⟩ = some (U8 (nth m i))) :
    Calls Try.prog 9 #[.slice x l.length c, .slice y l.length d] w fun e w' => e = .returned (.bool (decide (l = m))) ∧ ∃ n, w' = w.drewN n := by
  have Hl := hid hl
  have Hx := hid hx
  have Hy := hid hy
  have Hcx := hid cx
  have Hcy := hid cy
  clear hl hx hy cx cy
  go_enter Try.func9, Try.ntmps9
  go_wp2
  go_loopw [5] (fun i wr => ∃ k n : Nat, k ≤ l.length ∧ i = .int .i64 k ∧ wr = w.drewN n ∧ ∀ j, j < k → nth l j = nth m j) (fun i _ => l.length - (intOf i).toNat)
  case atStart => exact ⟨0, 0, Nat.zero_le _, rfl, rfl, fun j h => absurd h (by omega)⟩
  case round =>
    obtain ⟨k, n, hk, rfl, rfl, hj⟩ := hrel
    have Hj := hid hj
    clear hj
    by_cases hlt : k < l.length
    · obtain rfl := Hx.out (by omega)
      obtain rfl := Hy.out (by omega)
      have c1 := Hcx.out k hlt
      have c2 := Hcy.out k hlt
      have d1 : (k : Int) < l.length := by omega
      by_cases he : nth l k = nth m k
      · have e1 : (nth l k != nth m k) = false := by simp [he]
        have He := hid he
        clear he
        go_wp2
        go_quiet (fail)
        go_wp2
        exact ⟨⟨k + 1, n + nq, by omega, by go_num, by simp, fun j hj => by
          by_cases h : j = k
          · rw [h]; exact He.out
          · exact Hj.out j (by omega)⟩, by simp [intOf]; omega⟩
      · have e1 : (nth l k != nth m k) = true := by simpa using he
        have hne : decide (l = m) = false := by
          apply decide_eq_false; intro h; exact he (by rw [h])
        have Hne := hid hne
        clear he hne
        go_wp2
        go_quiet (fail)
        go_wp2
        go_ret
        exact ⟨by rw [Hne.out]; rfl, n + nq, by rw [World.drewN_drewN]⟩
    · have hkl : k = l.length := by omega
      have heq : decide (l = m) = true := by
        apply decide_eq_true
        apply List.ext_getElem Hl.out
        intro i h1 h2
        have := Hj.out i (by omega)
        rwa [nth_eq l i h1, nth_eq m i h2] at this
      have Heq := hid heq
      clear heq hkl
      go_wp2
      go_ret
      exact ⟨by rw [Heq.out]; rfl, _, rfl⟩
/-- Two slices of bytes are held against each other. -/
theorem bytes_any (u v : Value) (l m : List (BitVec 8)) (w : World) (hu : Sl w u l) (hv : Sl w v m) (hn : l.length ≤ 70368744177664) (hm : m.length ≤ 70368744177664) :
    Calls Try.prog 9 #[u, v] w fun e w' => e = .returned (.bool (decide (l = m))) ∧ ∃ n, w' = w.drewN n := by
  by_cases hl : l.length = m.length
  · by_cases h0 : l = []
    · subst h0
      obtain rfl : m = [] := List.length_eq_zero_iff.1 hl.symm
      obtain ⟨x, c, rfl⟩ := hu.len
      obtain ⟨y, d, rfl⟩ := hv.len
      exact bytes_core x y c d 0 0 0 0 [] [] w (by simp) rfl (fun h => absurd h (by simp)) (fun h => absurd h (by simp)) (fun i h => absurd h (by simp)) (fun i h => absurd h (by simp))
    · have h1 : m ≠ [] := fun h => h0 (List.length_eq_zero_iff.1 (by rw [hl, h]; rfl))
      obtain ⟨b, o, c, rfl, _, _, hc⟩ := hu.shape h0
      obtain ⟨b', o', c', rfl, _, _, hc'⟩ := hv.shape h1
      rw [← hl]
      exact bytes_core _ _ c c' b o b' o' l m w hn hl (fun _ => rfl) (fun _ => rfl) hc (fun i h => hc' i (by omega))
  · have hne : decide (l = m) = false := by
      apply decide_eq_false; intro h; exact hl (by rw [h])
    obtain ⟨x, c, rfl⟩ := hu.len
    obtain ⟨y, d, rfl⟩ := hv.len
    rw [hne]
    have e1 : ((l.length : Int) != (m.length : Int)) = true := by simp; omega
    clear hl hne hu hv
    go_enter Try.func9, Try.ntmps9
    go_wp2
    go_ret
    exact ⟨rfl, 0, rfl⟩
set_option maxHeartbeats 1000000 in
/-- A twin in memory of its own. -/
theorem twin_any (u : Value) (l : List (BitVec 8)) (w : World) (hu : Sl w u l) (hn : l.length ≤ 70368744177664) :
    Calls Try.prog 8 #[u] w fun e w' => ∃ v, e = .returned v ∧ Own w.heap.size w' v l ∧ Below w.heap.size w w' := by
  have Hu := hid hu
  clear hu
  go_enter Try.func8, Try.ntmps8
  go_wp2_with (at_builtin; refine wpList_append8 _ rfl (.tmp 4) (.tmp 5) 25 rfl w.heap.size Try.underlying25 info8 _ [] l rfl (Own.nil _ _) _ rfl Hu.out (by simpa using hn) (Nat.le_refl _) ?_; intro v' w' hown hg; have Hown := hid hown; have Hg := hid hg; clear hown hg)
  go_ret
  exact ⟨_, rfl, Hown.out, (Below.refl _ _).grown Hg.out (Nat.le_refl _) (fun k h => by cases h)⟩
end Go.Proofs.Ytgapnakhecdliaa
