/- The walk of the reference's Xor: it is the same. -/
import Derived.Test.YtgapnakhecdliaaRfBlock
import Derived.Test.YtgapnakhecdliaaChXor
namespace Go.Proofs.Ytgapnakhecdliaa
open Go.RowKit
theorem xorL_take (key nonce : List (BitVec 8)) (c : BitVec 32) (l : List (BitVec 8)) (k : Nat) (h : k < l.length) : (xorL key nonce c l).take k ++ [xorByte key nonce c l k] = (xorL key nonce c l).take (k + 1) := by
  rw [List.take_succ_eq_append_getElem (by rw [xorL_length]; exact h)]
  simp [xorL]
set_option maxRecDepth 100000 in
set_option maxHeartbeats 2000000 in
theorem refXor_any (key nonce : List (BitVec 8)) (c : BitVec 32) (u : Value) (l : List (BitVec 8)) (w : World) (hk : key.length = 32) (hn : nonce.length = 12) (hu : Sl w u l) (hlen : l.length ≤ 2147483648) :
    Calls Try.prog 11 #[.agg (cells U8 key), U32 c, .agg (cells U8 nonce), u] w fun e w' => ∃ v, e = .returned v ∧ Own w.heap.size w' v (xorL key nonce c l) ∧ Below w.heap.size w w' := by
  have Hk := hid hk
  have Hn := hid hn
  clear hk hn
  by_cases hl : l = []
  · subst hl
    obtain ⟨a, cap, rfl⟩ := hu.len
    clear hu
    simp only [List.length_nil]
    go_enter Try.func11, Try.ntmps11
    go_wp2_with fail
    generalize hW : World.alloc (World.alloc w _) _ = W
    have HB : Hid (Below w.heap.size w W) := by rw [← hW]; exact ((Below.refl _ _).alloc (Nat.le_refl _) _).alloc (by simp only [World.size_alloc]; omega) _
    clear hW
    go_loopw [9, 10] (fun v i wr => v = .slice none 0 0 ∧ i = .int .i64 0 ∧ wr = W) (fun _ _ _ => 0)
    case atStart => exact ⟨rfl, rfl, rfl⟩
    case round =>
      obtain ⟨rfl, rfl, rfl⟩ := hrel
      go_wp2
      go_ret
      exact ⟨_, rfl, Own.nil _ _, HB.out⟩
  · have Hu := hid hu
    obtain ⟨bu, ou, cu, rfl, hcu, hmu, _⟩ := hu.shape hl
    have hlp : 0 < l.length := List.length_pos_iff.2 hl
    clear hu
    go_enter Try.func11, Try.ntmps11
    go_wp2_with fail
    generalize hW : World.alloc (World.alloc w _) _ = W
    have hB0 : Below w.heap.size w W := by rw [← hW]; exact ((Below.refl _ _).alloc (Nat.le_refl _) _).alloc (by simp only [World.size_alloc]; omega) _
    have hK0 : Has W w.heap.size (cells U8 key) 22 := by rw [← hW]; exact (Has.made rfl rfl).alloc _
    have hN0 : Has W (w.heap.size + 1) (cells U8 nonce) 24 := by rw [← hW]; exact Has.made (by simp) rfl
    have HB := hid hB0
    have HK := hid hK0
    have HN := hid hN0
    clear hW hB0 hK0 hN0 hl
    go_loopw [1, 9, 10] (fun ct v i wr => ∃ q : Nat, q % 64 = 0 ∧ q < l.length + 64 ∧ i = .int .i64 q ∧ ct = U32 (c + BitVec.ofNat 32 (q / 64)) ∧ Below w.heap.size w wr ∧ Has wr w.heap.size (cells U8 key) 22 ∧ Has wr (w.heap.size + 1) (cells U8 nonce) 24 ∧ Own w.heap.size wr v ((xorL key nonce c l).take q)) (fun _ _ i _ => l.length + 64 - (intOf i).toNat)
    case atStart => exact ⟨0, rfl, by omega, rfl, by simp, HB.out, HK.out, HN.out, Own.nil _ _⟩
    case round =>
      clear HB HK HN
      obtain ⟨q, hq, hq1, rfl, rfl, hB, hK, hN, hO⟩ := hrel
      have HB := hid hB
      have HK := hid hK
      have HN := hid hN
      have HO := hid hO
      have Hq := hid hq
      clear hB hK hN hO hq
      by_cases hlt : q < l.length
      · go_wp2_with (first
          | ((with_reducible (show wpList _ _ _ (⟨some 19, _, _, _, _, _⟩ :: _) _ _)); refine wpList_load_has rfl 22 (.tmp 4) rfl _ _ _ _ rfl HK.out Try.underlying22 rfl (by rw [cells_size, Hk.out]; exact info32) ?_)
          | ((with_reducible (show wpList _ _ _ (⟨some 21, _, _, _, _, _⟩ :: _) _ _)); refine wpList_load_has rfl 24 (.tmp 6) rfl _ _ _ _ rfl HN.out Try.underlying24 rfl (by rw [cells_size, Hn.out]; exact info12) ?_)
          | (go_at_call 7; refine (refBlock_any _ _ _ _ Hk.out Hn.out).mono ?_; rintro e w1 ⟨rfl, hb1⟩; have HB1 := hid hb1; clear hb1)
          | ((with_reducible (show wpList _ _ _ (⟨none, .store 26 (.tmp 11) (.tmp 22), _, _, _, _⟩ :: _) _ _)); refine wpList_store_has rfl 26 (.tmp 11) (.tmp 22) rfl _ _ _ _ rfl rfl (Has.new _ _ _) (by rw [cells_size, chBlock_length]; rfl) (by rw [cells_size, chBlock_length]; exact info64) (oneCell8 _) ?_))
        generalize hW : World.setRow (World.alloc w1 _) _ _ = W2
        have hk1 : w.heap.size < w1.heap.size := by have h1 := HK.out.lt; have h2 := HB1.out.size; omega
        have hn1 : w.heap.size + 1 < w1.heap.size := by have h1 := HN.out.lt; have h2 := HB1.out.size; omega
        have hb2 : Below w1.heap.size w1 W2 := by rw [← hW]; exact below_setRow ((Below.refl _ _).alloc (Nat.le_refl _) _) (Nat.le_refl _) _
        have hb3 : Below wr.heap.size wr W2 := HB1.out.trans (hb2.mono HB1.out.size)
        have hS : Has W2 w1.heap.size (cells U8 (chBlock key nonce (c + BitVec.ofNat 32 (q / 64)))) 26 := by rw [← hW]; exact (Has.new _ _ _).setRow _
        have hK := HK.out.ext hb3
        have hN := HN.out.ext hb3
        have hO := HO.out.below hb3
        have hB := HB.out.trans (hb3.mono HB.out.size)
        clear HK HN HB HO hW HB1 hb2 hb3
        generalize w1.heap.size = bs at *
        have HS := hid hS
        have HK := hid hK
        have HN := hid hN
        have HO := hid hO
        have HB := hid hB
        have Hlt := hid hlt
        clear hS hK hN hB hO
        have hb1 : decide ((q : Int) < l.length) = true := decide_eq_true (by omega)
        go_loopw [9, 12] (fun v i wr => ∃ j : Nat, j ≤ 64 ∧ q + j ≤ l.length ∧ i = .int .i64 j ∧ Below w.heap.size w wr ∧ Has wr w.heap.size (cells U8 key) 22 ∧ Has wr (w.heap.size + 1) (cells U8 nonce) 24 ∧ Has wr bs (cells U8 (chBlock key nonce (c + BitVec.ofNat 32 (q / 64)))) 26 ∧ Own w.heap.size wr v ((xorL key nonce c l).take (q + j))) (fun _ i _ => 64 - (intOf i).toNat)
        case atStart => exact ⟨0, by omega, by omega, rfl, HB.out, HK.out, HN.out, HS.out, HO.out⟩
        case round =>
          clear HB HK HN HS HO
          obtain ⟨j, hj, hqj, rfl, hB, hK, hN, hS, hO⟩ := hrel
          have HB := hid hB
          have HK := hid hK
          have HN := hid hN
          have HS := hid hS
          have HO := hid hO
          by_cases hd : j < 64 ∧ q + j < l.length
          · obtain ⟨hj1, hj2⟩ := hd
            have hlm : l ≠ [] := fun e => by subst e; simp at hlp
            obtain ⟨bu', ou', cu', e, _, _, hcell⟩ := (Hu.out.below (hB.mono (Nat.le_refl _))).shape hlm
            simp only [Value.slice.injEq, Option.some.injEq, Addr.mk.injEq] at e
            obtain ⟨⟨rfl, rfl, _⟩, _, rfl⟩ := e
            have c1 := hcell (q + j) hj2
            have c2 : wr.cell? ⟨bs, j, none⟩ = some (U8 (nth (chBlock key nonce (c + BitVec.ofNat 32 (q / 64))) j)) := by
              rw [hS.cell, cells_get _ _ _ (by rw [chBlock_length]; exact hj1)]
            have d1 : decide ((j : Int) < 64) = true := decide_eq_true (by omega)
            have d2 : decide ((q : Int) + j < l.length) = true := decide_eq_true (by omega)
            have d3 : (q : Int) + j < l.length := by omega
            have d4 : (j : Int) < 64 := by omega
            have hxt := xorL_take key nonce c l (q + j) hj2
            have hxb : xorByte key nonce c l (q + j) = nth l (q + j) ^^^ nth (chBlock key nonce (c + BitVec.ofNat 32 (q / 64))) j := by
              unfold xorByte
              rw [show (q + j) / 64 = q / 64 by have := Hq.out; omega, show (q + j) % 64 = j by have := Hq.out; omega]
            rw [hxb] at hxt
            have Hxt := hid hxt
            have hBw := hid hB.size
            clear hB hK hN hS hO hcell hlm hxt hxb
            have hwr : IntKind.i64.wrap ((q : Int) + j) = (q : Int) + j := IntWalk.i64_in _ (by omega)
            have d5 : (0 : Int) ≤ (q : Int) + j := by omega
            have d6 : ((q : Int) + j).toNat = q + j := by omega
            go_wp2
            go_region_law (first
              | (refine step_append8 rfl (.tmp 37) (.tmp 48) 25 rfl w.heap.size Try.underlying25 info8 u9 _ _ rfl (HO.out.below (by first | exact ((Below.refl _ _).drew).alloc (Nat.le_refl _) _ | exact ((Below.refl _ _).alloc (Nat.le_refl _) _).drew)) (.slice (some ⟨wr.heap.size, 0, none⟩) 1 1) rfl (Sl.one (x := nth l (q + j) ^^^ nth (chBlock key nonce (c + BitVec.ofNat 32 (q / 64))) j) (t := 5) (by first | exact Has.made rfl rfl | exact (Has.made rfl rfl).drew)) (by simp; omega) (by have := hBw.out; simp; omega) ?_; intro v' w' hown hg; have Hown := hid hown; have Hg := hid hg; clear hown hg))
            all_goals go_wp2
            all_goals
              have hB3 : Below wr.heap.size wr (wr.alloc (.cells #[U8 (nth l (q + j) ^^^ nth (chBlock key nonce (c + BitVec.ofNat 32 (q / 64))) j)] 5)).drew := ((Below.refl _ _).alloc (Nat.le_refl _) _).drew
              have hO3 := HO.out.below hB3
              have hg3 := Hg.out
              have hx3 := Hown.out
              rw [Hxt.out] at hx3
              exact ⟨⟨j + 1, by omega, by omega, by go_num, below_own (HB.out.trans (hB3.mono hBw.out)) hO3 (Nat.le_refl _) (Nat.le_trans hBw.out hB3.size) hg3, Has.own hO3 hg3 (HK.out.ext hB3) (by decide), Has.own hO3 hg3 (HN.out.ext hB3) (by decide), Has.own hO3 hg3 (HS.out.ext hB3) (by decide), hx3⟩, by simp [intOf]; omega⟩
          · have hend : (xorL key nonce c l).take (q + j) = (xorL key nonce c l).take (q + 64) := by
              by_cases h64 : j = 64
              · rw [h64]
              · rw [List.take_of_length_le (by rw [xorL_length]; omega), List.take_of_length_le (by rw [xorL_length]; omega)]
            have hct : c + BitVec.ofNat 32 (q / 64) + 1#32 = c + BitVec.ofNat 32 ((q + 64) / 64) := by
              rw [BitVec.add_assoc, ← BitVec.ofNat_add, show (q + 64) / 64 = q / 64 + 1 by omega]
            rw [hend] at hO
            have HO1 := hid hO
            have Hct := hid hct
            clear hB hK hN hS hO hend hct HO
            by_cases h64 : j < 64
            · have hn2 : ¬ (q + j < l.length) := fun h => hd ⟨h64, h⟩
              have d2 : decide ((q : Int) + j < l.length) = false := decide_eq_false (by omega)
              have d1 : decide ((j : Int) < 64) = true := decide_eq_true (by omega)
              clear hd
              go_wp2
              exact ⟨⟨q + 64, by have := Hq.out; omega, by have := Hlt.out; omega, by go_num, by rw [Hct.out], HB.out, HK.out, HN.out, HO1.out⟩, by simp [intOf]; omega⟩
            · have d1 : decide ((j : Int) < 64) = false := decide_eq_false (by omega)
              clear hd
              go_wp2
              exact ⟨⟨q + 64, by have := Hq.out; omega, by have := Hlt.out; omega, by go_num, by rw [Hct.out], HB.out, HK.out, HN.out, HO1.out⟩, by simp [intOf]; omega⟩
      · go_wp2
        go_ret
        have hx := HO.out
        rw [List.take_of_length_le (by rw [xorL_length]; omega)] at hx
        exact ⟨_, rfl, hx, HB.out⟩
end Go.Proofs.Ytgapnakhecdliaa
