/- The walk of trystlaw03's wakes: it is true. -/
import Derived.Test.YtgapnakhecdliaaChXor
namespace Go.Proofs.Ytgapnakhecdliaa
open Go.RowKit
theorem block_lit (key nonce : List (BitVec 8)) (c : BitVec 32) (n : Int) (hc : n = tn c) (cs : Array Value) (hcs : cs = cells U8 nonce) (w : World) (hk : key.length = 32) (hn : nonce.length = 12) :
    Calls Try.prog 6 #[.agg (cells U8 key), .int .u32 n, .agg cs] w fun e w' => e = .returned (.agg (cells U8 (chBlock key nonce c))) ∧ Below w.heap.size w w' := by
  subst hcs hc; exact block_any key nonce c w hk hn
def wakeKey : List (BitVec 8) := (List.range 32).map (BitVec.ofNat 8)
def wakeNonce : List (BitVec 8) := [0, 0, 0, 9, 0, 0, 0, 74, 0, 0, 0, 0]
def wakeBlock : List (BitVec 8) := chBlock wakeKey wakeNonce 1
theorem wake0 : nth wakeBlock 0 = 16#8 := by decide +kernel
theorem wake1 : nth wakeBlock 1 = 241#8 := by decide +kernel
theorem wake2 : nth wakeBlock 2 = 231#8 := by decide +kernel
theorem wake3 : nth wakeBlock 3 = 228#8 := by decide +kernel
theorem wake63 : nth wakeBlock 63 = 78#8 := by decide +kernel
theorem ofInt_natCast (k : Nat) : BitVec.ofInt 8 (k : Int) = BitVec.ofNat 8 k := by
  apply BitVec.eq_of_toNat_eq
  rw [BitVec.toNat_ofInt, BitVec.toNat_ofNat]; omega
set_option maxRecDepth 100000 in
set_option maxHeartbeats 2000000 in
theorem chWakes_any (w : World) : Calls Try.prog 12 #[] w fun e w' => e = .returned (.bool true) ∧ Below w.heap.size w w' := by
  go_enter Try.func12, Try.ntmps12
  go_wp2_with fail
  generalize hW : World.alloc w _ = W
  have hK : Has W w.heap.size (cells U8 (zer8 32)) 22 := by rw [← hW]; exact Has.made rfl rfl
  have hB : Below w.heap.size w W := by rw [← hW]; exact (Below.refl _ _).alloc (Nat.le_refl _) _
  obtain ⟨rc, rf, rs⟩ := hK.rowOf
  have HW0 := hid (setRow_self hK)
  have HK := hid hK
  have HB := hid hB
  clear hW hK hB
  go_loopw [2] (fun i wr => ∃ k m : Nat, k ≤ 32 ∧ i = .int .i64 k ∧ wr = (W.setRow w.heap.size (cells U8 (fill (BitVec.ofNat 8) 0 k (zer8 32)))).drewN m) (fun i _ => 32 - (intOf i).toNat)
  case atStart => exact ⟨0, 0, by omega, rfl, HW0.out.symm⟩
  case round =>
    obtain ⟨k, m, hk, rfl, rfl⟩ := hrel
    by_cases hlt : k < 32
    · have h1 : k < (fill (BitVec.ofNat 8) 0 k (zer8 32)).length := by rw [fill_length, zer8_length]; exact hlt
      have h2 := hid (ofInt_natCast k)
      go_wp2
      exact ⟨⟨k + 1, m, by omega, by go_num, by rw [fill_succ0, ← h2.out]⟩, by simp [intOf]; omega⟩
    · obtain rfl : k = 32 := by omega
      clear hlt hk
      have e1 : fill (BitVec.ofNat 8) 0 32 (zer8 32) = wakeKey := fill_zer _ 32
      rw [e1]
      have HK1 := hid ((HK.out.setRow (cells U8 wakeKey)).drewN m)
      have HB1 := hid (below_drewN' (below_setRow HB.out (Nat.le_refl _) (cells U8 wakeKey)) m)
      generalize hV : (W.setRow w.heap.size (cells U8 wakeKey)).drewN m = V at *
      clear hV e1
      go_wp2_with (first
        | ((with_reducible (show wpList _ _ _ (⟨some 12, _, _, _, _, _⟩ :: _) _ _)); refine wpList_load_has rfl 22 (.tmp 1) rfl _ _ _ _ rfl HK1.out Try.underlying22 rfl (by rw [cells_size]; exact info32) ?_)
        | (go_at_call 6; refine (block_lit wakeKey wakeNonce 1 _ rfl _ rfl _ rfl rfl).mono ?_; rintro e w1 ⟨rfl, hb1⟩; have HB2 := hid hb1; clear hb1)
        | ((with_reducible (show wpList _ _ _ (⟨none, .store 26 (.tmp 3) (.tmp 14), _, _, _, _⟩ :: _) _ _)); refine wpList_store_has rfl 26 (.tmp 3) (.tmp 14) rfl _ _ _ _ rfl rfl (Has.new _ _ _) (by rw [cells_size, chBlock_length]; rfl) (by rw [cells_size, chBlock_length]; exact info64) (oneCell8 _) ?_
           generalize hX : World.setRow (World.alloc w1 _) _ _ = X
           have hS : Has X w1.heap.size (cells U8 wakeBlock) 26 := by rw [← hX]; exact (Has.new _ _ _).setRow _
           have HB3 : Hid (Below w.heap.size w X) := by rw [← hX]; exact below_setRow ((HB1.out.trans (HB2.out.mono HB1.out.size)).alloc (Nat.le_trans HB1.out.size HB2.out.size) _) (Nat.le_trans HB1.out.size HB2.out.size) _
           have c0 : X.cell? ⟨w1.heap.size, 0, none⟩ = some (.int .u8 16) := by rw [hS.cell, cells_get _ _ _ (by show 0 < wakeBlock.length; rw [wakeBlock, chBlock_length]; omega), wake0]; rfl
           have c1 : X.cell? ⟨w1.heap.size, 1, none⟩ = some (.int .u8 241) := by rw [hS.cell, cells_get _ _ _ (by show 1 < wakeBlock.length; rw [wakeBlock, chBlock_length]; omega), wake1]; rfl
           have c2 : X.cell? ⟨w1.heap.size, 2, none⟩ = some (.int .u8 231) := by rw [hS.cell, cells_get _ _ _ (by show 2 < wakeBlock.length; rw [wakeBlock, chBlock_length]; omega), wake2]; rfl
           have c3 : X.cell? ⟨w1.heap.size, 3, none⟩ = some (.int .u8 228) := by rw [hS.cell, cells_get _ _ _ (by show 3 < wakeBlock.length; rw [wakeBlock, chBlock_length]; omega), wake3]; rfl
           have c63 : X.cell? ⟨w1.heap.size, 63, none⟩ = some (.int .u8 78) := by rw [hS.cell, cells_get _ _ _ (by show 63 < wakeBlock.length; rw [wakeBlock, chBlock_length]; omega), wake63]; rfl
           clear hX hS HB1 HB2))
      go_ret
      exact ⟨rfl, HB3.out⟩
end Go.Proofs.Ytgapnakhecdliaa
