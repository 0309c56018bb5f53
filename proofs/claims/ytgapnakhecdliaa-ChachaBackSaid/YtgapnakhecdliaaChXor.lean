/- The walk of ChaCha20's Xor. -/
import Derived.Test.YtgapnakhecdliaaChBlock
import Derived.Test.YtgapnakhecdliaaSlice
namespace Go.Proofs.Ytgapnakhecdliaa
open Go.RowKit
def xorByte (key nonce : List (BitVec 8)) (c : BitVec 32) (l : List (BitVec 8)) (i : Nat) : BitVec 8 := nth l i ^^^ nth (chBlock key nonce (c + BitVec.ofNat 32 (i / 64))) (i % 64)
def xorL (key nonce : List (BitVec 8)) (c : BitVec 32) (l : List (BitVec 8)) : List (BitVec 8) := (List.range l.length).map (xorByte key nonce c l)
@[simp] theorem xorL_length (key nonce : List (BitVec 8)) (c : BitVec 32) (l : List (BitVec 8)) : (xorL key nonce c l).length = l.length := by simp [xorL]
theorem fill_own (f : Nat → BitVec 8) (l : List (BitVec 8)) : fill f 0 l.length l = (List.range l.length).map f := by
  rw [fill_all f l.length l (Nat.le_refl _), List.drop_of_length_le (Nat.le_refl _), List.append_nil]
theorem nth_fill (f : Nat → BitVec 8) (l : List (BitVec 8)) (k i : Nat) (h : k ≤ i) : nth (fill f 0 k l) i = nth l i := by
  induction k with
  | zero => rfl
  | succ k ih =>
    rw [fill_succ0]
    have := ih (by omega)
    simp only [nth, put, List.getD_eq_getElem?_getD] at this ⊢
    rw [List.getElem?_set_ne (by omega), this]
theorem info32 : (Try.prog.info? 22).map (·.size) = some 32 := by kernel_rfl
theorem info12 : (Try.prog.info? 24).map (·.size) = some 12 := by kernel_rfl
set_option maxRecDepth 100000 in
set_option maxHeartbeats 2000000 in
theorem xor_any (key nonce : List (BitVec 8)) (c : BitVec 32) (u : Value) (l : List (BitVec 8)) (w : World) (hk : key.length = 32) (hn : nonce.length = 12) (hu : Sl w u l) (hlen : l.length ≤ 2147483648) :
    Calls Try.prog 10 #[.agg (cells U8 key), U32 c, .agg (cells U8 nonce), u] w fun e w' => ∃ v, e = .returned v ∧ Own w.heap.size w' v (xorL key nonce c l) ∧ Below w.heap.size w w' := by
  have Hu := hid hu
  have Hk := hid hk
  have Hn := hid hn
  clear hu hk hn
  go_enter Try.func10, Try.ntmps10
  go_wp2_with (at_builtin; refine wpList_append8 _ rfl (.tmp 13) (.tmp 14) 25 rfl (w.heap.size + 1 + 1) Try.underlying25 info8 (.slice (some ⟨w.heap.size + 1 + 1, 0, none⟩) 0 0) [] l rfl (Own.made0 (by omega) (Has.made (by simp) rfl)) _ rfl (((Hu.out.below ((Below.refl _ _).alloc (Nat.le_refl _) _)).below ((Below.refl _ _).alloc (Nat.le_refl _) _)).below ((Below.refl _ _).alloc (Nat.le_refl _) _)) (by simp; omega) (by simp only [World.size_alloc]; omega) ?_; intro v' w' hown hg; have Hown := hid hown; have Hg := hid hg; clear hown hg)
  have HK0 : Has w' w.heap.size (cells U8 key) 22 := Has.grown (((Has.made rfl rfl).alloc _).alloc _) Hg.out (by simp [Value.ownBlock]; omega)
  have HN0 : Has w' (w.heap.size + 1) (cells U8 nonce) 24 := Has.grown ((Has.made (by simp) rfl).alloc _) Hg.out (by simp [Value.ownBlock])
  have HB0 : Below w.heap.size w w' := ((((Below.refl _ _).alloc (Nat.le_refl _) _).alloc (by simp only [World.size_alloc]; omega) _).alloc (by simp only [World.size_alloc]; omega) _).grown Hg.out (by simp only [World.size_alloc]; omega) (fun k h => by simp only [Value.ownBlock, Option.some.injEq] at h; omega)
  have Hown2 : Own (w.heap.size + 1 + 1) w' v' l := by simpa using Hown.out
  by_cases hl : l = []
  · subst hl
    obtain ⟨a, cap, rfl⟩ := Hown2.sl.len
    have HO := hid Hown2
    have HB := hid HB0
    clear Hown Hown2 HB0 HK0 HN0 Hg Hu Hk Hn
    simp only [List.length_nil]
    go_loopw [10] (fun i wr => i = .int .i64 0 ∧ wr = w') (fun _ _ => 0)
    case atStart => exact ⟨rfl, rfl⟩
    case round =>
      obtain ⟨rfl, rfl⟩ := hrel
      go_wp2
      go_ret
      exact ⟨_, rfl, HO.out.mono (by omega), HB.out⟩
  · obtain ⟨g, cap, T, rfl, hg, hG, hc, hm, hT⟩ := Hown2.shape hl
    have hlp : 0 < l.length := List.length_pos_iff.2 hl
    have ngk : w.heap.size ≠ g := by omega
    have ngn : w.heap.size + 1 ≠ g := by omega
    have HK := hid HK0
    have HN := hid HN0
    have HG := hid hG
    have HB := hid HB0
    have HT := hid hT
    clear Hown Hown2 HB0 HK0 HN0 Hg Hu hG hl hT
    go_loopw [10] (fun i wr => ∃ q : Nat, q % 64 = 0 ∧ q < l.length + 64 ∧ i = .int .i64 q ∧ Below w.heap.size w wr ∧ Has wr w.heap.size (cells U8 key) 22 ∧ Has wr (w.heap.size + 1) (cells U8 nonce) 24 ∧ Has wr g (cellsT (fill (xorByte key nonce c l) 0 (min q l.length) l) T) 5) (fun i _ => l.length + 64 - (intOf i).toNat)
    case atStart => exact ⟨0, rfl, by omega, rfl, HB.out, HK.out, HN.out, by rw [Nat.zero_min]; exact HG.out⟩
    case round =>
      clear HK HN HG HB
      obtain ⟨q, hq, hq1, rfl, hB, hK, hN, hG⟩ := hrel
      have HB := hid hB
      have HK := hid hK
      have HN := hid hN
      have Hq := hid hq
      by_cases hlt : q < l.length
      · have hG1 : Has wr g (cellsT (fill (xorByte key nonce c l) 0 q l) T) 5 := by rw [Nat.min_eq_left (by omega)] at hG; exact hG
        have HG := hid hG1
        clear hB hK hN hG hG1 hq
        go_wp2_with (first
          | ((with_reducible (show wpList _ _ _ (⟨some 22, _, _, _, _, _⟩ :: _) _ _)); refine wpList_load_has rfl 22 (.tmp 4) rfl _ _ _ _ rfl HK.out Try.underlying22 rfl (by rw [cells_size, Hk.out]; exact info32) ?_)
          | ((with_reducible (show wpList _ _ _ (⟨some 28, _, _, _, _, _⟩ :: _) _ _)); refine wpList_load_has rfl 24 (.tmp 6) rfl _ _ _ _ rfl HN.out Try.underlying24 rfl (by rw [cells_size, Hn.out]; exact info12) ?_)
          | (go_at_call 6; refine (block_any _ _ _ _ Hk.out Hn.out).mono ?_; rintro e w1 ⟨rfl, hb1⟩; have HB1 := hid hb1; clear hb1)
          | ((with_reducible (show wpList _ _ _ (⟨none, .store 26 (.tmp 11) (.tmp 29), _, _, _, _⟩ :: _) _ _)); refine wpList_store_has rfl 26 (.tmp 11) (.tmp 29) rfl _ _ _ _ rfl rfl (Has.new _ _ _) (by rw [cells_size, chBlock_length]; rfl) (by rw [cells_size, chBlock_length]; exact info64) (oneCell8 _) ?_))
        generalize hW : World.setRow (World.alloc w1 _) _ _ = W
        have hg1 : g < w1.heap.size := by have h1 := HG.out.lt; have h2 := HB1.out.size; omega
        have hk1 : w.heap.size < w1.heap.size := by have h1 := HK.out.lt; have h2 := HB1.out.size; omega
        have hn1 : w.heap.size + 1 < w1.heap.size := by have h1 := HN.out.lt; have h2 := HB1.out.size; omega
        have hS : Has W w1.heap.size (cells U8 (chBlock key nonce (c + BitVec.ofInt 32 (↑q / 64)))) 26 := by rw [← hW]; exact (Has.new _ _ _).setRow _
        have hK : Has W w.heap.size (cells U8 key) 22 := by rw [← hW]; exact (((HK.out.ext HB1.out).alloc _).other _ (by omega) _)
        have hN : Has W (w.heap.size + 1) (cells U8 nonce) 24 := by rw [← hW]; exact (((HN.out.ext HB1.out).alloc _).other _ (by omega) _)
        have hG : Has W g (cellsT (fill (xorByte key nonce c l) 0 q l) T) 5 := by rw [← hW]; exact (((HG.out.ext HB1.out).alloc _).other _ (by omega) _)
        have hB : Below w.heap.size w W := by rw [← hW]; exact below_setRow ((HB.out.trans (HB1.out.mono (by have := HB.out.size; omega))).alloc (by omega) _) (by omega) _
        have hgs : g ≠ w1.heap.size := by omega
        clear HK HN HG HB hW HB1
        generalize w1.heap.size = bs at *
        have hcb : c + BitVec.ofInt 32 (↑q / 64) = c + BitVec.ofNat 32 (q / 64) := by
          congr 1
        rw [hcb] at hS
        have HS := hid hS
        have HK := hid hK
        have HN := hid hN
        have HG := hid hG
        have HB := hid hB
        have Hcb := hid hcb
        have Hlt := hid hlt
        obtain ⟨rc, rf, rs⟩ := hG.rowOf
        have rcs : ∀ cs i, (W.setRow g cs).cell? ⟨bs, i, none⟩ = (cells U8 (chBlock key nonce (c + BitVec.ofNat 32 (q / 64))))[i]? := fun cs i => (hS.other g (fun e => hgs e.symm) cs).cell i
        clear hS hK hN hG hB hcb
        have hW0 := hid (setRow_self HG.out)
        obtain ⟨E, hE, hE1, hE2, hE3⟩ : ∃ E : Nat, (E = min (q + 64) l.length) ∧ q ≤ E ∧ E ≤ q + 64 ∧ E ≤ l.length := ⟨min (q + 64) l.length, rfl, by omega, by omega, by omega⟩
        have hEm : (if (l.length : Int) < (q : Int) + 64 then (l.length : Int) else (q : Int) + 64) = (E : Int) := by
          subst hE
          split <;> omega
        have HE := hid hE
        clear hE
        go_loopw [12] (fun i wr => ∃ k m : Nat, q ≤ k ∧ k ≤ E ∧ i = .int .i64 k ∧ wr = (W.setRow g (cellsT (fill (xorByte key nonce c l) 0 k l) T)).drewN m) (fun i _ => E - (intOf i).toNat)
        case atStart => exact ⟨q, 0, Nat.le_refl _, hE1, rfl, hW0.out.symm⟩
        case round =>
          obtain ⟨k, m, hk0, hk1, rfl, rfl⟩ := hrel
          by_cases hkE : k < E
          · have p1 : k < l.length := by omega
            have p2 : k - q < 64 := by omega
            have p3 : k < (fill (xorByte key nonce c l) 0 k l).length := by rw [fill_length]; exact p1
            have p4 : k - q < (chBlock key nonce (c + BitVec.ofNat 32 (q / 64))).length := by rw [chBlock_length]; exact p2
            have p5 : (k : Int) < l.length := by omega
            have p6 : (k : Int) - q < 64 := by omega
            have p7 : (0 : Int) ≤ (k : Int) - q := by omega
            have pb := hid (nth_fill (xorByte key nonce c l) l k k (Nat.le_refl _))
            have pc : xorByte key nonce c l k = nth l k ^^^ nth (chBlock key nonce (c + BitVec.ofNat 32 (q / 64))) (k - q) := by
              unfold xorByte
              rw [show k / 64 = q / 64 by have := Hq.out; omega, show k % 64 = k - q by have := Hq.out; omega]
            have Pc := hid pc
            clear pc
            go_wp2
            refine region_tail 11 (by kernel_rfl) (by kernel_rfl) ?_
            simp only [List.take_succ_cons, List.take_zero, List.drop_succ_cons, List.drop_zero]
            repeat (refine wpStill_step (fun K hK => ?_); go_simp; (try go_bits); refine hK _ ?_; clear hK K)
            refine wpStill_nil ?_
            go_wp2
            exact ⟨⟨k + 1, m + 1, by omega, by omega, by go_num, by rw [fill_succ0, Pc.out, pb.out]⟩, by simp [intOf]; omega⟩
          · obtain rfl : k = E := by omega
            go_wp2
            refine ⟨⟨q + 64, by have := Hq.out; omega, by have := Hlt.out; omega, by go_num, below_drewN' (below_setRow HB.out (by omega) _) _, (HK.out.other _ ngk _).drewN _, (HN.out.other _ ngn _).drewN _, by rw [← HE.out]; exact (HG.out.setRow _).drewN _⟩, by simp [intOf]; omega⟩
      · go_wp2
        go_ret
        have hq2 : min q l.length = l.length := Nat.min_eq_right (by omega)
        rw [hq2, fill_own] at hG
        refine ⟨_, rfl, ?_, HB.out⟩
        have hx : (xorL key nonce c l).length = l.length := xorL_length key nonce c l
        have := Own.mk (B := w.heap.size) (l := xorL key nonce c l) (T := T) (cap := cap) (by omega) hG hm (by rw [hx]; exact HT.out)
        rw [hx] at this
        exact this
end Go.Proofs.Ytgapnakhecdliaa
