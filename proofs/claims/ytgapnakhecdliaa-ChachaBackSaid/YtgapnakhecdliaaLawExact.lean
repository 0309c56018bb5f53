/- ChachaExact: each block, and any text turned, is the published one, at every key, counter, nonce and text. -/
import Derived.Test.YtgapnakhecdliaaChWakes
import Derived.Test.YtgapnakhecdliaaRfXor
import Derived.Test.YtgapnakhecdliaaKeep
import Derived.Test.YtgapnakhecdliaaRegion
namespace Go.Proofs.Ytgapnakhecdliaa
open Go.RowKit
theorem Has.sl {w : World} {b n : Nat} {l : List (BitVec 8)} {t : TypeId} (h : Has w b (cells U8 l) t) (hn : l.length = n) (hm : n ≤ maxLen) : Sl w (.slice (some ⟨b, 0, none⟩) n n) l :=
  Sl.mk hn (Nat.le_refl _) hm fun i hi => by rw [h.cell, Nat.zero_add, cells_get _ _ _ (by omega)]
set_option maxRecDepth 100000 in
set_option maxHeartbeats 20000000 in
theorem exact_walk (key nonce : List (BitVec 8)) (c : BitVec 32) (u : Value) (l : List (BitVec 8)) (w : World) (hk : key.length = 32) (hn : nonce.length = 12) (hu : Sl w u l) (hlen : l.length ≤ 2000) :
    Calls Try.prog 3 #[.agg (cells U8 key), U32 c, .agg (cells U8 nonce), u] w fun e w' => e = .returned (.bool true) ∧ Below w.heap.size w w' := by
  have Hu := hid hu
  have Hk := hid hk
  have Hn := hid hn
  obtain ⟨ua, ucap, hux⟩ := hu.len
  subst hux
  clear hu hk hn
  go_enter Try.func3, Try.ntmps3
  go_wp2_with fail
  generalize hW : World.alloc (World.alloc w _) _ = W
  have hK : Has W w.heap.size (cells U8 key) 22 := by rw [← hW]; exact (Has.made rfl rfl).alloc _
  have hN : Has W (w.heap.size + 1) (cells U8 nonce) 24 := by rw [← hW]; exact Has.made (by simp) rfl
  have hB : Below w.heap.size w W := by rw [← hW]; exact ((Below.refl _ _).alloc (Nat.le_refl _) _).alloc (by simp only [World.size_alloc]; omega) _
  have HK := hid hK
  have HN := hid hN
  have HB := hid hB
  clear hW hK hN hB
  refine wp_region_X 10 (fun w' => Ext W w') (asOf [(3, .inl (.agg (cells U8 (chBlock key nonce c)))), (7, .inl (.agg (cells U8 (chBlock key nonce c)))), (8, .inr (NewRow W.heap.size (cells U8 (zer8 64)) 26)), (9, .inr (NewRow W.heap.size (cells U8 (zer8 64)) 26))])
    (by kernel_rfl) (by kernel_rfl) (Below.drew (Ext.refl W)) (fun _ _ h k => h.trans k) (asOf_last _ ⟨NewRow.lasting _ _ _, NewRow.lasting _ _ _, trivial⟩) ?_
  simp only [List.take_succ_cons, List.take_zero, List.drop_succ_cons, List.drop_zero]
  refine wpX_read rfl rfl _ (fun w' hc _ => exec_load_has _ _ rfl _ _ _ _ rfl (HK.out.ext hc) Try.underlying22 rfl (by rw [cells_size, Hk.out]; exact info32)) _ rfl ?_
  refine wpX_free rfl rfl _ (fun w' => by go_simp; exact rfl) _ rfl ?_
  refine wpX_read rfl rfl _ (fun w' hc _ => exec_load_has _ _ rfl _ _ _ _ rfl (HN.out.ext hc) Try.underlying24 rfl (by rw [cells_size, Hn.out]; exact info12)) _ rfl ?_
  refine wpX_val _ rfl rfl (fun w' hc _ => fine_call _ _ (by go_simp) ((block_any key nonce c w' Hk.out Hn.out).mono fun e w'' ⟨he, hb⟩ => ⟨_, he, hb, rfl⟩)) _ rfl ?_
  refine wpX_read rfl rfl _ (fun w' hc _ => exec_load_has _ _ rfl _ _ _ _ rfl (HK.out.ext hc) Try.underlying22 rfl (by rw [cells_size, Hk.out]; exact info32)) _ rfl ?_
  refine wpX_free rfl rfl _ (fun w' => by go_simp; exact rfl) _ rfl ?_
  refine wpX_read rfl rfl _ (fun w' hc _ => exec_load_has _ _ rfl _ _ _ _ rfl (HN.out.ext hc) Try.underlying24 rfl (by rw [cells_size, Hn.out]; exact info12)) _ rfl ?_
  refine wpX_val _ rfl rfl (fun w' hc _ => fine_call _ _ (by go_simp) ((refBlock_any key nonce c w' Hk.out Hn.out).mono fun e w'' ⟨he, hb⟩ => ⟨_, he, hb, rfl⟩)) _ rfl ?_
  refine wpX_prop _ rfl rfl (fun w' hc _ => fine_alloc _ rfl _ Try.zeroValue26 rfl hc (Nat.le_refl _)) fun v9 a9 ha9 => ?_
  subst ha9
  refine wpX_prop _ rfl rfl (fun w' hc _ => fine_alloc _ rfl _ Try.zeroValue26 rfl hc (Nat.le_refl _)) fun v10 a10 ha10 => ?_
  subst ha10
  intro w1 hw1 hH
  obtain ⟨b9, rfl, hb9, h9⟩ := hH (8, fun w => NewRow W.heap.size (cells U8 (zer8 64)) 26 w v9) (by simp)
  obtain ⟨b10, rfl, hb10, h10⟩ := hH (9, fun w => NewRow W.heap.size (cells U8 (zer8 64)) 26 w v10) (by simp)
  clear hH
  generalize hX : cells U8 (chBlock key nonce c) = X
  have HX1 : X.size = 64 := by rw [← hX, cells_size, chBlock_length]
  have HX2 : ∀ v ∈ X.toList, v.oneCell' = true := by rw [← hX]; exact oneCell8 _
  go_simp
  refine wpList_store_has rfl 26 (.tmp 9) (.tmp 18) rfl _ _ _ _ rfl rfl h9 (by rw [HX1]; rfl) (by rw [HX1]; exact info64) HX2 ?_
  go_simp
  have h10' : Has (w1.setRow b9 X) b10 (if b10 = b9 then X else cells U8 (zer8 64)) 26 := by
    split
    · next e => subst e; exact h9.setRow _
    · next e => exact h10.other _ e _
  have s10 : X.size = (if b10 = b9 then X else cells U8 (zer8 64)).size := by
    split
    · rfl
    · rw [HX1]; rfl
  refine wpList_store_has rfl 26 (.tmp 10) (.tmp 22) rfl _ _ _ _ rfl rfl h10' s10 (by rw [HX1]; exact info64) HX2 ?_
  clear h10' s10
  have HE : Hid (Ext W ((w1.setRow b9 X).setRow b10 X)) := below_setRow (below_setRow hw1 hb9 _) hb10 _
  have H9 : Hid (Has ((w1.setRow b9 X).setRow b10 X) b9 X 26) := by
    by_cases e : b9 = b10
    · subst e; exact (h9.setRow X).setRow X
    · exact (h9.setRow X).other _ e _
  have H10 : Hid (Has ((w1.setRow b9 X).setRow b10 X) b10 X 26) := by
    by_cases e : b10 = b9
    · subst e; exact (h9.setRow X).setRow X
    · exact (h10.other _ e X).setRow X
  generalize (w1.setRow b9 X).setRow b10 X = w2 at *
  clear h9 h10 hw1 hb9 hb10
  go_simp
  have Hu2 := hid ((Hu.out.below HB.out).below HE.out)
  go_wp2_with (first
    | (go_at_call 8; refine (twin_any _ l _ Hu2.out (by omega)).mono ?_; rintro e w3 ⟨v11, rfl, h11, hb3⟩; have Hv := hid h11; have HB3 := hid hb3; clear h11 hb3))
  subst hX
  have K3 := hid ((HK.out.ext HE.out).ext HB3.out)
  have N3 := hid ((HN.out.ext HE.out).ext HB3.out)
  have A3 := hid ((H9.out.ext HB3.out).sl (by rw [chBlock_length]) (by decide))
  have B3 := hid ((H10.out.ext HB3.out).sl (by rw [chBlock_length]) (by decide))
  have V3 := hid Hv.out.sl
  have U3 := hid (Hu2.out.below HB3.out)
  have L3 : (xorL key nonce c l).length ≤ 70368744177664 := by rw [xorL_length]; omega
  refine wp_region_X 25 (fun w' => Ext w3 w') (asOf [(2, .inl (.bool true)), (8, .inr fun w v => Sl w v (xorL key nonce c l)), (13, .inr fun w v => Sl w v (xorL key nonce c l)), (14, .inl (.bool true)), (19, .inl (.bool true)), (22, .inl (.bool true))])
    (by kernel_rfl) (by kernel_rfl) (Below.drew (Ext.refl w3)) (fun _ _ h k => h.trans k) (asOf_last _ ⟨Sl.lasting _, Sl.lasting _, trivial⟩) ?_
  simp only [List.take_succ_cons, List.take_zero, List.drop_succ_cons, List.drop_zero]
  refine wpX_free rfl rfl _ (fun w' => by first | (go_simp; done) | (go_simp; exact rfl)) _ (by go_simp; exact rfl) ?_
  refine wpX_free rfl rfl _ (fun w' => by first | (go_simp; done) | (go_simp; exact rfl)) _ (by go_simp; exact rfl) ?_
  refine wpX_val _ rfl rfl (fun w' hc _ => fine_call _ _ (by go_simp) ((bytes_any _ _ _ _ w' (A3.out.below hc) (B3.out.below hc) (by rw [chBlock_length]; omega) (by rw [chBlock_length]; omega)).mono fun e w'' ⟨he, m, hb⟩ => ⟨_, he, hb ▸ below_drewN' (Ext.refl _) m, by simp⟩)) _ (by go_simp; exact rfl) ?_
  refine wpX_free rfl rfl _ (fun w' => by first | (go_simp; done) | (go_simp; exact rfl)) _ (by go_simp; exact rfl) ?_
  refine wpX_read rfl rfl _ (fun w' hc _ => exec_load_has _ _ rfl _ _ _ _ rfl (K3.out.ext hc) Try.underlying22 rfl (by rw [cells_size, Hk.out]; exact info32)) _ (by go_simp; exact rfl) ?_
  refine wpX_free rfl rfl _ (fun w' => by first | (go_simp; done) | (go_simp; exact rfl)) _ (by go_simp; exact rfl) ?_
  refine wpX_read rfl rfl _ (fun w' hc _ => exec_load_has _ _ rfl _ _ _ _ rfl (N3.out.ext hc) Try.underlying24 rfl (by rw [cells_size, Hn.out]; exact info12)) _ (by go_simp; exact rfl) ?_
  refine wpX_free rfl rfl _ (fun w' => by first | (go_simp; done) | (go_simp; exact rfl)) _ (by go_simp; exact rfl) ?_
  refine wpX_prop' _ rfl rfl (fun w' hc _ => fine_call _ _ (by go_simp) ((xor_any key nonce c _ l w' Hk.out Hn.out (V3.out.below hc) (by omega)).mono fun e w'' ⟨v, he, ho, hb⟩ => ⟨_, he, hb, ho.sl⟩)) _ (fun v => by go_simp; exact rfl) fun v33 => ?_
  refine wpX_read rfl rfl _ (fun w' hc _ => exec_load_has _ _ rfl _ _ _ _ rfl (K3.out.ext hc) Try.underlying22 rfl (by rw [cells_size, Hk.out]; exact info32)) _ (by go_simp; exact rfl) ?_
  refine wpX_free rfl rfl _ (fun w' => by first | (go_simp; done) | (go_simp; exact rfl)) _ (by go_simp; exact rfl) ?_
  refine wpX_read rfl rfl _ (fun w' hc _ => exec_load_has _ _ rfl _ _ _ _ rfl (N3.out.ext hc) Try.underlying24 rfl (by rw [cells_size, Hn.out]; exact info12)) _ (by go_simp; exact rfl) ?_
  refine wpX_free rfl rfl _ (fun w' => by first | (go_simp; done) | (go_simp; exact rfl)) _ (by go_simp; exact rfl) ?_
  refine wpX_prop' _ rfl rfl (fun w' hc _ => fine_call _ _ (by go_simp) ((refXor_any key nonce c _ l w' Hk.out Hn.out (U3.out.below hc) (by omega)).mono fun e w'' ⟨v, he, ho, hb⟩ => ⟨_, he, hb, ho.sl⟩)) _ (fun v => by go_simp; exact rfl) fun v38 => ?_
  refine wpX_val _ rfl rfl (fun w' hc hH => fine_call _ _ (by go_simp) ((bytes_any _ _ _ _ w' (hH (8, fun w => Sl w v33 (xorL key nonce c l)) (by simp) (by kernel_rfl)) (hH (13, fun w => Sl w v38 (xorL key nonce c l)) (by simp) (by kernel_rfl)) L3 L3).mono fun e w'' ⟨he, m, hb⟩ => ⟨_, he, hb ▸ below_drewN' (Ext.refl _) m, by simp⟩)) _ (by go_simp; exact rfl) ?_
  refine wpX_free rfl rfl _ (fun w' => by first | (go_simp; done) | (go_simp; exact rfl)) _ (by go_simp; exact rfl) ?_
  refine wpX_free rfl rfl _ (fun w' => by first | (go_simp; done) | (go_simp; exact rfl)) _ (by go_simp; exact rfl) ?_
  refine wpX_free rfl rfl _ (fun w' => by first | (go_simp; done) | (go_simp; exact rfl)) _ (by go_simp; exact rfl) ?_
  refine wpX_free rfl rfl _ (fun w' => by first | (go_simp; done) | (go_simp; exact rfl)) _ (by go_simp; exact rfl) ?_
  refine wpX_val _ rfl rfl (fun w' hc _ => fine_call _ _ (by go_simp) ((bytes_any _ _ _ _ w' (V3.out.below hc) (U3.out.below hc) (by omega) (by omega)).mono fun e w'' ⟨he, m, hb⟩ => ⟨_, he, hb ▸ below_drewN' (Ext.refl _) m, by simp⟩)) _ (by go_simp; exact rfl) ?_
  refine wpX_free rfl rfl _ (fun w' => by first | (go_simp; done) | (go_simp; exact rfl)) _ (by go_simp; exact rfl) ?_
  refine wpX_free rfl rfl _ (fun w' => by first | (go_simp; done) | (go_simp; exact rfl)) _ (by go_simp; exact rfl) ?_
  refine wpX_val _ rfl rfl (fun w' hc _ => fine_call _ _ (by go_simp) ((chWakes_any w').mono fun e w'' ⟨he, hb⟩ => ⟨_, he, hb, rfl⟩)) _ (by go_simp; exact rfl) ?_
  refine wpX_free rfl rfl _ (fun w' => by first | (go_simp; done) | (go_simp; exact rfl)) _ (by go_simp; exact rfl) ?_
  refine wpX_free rfl rfl _ (fun w' => by first | (go_simp; done) | (go_simp; exact rfl)) _ (by go_simp; exact rfl) ?_
  intro w4 hw4 hH
  clear hH
  have HB4 : Hid (Below w.heap.size w w4) := HB.out.trans ((Ext.trans HE.out (Ext.trans HB3.out hw4)).mono HB.out.size)
  go_simp
  go_wp2
  go_ret
  exact ⟨rfl, HB4.out⟩
/-- Texts of more than 2000 bytes are let pass. -/
theorem exact_long (key nonce : List (BitVec 8)) (c : BitVec 32) (u : Value) (l : List (BitVec 8)) (w : World) (hu : Sl w u l) (hlen : 2000 < l.length) :
    Calls Try.prog 3 #[.agg (cells U8 key), U32 c, .agg (cells U8 nonce), u] w fun e w' => e = .returned (.bool true) ∧ Below w.heap.size w w' := by
  obtain ⟨ua, ucap, hux⟩ := hu.len
  subst hux
  clear hu
  have h1 : (2000 : Int) < (l.length : Int) := by omega
  clear hlen
  go_enter Try.func3, Try.ntmps3
  go_wp2_with fail
  go_ret
  exact ⟨rfl, ((Below.refl _ _).alloc (Nat.le_refl _) _).alloc (by simp only [World.size_alloc]; omega) _⟩
theorem chachaExact_walk (key : List (BitVec 8)) (c : BitVec 32) (nonce : List (BitVec 8)) (u : Value) (l : List (BitVec 8)) (w : World) (hk : key.length = 32) (hn : nonce.length = 12) (hu : Sl w u l) :
    Calls Try.prog 3 #[.agg (cells U8 key), U32 c, .agg (cells U8 nonce), u] w fun e w' => e = .returned (.bool true) ∧ Below w.heap.size w w' := by
  by_cases h : l.length ≤ 2000
  · exact exact_walk key nonce c u l w hk hn hu h
  · exact exact_long key nonce c u l w hu (by omega)
end Go.Proofs.Ytgapnakhecdliaa
