/- ChachaMixes: two texts turned by one stream differ as the texts do; a text cut short is turned to the turned text cut short. -/
import Derived.Test.YtgapnakhecdliaaLawExact
namespace Go.Proofs.Ytgapnakhecdliaa
open Go.RowKit
theorem Sl.take {w : World} {a : Option Addr} {len cap n : Nat} {l : List (BitVec 8)} (h : Sl w (.slice a len cap) l) (hn : n ≤ l.length) : Sl w (.slice a n cap) (l.take n) := by
  obtain ⟨a', cap', e, h1, h2, h3, h4⟩ := h
  cases e
  have e1 : (l.take n).length = n := by simp; omega
  refine ⟨a, cap, by rw [e1], by rw [e1]; omega, h2, h3, fun i hi => ?_⟩
  rw [e1] at hi
  obtain ⟨b, off, hb, hc⟩ := h4 i (by omega)
  refine ⟨b, off, hb, ?_⟩
  rw [hc, nth_eq _ _ (by omega), nth_eq _ _ (by omega)]
  simp
theorem nth_take (l : List (BitVec 8)) {n i : Nat} (h : i < n) (hn : n ≤ l.length) : nth (l.take n) i = nth l i := by
  rw [nth_eq _ _ (by simp; omega), nth_eq _ _ (by omega)]
  simp
theorem xorL_cut (key nonce : List (BitVec 8)) (c : BitVec 32) (l : List (BitVec 8)) (n : Nat) (hn : n ≤ l.length) : xorL key nonce c (l.take n) = (xorL key nonce c l).take n := by
  unfold xorL
  rw [← List.map_take, List.take_range, List.length_take]
  apply List.map_congr_left
  intro i hi
  rw [List.mem_range] at hi
  unfold xorByte
  rw [nth_take l (by omega) hn]
theorem nth_xorL (key nonce : List (BitVec 8)) (c : BitVec 32) (l : List (BitVec 8)) (i : Nat) (h : i < l.length) : nth (xorL key nonce c l) i = xorByte key nonce c l i := by
  rw [nth_eq _ _ (by simpa using h)]
  simp [xorL]
theorem xor_cell {w : World} {a : Option Addr} {len cap : Nat} {l : List (BitVec 8)} (h : Sl w (.slice a len cap) l) {i : Nat} (hi : i < l.length) : ∃ b off, a = some ⟨b, off, none⟩ ∧ w.cell? ⟨b, off + i, none⟩ = some (U8 (nth l i)) := by
  obtain ⟨a', cap', e, _, _, _, h4⟩ := h
  cases e
  exact h4 i hi
theorem Sl.cap {w : World} {a : Option Addr} {len cap : Nat} {l : List (BitVec 8)} (h : Sl w (.slice a len cap) l) : l.length ≤ cap := by
  obtain ⟨a', cap', e, h1, _⟩ := h
  cases e
  exact h1
set_option maxRecDepth 100000 in
set_option maxHeartbeats 20000000 in
theorem mixes_walk (key nonce : List (BitVec 8)) (c : BitVec 32) (u v : Value) (l m : List (BitVec 8)) (w : World) (hk : key.length = 32) (hn : nonce.length = 12) (hu : Sl w u l) (hv : Sl w v m) (hl : l.length ≤ 2000) (hm : m.length ≤ 2000) :
    Calls Try.prog 5 #[.agg (cells U8 key), U32 c, .agg (cells U8 nonce), u, v] w fun e w' => e = .returned (.bool true) ∧ Below w.heap.size w w' := by
  have Hu := hid hu
  have Hv := hid hv
  have Hk := hid hk
  have Hn := hid hn
  obtain ⟨ua, ucap, hux⟩ := hu.len
  subst hux
  obtain ⟨va, vcap, hvx⟩ := hv.len
  subst hvx
  clear hu hv hk hn
  have h1 : ¬ ((2000 : Int) < (l.length : Int)) := by omega
  have h2 : ¬ ((2000 : Int) < (m.length : Int)) := by omega
  obtain ⟨n, hn0, hn1, hn2⟩ : ∃ n : Nat, (if m.length < l.length then (m.length : Int) else (l.length : Int)) = (n : Int) ∧ n ≤ l.length ∧ n ≤ m.length := by
    refine ⟨min l.length m.length, ?_, Nat.min_le_left _ _, Nat.min_le_right _ _⟩
    split <;> omega
  have Hn1 := hid hn1
  have Hn2 := hid hn2
  have Hl := hid hl
  have Hm := hid hm
  clear hn1 hn2 hl hm
  go_enter Try.func5, Try.ntmps5
  go_wp2_with fail
  generalize hW : World.alloc (World.alloc w _) _ = W
  have hK : Has W w.heap.size (cells U8 key) 22 := by rw [← hW]; exact (Has.made rfl rfl).alloc _
  have hN : Has W (w.heap.size + 1) (cells U8 nonce) 24 := by rw [← hW]; exact Has.made (by simp) rfl
  have hB : Below w.heap.size w W := by rw [← hW]; exact ((Below.refl _ _).alloc (Nat.le_refl _) _).alloc (by simp only [World.size_alloc]; omega) _
  have HK := hid hK
  have HN := hid hN
  have HB := hid hB
  have U2 := hid (Hu.out.below hB)
  have V2 := hid (Hv.out.below hB)
  clear hW hK hN hB Hu Hv
  refine wp_region_X 10 (fun w' => Ext W w') (asOf [(4, .inr fun w v => Sl w v (xorL key nonce c l)), (9, .inr fun w v => Sl w v (xorL key nonce c m))])
    (by kernel_rfl) (by kernel_rfl) (Below.drew (Ext.refl W)) (fun _ _ h k => h.trans k) (asOf_last _ ⟨Sl.lasting _, Sl.lasting _, trivial⟩) ?_
  simp only [List.take_succ_cons, List.take_zero, List.drop_succ_cons, List.drop_zero]
  refine wpX_read rfl rfl _ (fun w' hc _ => exec_load_has _ _ rfl _ _ _ _ rfl (HK.out.ext hc) Try.underlying22 rfl (by rw [cells_size, Hk.out]; exact info32)) _ (by go_simp; exact rfl) ?_
  refine wpX_free rfl rfl _ (fun w' => by first | (go_simp; done) | (go_simp; exact rfl)) _ (by go_simp; exact rfl) ?_
  refine wpX_read rfl rfl _ (fun w' hc _ => exec_load_has _ _ rfl _ _ _ _ rfl (HN.out.ext hc) Try.underlying24 rfl (by rw [cells_size, Hn.out]; exact info12)) _ (by go_simp; exact rfl) ?_
  refine wpX_free rfl rfl _ (fun w' => by first | (go_simp; done) | (go_simp; exact rfl)) _ (by go_simp; exact rfl) ?_
  refine wpX_prop' _ rfl rfl (fun w' hc _ => fine_call _ _ (by go_simp) ((xor_any key nonce c _ l w' Hk.out Hn.out (U2.out.below hc) (by have := Hl.out; omega)).mono fun e w'' ⟨v, he, ho, hb⟩ => ⟨_, he, hb, ho.sl⟩)) _ (fun v => by go_simp; exact rfl) fun x => ?_
  refine wpX_read rfl rfl _ (fun w' hc _ => exec_load_has _ _ rfl _ _ _ _ rfl (HK.out.ext hc) Try.underlying22 rfl (by rw [cells_size, Hk.out]; exact info32)) _ (by go_simp; exact rfl) ?_
  refine wpX_free rfl rfl _ (fun w' => by first | (go_simp; done) | (go_simp; exact rfl)) _ (by go_simp; exact rfl) ?_
  refine wpX_read rfl rfl _ (fun w' hc _ => exec_load_has _ _ rfl _ _ _ _ rfl (HN.out.ext hc) Try.underlying24 rfl (by rw [cells_size, Hn.out]; exact info12)) _ (by go_simp; exact rfl) ?_
  refine wpX_free rfl rfl _ (fun w' => by first | (go_simp; done) | (go_simp; exact rfl)) _ (by go_simp; exact rfl) ?_
  refine wpX_prop' _ rfl rfl (fun w' hc _ => fine_call _ _ (by go_simp) ((xor_any key nonce c _ m w' Hk.out Hn.out (V2.out.below hc) (by have := Hm.out; omega)).mono fun e w'' ⟨v, he, ho, hb⟩ => ⟨_, he, hb, ho.sl⟩)) _ (fun v => by go_simp; exact rfl) fun y => ?_
  intro w1 hw1 hH
  have X1 := hid (hH (4, fun w => Sl w x (xorL key nonce c l)) (by simp))
  have Y1 := hid (hH (9, fun w => Sl w y (xorL key nonce c m)) (by simp))
  obtain ⟨xa, xcap, hx⟩ := X1.out.len
  obtain ⟨ya, ycap, hy⟩ := Y1.out.len
  rw [xorL_length] at hx hy
  subst hx hy
  clear hH
  have HE := hid hw1
  have U1 := hid (U2.out.below hw1)
  have V1 := hid (V2.out.below hw1)
  clear U2 V2 hw1
  go_simp
  go_wp2_with fail
  go_loopw [14] (fun i wr => ∃ k q : Nat, k ≤ n ∧ i = .int .i64 k ∧ wr = w1.drewN q) (fun i _ => n - (intOf i).toNat)
  case atStart => exact ⟨0, 0, Nat.zero_le _, rfl, rfl⟩
  case round =>
    obtain ⟨k, q, hk, rfl, rfl⟩ := hrel
    by_cases hlt : k < n
    · have kl : k < l.length := Nat.lt_of_lt_of_le hlt Hn1.out
      have km : k < m.length := Nat.lt_of_lt_of_le hlt Hn2.out
      obtain ⟨bx, ox, ex, cx⟩ := xor_cell X1.out (i := k) (by rw [xorL_length]; exact kl)
      obtain ⟨bo, oy, ey, cy⟩ := xor_cell Y1.out (i := k) (by rw [xorL_length]; exact km)
      obtain ⟨bu, ou, eu, cu⟩ := xor_cell U1.out (i := k) kl
      obtain ⟨bv, ov, ev, cv⟩ := xor_cell V1.out (i := k) km
      subst ex ey eu ev
      have d1 : (k : Int) < l.length := by omega
      have d2 : (k : Int) < m.length := by omega
      have e1 : ((nth (xorL key nonce c l) k ^^^ nth (xorL key nonce c m) k) != (nth l k ^^^ nth m k)) = false := by
        rw [nth_xorL _ _ _ _ _ kl, nth_xorL _ _ _ _ _ km]
        unfold xorByte
        generalize nth l k = p; generalize nth m k = r; generalize nth (chBlock _ _ _) _ = t
        have : p ^^^ t ^^^ (r ^^^ t) = p ^^^ r := by
          apply BitVec.eq_of_getLsbD_eq
          intro i hi
          simp only [BitVec.getLsbD_xor]
          cases p.getLsbD i <;> cases r.getLsbD i <;> cases t.getLsbD i <;> rfl
        rw [this]; simp
      clear kl km
      go_wp2
      go_quiet (fail)
      go_wp2
      exact ⟨⟨k + 1, q + nq, by omega, by go_num, by simp⟩, by simp [intOf]; omega⟩
    · obtain rfl : k = n := by omega
      clear hlt hk
      have HE2 := hid (below_drewN' HE.out q)
      have K2 := hid (HK.out.ext HE2.out)
      have N2 := hid (HN.out.ext HE2.out)
      have U2 := hid ((U1.out.below (below_drewN' (Ext.refl w1) q)).take Hn1.out)
      have X2 := hid ((X1.out.below (below_drewN' (Ext.refl w1) q)).take (n := k) (by rw [xorL_length]; exact Hn1.out))
      have c1 : (k : Int) ≤ ucap := by have := U1.out.cap; have := Hn1.out; omega
      have c2 : (k : Int) ≤ xcap := by have := X1.out.cap; rw [xorL_length] at this; have := Hn1.out; omega
      have Hx := hid (xorL_cut key nonce c l k Hn1.out)
      have L3 := hid (show (xorL key nonce c (l.take k)).length ≤ 70368744177664 by rw [xorL_length, List.length_take]; have := Hl.out; omega)
      go_wp2_with fail
      generalize w1.drewN q = w2 at *
      clear X1 Y1 U1 V1 HE HK HN
      refine wp_region_X 7 (fun w' => Ext w2 w') (asOf [(6, .inr fun w v => Sl w v (xorL key nonce c (l.take k)))])
        (by kernel_rfl) (by kernel_rfl) (Below.drew (Ext.refl w2)) (fun _ _ h k => h.trans k) (asOf_last _ ⟨Sl.lasting _, trivial⟩) ?_
      simp only [List.take_succ_cons, List.take_zero, List.drop_succ_cons, List.drop_zero]
      refine wpX_read rfl rfl _ (fun w' hc _ => exec_load_has _ _ rfl _ _ _ _ rfl (K2.out.ext hc) Try.underlying22 rfl (by rw [cells_size, Hk.out]; exact info32)) _ (by go_simp; exact rfl) ?_
      refine wpX_free rfl rfl _ (fun w' => by first | (go_simp; done) | (go_simp; exact rfl)) _ (by go_simp; exact rfl) ?_
      refine wpX_read rfl rfl _ (fun w' hc _ => exec_load_has _ _ rfl _ _ _ _ rfl (N2.out.ext hc) Try.underlying24 rfl (by rw [cells_size, Hn.out]; exact info12)) _ (by go_simp; exact rfl) ?_
      refine wpX_free rfl rfl _ (fun w' => by first | (go_simp; done) | (go_simp; exact rfl)) _ (by go_simp; exact rfl) ?_
      refine wpX_free rfl rfl _ (fun w' => by first | (go_simp; done) | (go_simp; exact rfl)) _ (by go_simp; exact rfl) ?_
      refine wpX_free rfl rfl (.slice ua k ucap) (fun w' => by first | (go_simp; done) | (go_simp; exact rfl)) _ (by go_simp; exact rfl) ?_
      refine wpX_prop' _ rfl rfl (fun w' hc _ => fine_call _ _ (by go_simp) ((xor_any key nonce c _ (l.take k) w' Hk.out Hn.out (U2.out.below hc) (by have := L3.out; rw [xorL_length, List.length_take] at this; have := Hl.out; rw [List.length_take]; omega)).mono fun e w'' ⟨v, he, ho, hb⟩ => ⟨_, he, hb, ho.sl⟩)) _ (fun v => by go_simp; exact rfl) fun z => ?_
      intro w3 hw3 hH
      have Z3 := hid (hH (6, fun w => Sl w z (xorL key nonce c (l.take k))) (by simp))
      have X3 := hid (X2.out.below hw3)
      have HE3 := hid (Ext.trans HE2.out hw3)
      clear hH hw3 HE2 K2 N2 U2 X2
      go_simp
      go_wp2_with (first
        | (go_at_call 9; refine (bytes_any _ _ _ _ _ Z3.out X3.out L3.out (by rw [← Hx.out]; exact L3.out)).mono ?_; rintro e w4 ⟨rfl, q4, rfl⟩; rw [Hx.out]; simp only [decide_true])
        | (go_at_call 12; refine (chWakes_any _).mono ?_; rintro e w5 ⟨rfl, hb5⟩; have HB5 := hid hb5; clear hb5))
      go_ret
      exact ⟨rfl, HB.out.trans ((Ext.trans HE3.out (Ext.trans (below_drewN' (Ext.refl _) q4) HB5.out)).mono HB.out.size)⟩
/-- Texts of more than 2000 bytes are let pass. -/
theorem mixes_long (key nonce : List (BitVec 8)) (c : BitVec 32) (u v : Value) (l m : List (BitVec 8)) (w : World) (hu : Sl w u l) (hv : Sl w v m) (hlen : 2000 < l.length ∨ 2000 < m.length) :
    Calls Try.prog 5 #[.agg (cells U8 key), U32 c, .agg (cells U8 nonce), u, v] w fun e w' => e = .returned (.bool true) ∧ Below w.heap.size w w' := by
  obtain ⟨ua, ucap, hux⟩ := hu.len
  subst hux
  obtain ⟨va, vcap, hvx⟩ := hv.len
  subst hvx
  clear hu hv
  by_cases h1 : (2000 : Int) < (l.length : Int)
  · clear hlen
    go_enter Try.func5, Try.ntmps5
    go_wp2_with fail
    go_ret
    exact ⟨rfl, ((Below.refl _ _).alloc (Nat.le_refl _) _).alloc (by simp only [World.size_alloc]; omega) _⟩
  · have h2 : (2000 : Int) < (m.length : Int) := by omega
    clear hlen
    go_enter Try.func5, Try.ntmps5
    go_wp2_with fail
    go_ret
    exact ⟨rfl, ((Below.refl _ _).alloc (Nat.le_refl _) _).alloc (by simp only [World.size_alloc]; omega) _⟩
theorem chachaMixes_walk (key : List (BitVec 8)) (c : BitVec 32) (nonce : List (BitVec 8)) (u : Value) (l : List (BitVec 8)) (v : Value) (m : List (BitVec 8)) (w : World) (hk : key.length = 32) (hn : nonce.length = 12) (hu : Sl w u l) (hv : Sl w v m) :
    Calls Try.prog 5 #[.agg (cells U8 key), U32 c, .agg (cells U8 nonce), u, v] w fun e w' => e = .returned (.bool true) ∧ Below w.heap.size w w' := by
  by_cases h : l.length ≤ 2000
  · by_cases h' : m.length ≤ 2000
    · exact mixes_walk key nonce c u v l m w hk hn hu hv h h'
    · exact mixes_long key nonce c u v l m w hu hv (.inr (by omega))
  · exact mixes_long key nonce c u v l m w hu hv (.inl (by omega))
end Go.Proofs.Ytgapnakhecdliaa
