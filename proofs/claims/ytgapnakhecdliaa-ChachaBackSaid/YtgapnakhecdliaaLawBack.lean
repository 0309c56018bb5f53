/- ChachaBack: what is turned twice is what it was; parts turned block by block are the whole, turned; noughts become the blocks. -/
import Derived.Test.YtgapnakhecdliaaLawMixes
import Derived.Laws.MakeOwn
namespace Go.Proofs.Ytgapnakhecdliaa
open Go.RowKit
theorem xor_xor {n : Nat} (p t : BitVec n) : p ^^^ t ^^^ t = p := by
  apply BitVec.eq_of_getLsbD_eq
  intro i hi
  simp only [BitVec.getLsbD_xor]
  cases p.getLsbD i <;> cases t.getLsbD i <;> rfl
theorem xorL_twice (key nonce : List (BitVec 8)) (c : BitVec 32) (l : List (BitVec 8)) : xorL key nonce c (xorL key nonce c l) = l := by
  apply List.ext_getElem (by simp)
  intro i h1 h2
  have h3 : i < (xorL key nonce c l).length := by simpa using h1
  have h := nth_xorL key nonce c (xorL key nonce c l) i h3
  rw [nth_eq _ _ h1] at h
  rw [h]
  unfold xorByte
  rw [nth_xorL _ _ _ _ _ h2, xorByte, xor_xor, nth_eq _ _ h2]
theorem nth_drop (l : List (BitVec 8)) (q i : Nat) : nth (l.drop q) i = nth l (q + i) := by
  simp [nth, List.getD_eq_getElem?_getD, List.getElem?_drop]
theorem xorL_parts (key nonce : List (BitVec 8)) (c : BitVec 32) (l : List (BitVec 8)) (r : Nat) (hr : 64 * r ≤ l.length) :
    xorL key nonce c (l.take (64 * r)) ++ xorL key nonce (c + BitVec.ofNat 32 r) (l.drop (64 * r)) = xorL key nonce c l := by
  rw [xorL_cut _ _ _ _ _ hr]
  have e : xorL key nonce (c + BitVec.ofNat 32 r) (l.drop (64 * r)) = (xorL key nonce c l).drop (64 * r) := by
    apply List.ext_getElem (by simp)
    intro i h1 h2
    rw [List.getElem_drop]
    have h3 : i < (l.drop (64 * r)).length := by simpa using h1
    have h4 : 64 * r + i < l.length := by rw [List.length_drop] at h3; omega
    have e1 := nth_xorL key nonce (c + BitVec.ofNat 32 r) (l.drop (64 * r)) i h3
    rw [nth_eq _ _ h1] at e1
    have e2 := nth_xorL key nonce c l (64 * r + i) h4
    rw [nth_eq _ _ (by simpa using h4)] at e2
    rw [e1, e2]
    unfold xorByte
    rw [nth_drop, show (64 * r + i) / 64 = r + i / 64 by omega, show (64 * r + i) % 64 = i % 64 by omega, BitVec.add_assoc]
    congr 3
    rw [← BitVec.ofNat_add]
  rw [e, List.take_append_drop]
theorem Sl.drop {w : World} {a : Option Addr} {len cap q : Nat} {l : List (BitVec 8)} (h : Sl w (.slice a len cap) l) (hn : q ≤ l.length) : Sl w (.slice (if cap = q then a else a.map (fun x => x.add q)) (len - q) (cap - q)) (l.drop q) := by
  obtain ⟨a', cap', e, h1, h2, h3, h4⟩ := h
  cases e
  have e1 : (l.drop q).length = l.length - q := by simp
  refine ⟨_, cap - q, by rw [e1], by omega, by omega, fun ha => ?_, fun i hi => ?_⟩
  · split at ha
    · omega
    · cases a with
      | none => have := h3 rfl; omega
      | some x => cases ha
  · rw [if_neg (by omega)]
    obtain ⟨b, off, hb, hc⟩ := h4 (q + i) (by omega)
    subst hb
    refine ⟨b, off + q, by simp only [Option.map_some, addr_mid], ?_⟩
    rw [Nat.add_assoc, hc, nth_drop]
theorem wpList_load_has_g {P : Program} {ops : Array Oper} {rest : List Oper} {o : Oper} {a : Act} {w : World} {Q : Exit → Act → World → Prop} (hgd : Region.wanted o (yielded ops a.tmps) = true) (ty : TypeId) (x : Operand) (ho : o.op = .load ty x)
    (b : Nat) (t : TypeId) (cs : Array Value) (d : TypeDesc) (hx : a.eval x = .pointer (some ⟨b, 0, none⟩)) (h : Has w b cs t) (hu : P.underlying ty = some d) (hd : d.isRow = true) (hi : (P.info? ty).map (·.size) = some cs.size)
    (hk : wpList P ops Q rest (a.put o.dst (.agg cs)) w) : wpList P ops Q (o :: rest) a w := by
  refine wpList_step fun K hK => ?_
  rw [if_pos hgd]
  unfold Oper.wp
  rw [exec_load_has ty x ho b t cs d hx h hu hd hi]
  exact hK _ _ hk
theorem nth_zer8 (n i : Nat) (h : i < n) : nth (zer8 n) i = 0 := by
  rw [nth_eq _ _ (by rw [zer8_length]; exact h)]
  simp [zer8]
theorem zeros_head (key nonce : List (BitVec 8)) (c : BitVec 32) : (xorL key nonce c (zer8 70)).take 64 = chBlock key nonce c := by
  apply List.ext_getElem (by simp [chBlock_length])
  intro i h1 h2
  rw [chBlock_length] at h2
  rw [List.getElem_take]
  have e := nth_xorL key nonce c (zer8 70) i (by rw [zer8_length]; omega)
  rw [nth_eq _ _ (by rw [xorL_length, zer8_length]; omega)] at e
  rw [e]
  unfold xorByte
  rw [nth_zer8 _ _ (by omega), show i / 64 = 0 by omega, show i % 64 = i by omega, nth_eq _ _ (by rw [chBlock_length]; exact h2)]
  simp
theorem zeros_tail (key nonce : List (BitVec 8)) (c : BitVec 32) : (xorL key nonce c (zer8 70)).drop 64 = (chBlock key nonce (c + 1#32)).take 6 := by
  apply List.ext_getElem (by simp [chBlock_length])
  intro i h1 h2
  have h3 : i < 6 := by simp at h1; exact h1
  rw [List.getElem_drop, List.getElem_take]
  have e := nth_xorL key nonce c (zer8 70) (64 + i) (by rw [zer8_length]; omega)
  rw [nth_eq _ _ (by rw [xorL_length, zer8_length]; omega)] at e
  rw [e]
  unfold xorByte
  rw [nth_zer8 _ _ (by omega), show (64 + i) / 64 = 1 by omega, show (64 + i) % 64 = i by omega, nth_eq _ _ (by rw [chBlock_length]; omega)]
  simp
theorem madeCells8 (n : Nat) : madeCells (Value.int .u8 0).cells n = cells U8 (zer8 n) := by
  apply Array.ext
  · simp [madeCells, cells, zer8]
  · intro i h1 h2
    simp [madeCells, cells, zer8, Value.cells, Nat.mod_one]
    rfl
/-- A slice of noughts is made. -/
theorem fine_make8 {P : Program} {o : Oper} {a : Act} {w : World} (n : Nat) (t : TypeId) (x y : Operand) (ho : o.op = .makeSlice t x y) (hx : a.eval x = .int .i64 n) (hy : a.eval y = .int .i64 n) (hn : n ≤ 70368744177664)
    (ht : P.underlying t = some (.slice 5)) (hi : (P.info? 5).map (fun i => (i.zero, i.size, i.bytes)) = some (some (.int .u8 0), 1, 1)) : fineX P o a w (fun w v => Sl w v (zer8 n)) := by
  obtain ⟨i0, hi0, hz0, hz1, hz2⟩ := info_parts hi
  have hr := run_make (P := P) w t 5 i0 (.int .u8 0) ht hi0 hz0 .i64 .i64 n n (by omega) (Int.le_refl _) (by rw [hz2]; omega) (by omega)
  refine fine_value (w' := w.alloc (.cells (cells U8 (zer8 n)) 5)) (.slice (some ⟨w.heap.size, 0, none⟩) n n) ?_ ((Ext.refl w).alloc (Nat.le_refl _) _) ?_
  · simp only [Int.toNat_natCast, hz1, Nat.mul_one, madeCells8] at hr
    simp only [execOp, ho, hx, hy, Sem.run_bind, hr, Sem.run_pure, Result.andThen_ok]
  · exact (Has.new w _ _).sl (zer8_length n) (by unfold maxLen; omega)
set_option maxRecDepth 100000 in
set_option maxHeartbeats 20000000 in
theorem back_walk (key nonce : List (BitVec 8)) (c : BitVec 32) (u : Value) (l : List (BitVec 8)) (z : Int) (w : World) (hk : key.length = 32) (hn : nonce.length = 12) (hu : Sl w u l) (hl : l.length ≤ 2000) :
    Calls Try.prog 4 #[.agg (cells U8 key), U32 c, .agg (cells U8 nonce), u, .int .i64 z] w fun e w' => e = .returned (.bool true) ∧ Below w.heap.size w w' := by
  have Hu := hid hu
  have Hk := hid hk
  have Hn := hid hn
  obtain ⟨ua, ucap, hux⟩ := hu.len
  subst hux
  clear hu hk hn
  have h1 : ¬ ((2000 : Int) < (l.length : Int)) := by omega
  obtain ⟨D, hD⟩ : ∃ D : Nat, D = l.length / 64 + 1 := ⟨_, rfl⟩
  have hd : tn (BitVec.ofInt 64 ((l.length : Int) / 64 + 1)) = (D : Int) := by
    unfold tn; rw [BitVec.toNat_ofInt]; omega
  have hd0 : D ≠ 0 := by omega
  obtain ⟨r, hr⟩ : ∃ r : Nat, r = (BitVec.ofInt 64 z).toNat % D := ⟨_, rfl⟩
  have hr1 : 64 * r ≤ l.length := by
    have : r < D := by rw [hr]; exact Nat.mod_lt _ (by omega)
    omega
  obtain ⟨q, hq⟩ : ∃ q : Nat, q = 64 * r := ⟨_, rfl⟩
  have hq1 : wrap64 (64 * wrap64 ((tn (BitVec.ofInt 64 z)).tmod (D : Int))) = (q : Int) := by
    have e1 : (tn (BitVec.ofInt 64 z)).tmod (D : Int) = (r : Int) := by
      unfold tn; rw [hr]; rfl
    rw [e1]
    have e2 : wrap64 (r : Int) = (r : Int) := by unfold wrap64; omega
    rw [e2]
    unfold wrap64
    omega
  have HQ := hid hq
  have Hr := hid hr1
  have Hl := hid hl
  clear hl hD hr hr1 hq
  go_enter Try.func4, Try.ntmps4
  go_upto_region 3 with (fail)
  generalize hW : World.alloc (World.alloc w _) _ = W
  have hK : Has W w.heap.size (cells U8 key) 22 := by rw [← hW]; exact (Has.made rfl rfl).alloc _
  have hN : Has W (w.heap.size + 1) (cells U8 nonce) 24 := by rw [← hW]; exact Has.made (by simp) rfl
  have hB : Below w.heap.size w W := by rw [← hW]; exact ((Below.refl _ _).alloc (Nat.le_refl _) _).alloc (by simp only [World.size_alloc]; omega) _
  have HK := hid hK
  have HN := hid hN
  have HB := hid hB
  have U0 := hid (Hu.out.below hB)
  clear hW hK hN hB Hu
  go_wp2_with (first
    | ((with_reducible (show wpList _ _ _ (⟨some 21, _, _, _, _, _⟩ :: _) _ _)); refine wpList_load_has rfl 22 (.tmp 5) rfl _ _ _ _ rfl HK.out Try.underlying22 rfl (by rw [cells_size, Hk.out]; exact info32) ?_)
    | ((with_reducible (show wpList _ _ _ (⟨some 23, _, _, _, _, _⟩ :: _) _ _)); refine wpList_load_has rfl 24 (.tmp 7) rfl _ _ _ _ rfl HN.out Try.underlying24 rfl (by rw [cells_size, Hn.out]; exact info12) ?_)
    | ((with_reducible (show wpList _ _ _ (⟨some 32, _, _, _, _, _⟩ :: _) _ _)); refine wpList_load_has_g rfl 22 (.tmp 5) rfl _ _ _ _ rfl K1.out Try.underlying22 rfl (by rw [cells_size, Hk.out]; exact info32) ?_)
    | ((with_reducible (show wpList _ _ _ (⟨some 34, _, _, _, _, _⟩ :: _) _ _)); refine wpList_load_has_g rfl 24 (.tmp 7) rfl _ _ _ _ rfl N1.out Try.underlying24 rfl (by rw [cells_size, Hn.out]; exact info12) ?_)
    | (go_at_call 10; refine (xor_any key nonce c _ (xorL key nonce c l) _ Hk.out Hn.out X1.out (by rw [xorL_length]; have := Hl.out; omega)).mono ?_
       rintro e w2 ⟨x2, rfl, ho2, hb2⟩
       rw [xorL_twice] at ho2
       have X2 := hid ho2.sl
       have HE2 := hid (Ext.trans HE1.out hb2)
       have U2 := hid (U1.out.below hb2)
       have Y2 := hid (X1.out.below hb2)
       clear hb2 ho2 X1 U1 HE1 K1 N1)
    | (go_at_call 10; refine (xor_any key nonce c _ l _ Hk.out Hn.out U0.out (by have := Hl.out; omega)).mono ?_
       rintro e w1 ⟨x, rfl, ho1, hb1⟩
       obtain ⟨xa, xcap, hx⟩ := ho1.sl.len
       rw [xorL_length] at hx
       subst hx
       have X1 := hid ho1.sl
       have HE1 := hid hb1
       have K1 := hid (HK.out.ext hb1)
       have N1 := hid (HN.out.ext hb1)
       have U1 := hid (U0.out.below hb1)
       clear hb1 ho1 U0)
    | (go_at_call 9; refine (bytes_any _ _ _ _ _ X2.out U2.out (by have := Hl.out; omega) (by have := Hl.out; omega)).mono ?_; rintro e w3 ⟨rfl, q3, rfl⟩; simp only [decide_true]))
  rw [hq1]
  have HE3 := hid (below_drewN' HE2.out q3)
  have U3 := hid (U2.out.below (below_drewN' (Ext.refl w2) q3))
  have Y3 := hid (Y2.out.below (below_drewN' (Ext.refl w2) q3))
  generalize w2.drewN q3 = w3 at *
  clear HE2 U2 Y2 X2 hq1 hd hd0
  have hrl : q ≤ l.length := by rw [HQ.out]; exact Hr.out
  have HQl := hid hrl
  have c1 : (q : Int) ≤ ucap := by have := U3.out.cap; omega
  have c2 : (q : Int) ≤ l.length := by omega
  have cq : BitVec.ofInt 32 (IntKind.i64.wrap ((q : Int) / 64)) = BitVec.ofNat 32 r := by
    have e1 : IntKind.i64.wrap ((q : Int) / 64) = (r : Int) := by
      have := HQ.out; have := Hr.out; have := Hl.out
      simp [IntKind.wrap, IntKind.bits, IntKind.signed]; omega
    rw [e1]; rfl
  clear hrl
  have K3 := hid (HK.out.ext HE3.out)
  have N3 := hid (HN.out.ext HE3.out)
  have T3 := hid (U3.out.take HQl.out)
  refine wp_region_X 7 (fun w' => Ext w3 w') (asOf [(6, .inr fun w v => Sl w v (xorL key nonce c (l.take q)))])
    (by kernel_rfl) (by kernel_rfl) (Below.drew (Ext.refl w3)) (fun _ _ h k => h.trans k) (asOf_last _ ⟨Sl.lasting _, trivial⟩) ?_
  simp only [List.take_succ_cons, List.take_zero, List.drop_succ_cons, List.drop_zero]
  refine wpX_read rfl rfl _ (fun w' hc _ => exec_load_has _ _ rfl _ _ _ _ rfl (K3.out.ext hc) Try.underlying22 rfl (by rw [cells_size, Hk.out]; exact info32)) _ (by go_simp; exact rfl) ?_
  refine wpX_free rfl rfl _ (fun w' => by first | (go_simp; done) | (go_simp; exact rfl)) _ (by go_simp; exact rfl) ?_
  refine wpX_read rfl rfl _ (fun w' hc _ => exec_load_has _ _ rfl _ _ _ _ rfl (N3.out.ext hc) Try.underlying24 rfl (by rw [cells_size, Hn.out]; exact info12)) _ (by go_simp; exact rfl) ?_
  refine wpX_free rfl rfl _ (fun w' => by first | (go_simp; done) | (go_simp; exact rfl)) _ (by go_simp; exact rfl) ?_
  refine wpX_free rfl rfl _ (fun w' => by first | (go_simp; done) | (go_simp; exact rfl)) _ (by go_simp; exact rfl) ?_
  refine wpX_free rfl rfl (.slice ua q ucap) (fun w' => by first | (go_simp; done) | (go_simp; exact rfl)) _ (by go_simp; exact rfl) ?_
  refine wpX_prop' _ rfl rfl (fun w' hc _ => fine_call _ _ (by go_simp) ((xor_any key nonce c _ (l.take q) w' Hk.out Hn.out (T3.out.below hc) (by rw [List.length_take]; have := Hl.out; omega)).mono fun e w'' ⟨v, he, ho, hb⟩ => ⟨_, he, hb, ho.sl⟩)) _ (fun v => by go_simp; exact rfl) fun lv => ?_
  intro w4 hw4 hH
  have L4 := hid (hH (6, fun w => Sl w lv (xorL key nonce c (l.take q))) (by simp))
  have K4 := hid (K3.out.ext hw4)
  have N4 := hid (N3.out.ext hw4)
  have U4 := hid (U3.out.below hw4)
  have Y4 := hid (Y3.out.below hw4)
  have HE4 := hid (Ext.trans HE3.out hw4)
  clear hH hw4 HE3 K3 N3 U3 Y3 T3 HK HN
  go_simp
  go_wp2_with fail
  refine wp_region_X 11 (fun w' => Ext w4 w') (asOf [(10, .inr fun w v => Sl w v (xorL key nonce (c + BitVec.ofNat 32 r) (l.drop q)))])
    (by kernel_rfl) (by kernel_rfl) (Below.drew (Ext.refl w4)) (fun _ _ h k => h.trans k) (asOf_last _ ⟨Sl.lasting _, trivial⟩) ?_
  simp only [List.take_succ_cons, List.take_zero, List.drop_succ_cons, List.drop_zero]
  refine wpX_read rfl rfl _ (fun w' hc _ => exec_load_has _ _ rfl _ _ _ _ rfl (K4.out.ext hc) Try.underlying22 rfl (by rw [cells_size, Hk.out]; exact info32)) _ (by go_simp; exact rfl) ?_
  refine wpX_free rfl rfl _ (fun w' => by first | (go_simp; done) | (go_simp; exact rfl)) _ (by go_simp; exact rfl) ?_
  refine wpX_free rfl rfl _ (fun w' => by first | (go_simp; done) | (go_simp; exact rfl)) _ (by go_simp; exact rfl) ?_
  refine wpX_free rfl rfl _ (fun w' => by first | (go_simp; done) | (go_simp; exact rfl)) _ (by go_simp; exact rfl) ?_
  refine wpX_free rfl rfl _ (fun w' => by first | (go_simp; done) | (go_simp; exact rfl)) _ (by go_simp; exact rfl) ?_
  refine wpX_free rfl rfl _ (fun w' => by first | (go_simp; done) | (go_simp; exact rfl)) _ (by go_simp; exact rfl) ?_
  refine wpX_read rfl rfl _ (fun w' hc _ => exec_load_has _ _ rfl _ _ _ _ rfl (N4.out.ext hc) Try.underlying24 rfl (by rw [cells_size, Hn.out]; exact info12)) _ (by go_simp; exact rfl) ?_
  refine wpX_free rfl rfl _ (fun w' => by first | (go_simp; done) | (go_simp; exact rfl)) _ (by go_simp; exact rfl) ?_
  refine wpX_free rfl rfl _ (fun w' => by first | (go_simp; done) | (go_simp; exact rfl)) _ (by go_simp; exact rfl) ?_
  obtain ⟨dv, hdv⟩ : ∃ dv : Value, dv = .slice (if ucap = q then ua else ua.map (fun x => x.add q)) (l.length - q) (ucap - q) := ⟨_, rfl⟩
  have D4 := hid (U4.out.drop HQl.out)
  rw [← hdv] at D4
  have Hdv := hid hdv
  clear hdv
  refine wpX_free rfl rfl dv (fun w' => by rw [Hdv.out]; go_simp) _ (by go_simp; exact rfl) ?_
  refine wpX_prop' _ rfl rfl (fun w' hc _ => fine_call _ _ (by go_simp) ((xor_any key nonce (c + BitVec.ofNat 32 r) _ (l.drop q) w' Hk.out Hn.out (D4.out.below hc) (by rw [List.length_drop]; have := Hl.out; omega)).mono fun e w'' ⟨v, he, ho, hb⟩ => ⟨_, he, hb, ho.sl⟩)) _ (fun v => by go_simp; exact rfl) fun rv => ?_
  intro w5 hw5 hH
  have R5 := hid (hH (10, fun w => Sl w rv (xorL key nonce (c + BitVec.ofNat 32 r) (l.drop q))) (by simp))
  have L5 := hid (L4.out.below hw5)
  have K5 := hid (K4.out.ext hw5)
  have N5 := hid (N4.out.ext hw5)
  have Y5 := hid (Y4.out.below hw5)
  have HE5 := hid (Ext.trans HE4.out hw5)
  have P5 := hid (show xorL key nonce c (l.take q) ++ xorL key nonce (c + BitVec.ofNat 32 r) (l.drop q) = xorL key nonce c l by rw [HQ.out]; exact xorL_parts key nonce c l r Hr.out)
  have A5 := hid (show (xorL key nonce c (l.take q)).length ≤ 2000 by rw [xorL_length, List.length_take]; have := Hl.out; omega)
  have B5 := hid (show (xorL key nonce (c + BitVec.ofNat 32 r) (l.drop q)).length ≤ 2000 by rw [xorL_length, List.length_drop]; have := Hl.out; omega)
  clear hH hw5 HE4 K4 N4 U4 Y4 D4 L4 c1 c2 cq
  go_simp
  go_wp2_with (first
    | (go_at_call 8; refine (twin_any _ (xorL key nonce c (l.take q)) _ L5.out (by have := A5.out; omega)).mono ?_
       rintro e w6 ⟨tv, rfl, ht, hb6⟩
       have T6 := hid ht
       have HB6 := hid hb6
       have R6 := hid (R5.out.below hb6)
       clear ht hb6 R5 L5)
    | (at_builtin; refine wpList_append8 _ rfl (.tmp 70) (.tmp 71) 25 rfl w5.heap.size Try.underlying25 info8 _ (xorL key nonce c (l.take q)) (xorL key nonce (c + BitVec.ofNat 32 r) (l.drop q)) rfl T6.out _ rfl R6.out (by have := A5.out; have := B5.out; omega) HB6.out.size ?_
       intro av w7 hown hg
       rw [P5.out] at hown
       have S7 := hid hown.sl
       have HE7 := hid (below_own HB6.out T6.out (Nat.le_refl _) HB6.out.size hg)
       have Y7 := hid (Y5.out.below HE7.out)
       have K7 := hid (K5.out.ext HE7.out)
       have N7 := hid (N5.out.ext HE7.out)
       clear hown hg T6 R6 Y5 HB6 K5 N5)
    | (go_at_call 9; refine (bytes_any _ _ _ _ _ S7.out Y7.out (by rw [xorL_length]; have := Hl.out; omega) (by rw [xorL_length]; have := Hl.out; omega)).mono ?_; rintro e w8 ⟨rfl, q8, rfl⟩; simp only [decide_true]))
  have HE8 := hid (below_drewN' (Ext.trans HE5.out HE7.out) q8)
  have K8 := hid (K7.out.ext (below_drewN' (Ext.refl w7) q8))
  have N8 := hid (N7.out.ext (below_drewN' (Ext.refl w7) q8))
  generalize w7.drewN q8 = w8 at *
  clear HE5 HE7 K7 N7 S7 Y7 A5 B5 P5 Hdv
  refine wp_region_X 5 (fun w' => Ext w8 w') (asOf [(3, .inr fun w v => Sl w v (zer8 70)), (4, .inr fun w v => Sl w v (xorL key nonce c (zer8 70)))])
    (by kernel_rfl) (by kernel_rfl) (Below.drew (Ext.refl w8)) (fun _ _ h k => h.trans k) (asOf_last _ ⟨Sl.lasting _, Sl.lasting _, trivial⟩) ?_
  simp only [List.take_succ_cons, List.take_zero, List.drop_succ_cons, List.drop_zero]
  refine wpX_read rfl rfl _ (fun w' hc _ => exec_load_has _ _ rfl _ _ _ _ rfl (K8.out.ext hc) Try.underlying22 rfl (by rw [cells_size, Hk.out]; exact info32)) _ (by go_simp; exact rfl) ?_
  refine wpX_free rfl rfl _ (fun w' => by first | (go_simp; done) | (go_simp; exact rfl)) _ (by go_simp; exact rfl) ?_
  refine wpX_read rfl rfl _ (fun w' hc _ => exec_load_has _ _ rfl _ _ _ _ rfl (N8.out.ext hc) Try.underlying24 rfl (by rw [cells_size, Hn.out]; exact info12)) _ (by go_simp; exact rfl) ?_
  refine wpX_prop' _ rfl rfl (fun w' hc _ => fine_make8 70 25 _ _ rfl rfl rfl (by omega) Try.underlying25 info8) _ (fun v => by go_simp; exact rfl) fun mv => ?_
  refine wpX_prop' _ rfl rfl (fun w' hc hH => fine_call _ _ (by go_simp) ((xor_any key nonce c _ (zer8 70) w' Hk.out Hn.out (hH (3, fun w => Sl w mv (zer8 70)) (by simp) (by kernel_rfl)) (by rw [zer8_length]; omega)).mono fun e w'' ⟨v, he, ho, hb⟩ => ⟨_, he, hb, ho.sl⟩)) _ (fun v => by go_simp; exact rfl) fun zv => ?_
  intro w9 hw9 hH
  have Z9 := hid (hH (4, fun w => Sl w zv (xorL key nonce c (zer8 70))) (by simp))
  have HE9 := hid (Ext.trans HE8.out hw9)
  have K9 := hid (K8.out.ext hw9)
  have N9 := hid (N8.out.ext hw9)
  obtain ⟨zb, zo, zcap, hzv, hz1, hz2, _⟩ := Z9.out.shape (by intro h; have := congrArg List.length h; rw [xorL_length, zer8_length] at this; cases this)
  rw [xorL_length, zer8_length] at hzv hz1
  subst hzv
  have ZC := hid hz1
  clear hH hw9 HE8 K8 N8 hz1 hz2
  go_simp
  go_wp2_with (first
    | ((with_reducible (show wpList _ _ _ (⟨some 84, _, _, _, _, _⟩ :: _) _ _)); refine wpList_load_has rfl 22 (.tmp 5) rfl _ _ _ _ rfl K9.out Try.underlying22 rfl (by rw [cells_size, Hk.out]; exact info32) ?_)
    | ((with_reducible (show wpList _ _ _ (⟨some 86, _, _, _, _, _⟩ :: _) _ _)); refine wpList_load_has rfl 24 (.tmp 7) rfl _ _ _ _ rfl N9.out Try.underlying24 rfl (by rw [cells_size, Hn.out]; exact info12) ?_)
    | ((with_reducible (show wpList _ _ _ (⟨some 88, _, _, _, _, _⟩ :: _) _ _)); refine wpList_load_has rfl 22 (.tmp 5) rfl _ _ _ _ rfl K11.out Try.underlying22 rfl (by rw [cells_size, Hk.out]; exact info32) ?_)
    | ((with_reducible (show wpList _ _ _ (⟨some 91, _, _, _, _, _⟩ :: _) _ _)); refine wpList_load_has rfl 24 (.tmp 7) rfl _ _ _ _ rfl N11.out Try.underlying24 rfl (by rw [cells_size, Hn.out]; exact info12) ?_)
    | (go_at_call 6; refine (block_any key nonce _ _ Hk.out Hn.out).mono ?_; rintro e wb ⟨rfl, hb⟩; have HBb := hid hb; clear hb)
    | ((with_reducible (show wpList _ _ _ (⟨none, .store 26 (.tmp 16) (.tmp 87), _, _, _, _⟩ :: _) _ _)); refine wpList_store_has rfl 26 (.tmp 16) (.tmp 87) rfl _ _ _ _ rfl rfl (Has.new _ _ _) (by rw [cells_size, chBlock_length]; rfl) (by rw [cells_size, chBlock_length]; exact info64) (oneCell8 _) ?_
       generalize hX : World.setRow (World.alloc wb _) _ _ = w11
       have M11 : Hid (Has w11 wb.heap.size (cells U8 (chBlock key nonce c)) 26) := by rw [← hX]; exact (Has.new _ _ _).setRow _
       have HF11 : Hid (Ext w9 w11) := by rw [← hX]; exact below_setRow (Below.alloc HBb.out HBb.out.size _) HBb.out.size _
       have K11 := hid (K9.out.ext HF11.out)
       have N11 := hid (N9.out.ext HF11.out)
       have Z11 := hid (Z9.out.below HF11.out)
       clear hX HBb K9 N9 Z9
       generalize wb.heap.size = b16 at *)
    | ((with_reducible (show wpList _ _ _ (⟨none, .store 26 (.tmp 17) (.tmp 92), _, _, _, _⟩ :: _) _ _)); refine wpList_store_has rfl 26 (.tmp 17) (.tmp 92) rfl _ _ _ _ rfl rfl (Has.new _ _ _) (by rw [cells_size, chBlock_length]; rfl) (by rw [cells_size, chBlock_length]; exact info64) (oneCell8 _) ?_
       generalize hX : World.setRow (World.alloc wb _) _ _ = w13
       have M13 : Hid (Has w13 wb.heap.size (cells U8 (chBlock key nonce (c + 1#32))) 26) := by rw [← hX]; exact (Has.new _ _ _).setRow _
       have HF13 : Hid (Ext w11 w13) := by rw [← hX]; exact below_setRow (Below.alloc HBb.out HBb.out.size _) HBb.out.size _
       have O13 := hid (M11.out.ext HF13.out)
       have Z13 := hid (Z11.out.below HF13.out)
       have HE13 := hid (Ext.trans HE9.out (Ext.trans HF11.out HF13.out))
       clear hX HBb K11 N11 Z11 M11 HF11 HF13 HE9
       generalize wb.heap.size = b17 at *))
  have a1 := hid (Z13.out.take (n := 64) (by rw [xorL_length, zer8_length]; omega))
  have a2 := hid (O13.out.sl (n := 64) (chBlock_length _ _ _) (by decide))
  have a3 := hid (Z13.out.drop (q := 64) (by rw [xorL_length, zer8_length]; omega))
  have a4 := hid ((M13.out.sl (n := 64) (chBlock_length _ _ _) (by decide)).take (n := 6) (by rw [chBlock_length]; omega))
  have zc1 : (64 : Int) ≤ zcap := by have := ZC.out; omega
  have zc2 : ¬ zcap = 64 := by have := ZC.out; omega
  have a5 : Hid (Sl w13 (.slice (some ⟨zb, zo + 64, none⟩) 6 (zcap - 64)) ((xorL key nonce c (zer8 70)).drop 64)) := by
    have := a3.out
    rw [if_neg zc2] at this
    simp only [Option.map_some, addr_mid] at this
    exact hid this
  rw [zeros_head] at a1
  rw [zeros_tail] at a5
  have l1 := hid (chBlock_length key nonce c)
  have l2 := hid (show ((chBlock key nonce (c + 1#32)).take 6).length = 6 by rw [List.length_take, chBlock_length]; rfl)
  clear a3 O13 M13 Z13 zc2
  go_simp
  refine wp_region_X 14 (fun w' => Ext w13 w') (asOf [(3, .inl (.bool true)), (8, .inl (.bool true)), (11, .inl (.bool true))])
    (by kernel_rfl) (by kernel_rfl) (Below.drew (Ext.refl w13)) (fun _ _ h k => h.trans k) (asOf_last _ trivial) ?_
  simp only [List.take_succ_cons, List.take_zero, List.drop_succ_cons, List.drop_zero]
  refine wpX_free rfl rfl _ (fun w' => by first | (go_simp; done) | (go_simp; exact rfl)) _ (by go_simp; exact rfl) ?_
  refine wpX_free rfl rfl (.slice (some ⟨zb, zo, none⟩) 64 zcap) (fun w' => by first | (go_simp; done) | (go_simp; exact rfl)) _ (by go_simp; exact rfl) ?_
  refine wpX_free rfl rfl _ (fun w' => by first | (go_simp; done) | (go_simp; exact rfl)) _ (by go_simp; exact rfl) ?_
  refine wpX_val _ rfl rfl (fun w' hc _ => fine_call _ _ (by go_simp) ((bytes_any _ _ _ _ w' (a1.out.below hc) (a2.out.below hc) (by rw [l1.out]; omega) (by rw [l1.out]; omega)).mono fun e w'' ⟨he, m, hb⟩ => ⟨_, he, hb ▸ below_drewN' (Ext.refl _) m, by simp⟩)) _ (by go_simp; exact rfl) ?_
  refine wpX_free rfl rfl _ (fun w' => by first | (go_simp; done) | (go_simp; exact rfl)) _ (by go_simp; exact rfl) ?_
  refine wpX_free rfl rfl _ (fun w' => by first | (go_simp; done) | (go_simp; exact rfl)) _ (by go_simp; exact rfl) ?_
  refine wpX_free rfl rfl (.slice (some ⟨zb, zo + 64, none⟩) 6 (zcap - 64)) (fun w' => by go_simp; have := ZC.out; omega) _ (by go_simp; exact rfl) ?_
  refine wpX_free rfl rfl _ (fun w' => by first | (go_simp; done) | (go_simp; exact rfl)) _ (by go_simp; exact rfl) ?_
  refine wpX_val _ rfl rfl (fun w' hc _ => fine_call _ _ (by go_simp) ((bytes_any _ _ _ _ w' (a5.out.below hc) (a4.out.below hc) (by rw [l2.out]; omega) (by rw [l2.out]; omega)).mono fun e w'' ⟨he, m, hb⟩ => ⟨_, he, hb ▸ below_drewN' (Ext.refl _) m, by simp⟩)) _ (by go_simp; exact rfl) ?_
  refine wpX_free rfl rfl _ (fun w' => by first | (go_simp; done) | (go_simp; exact rfl)) _ (by go_simp; exact rfl) ?_
  refine wpX_free rfl rfl _ (fun w' => by first | (go_simp; done) | (go_simp; exact rfl)) _ (by go_simp; exact rfl) ?_
  refine wpX_val _ rfl rfl (fun w' hc _ => fine_call _ _ (by go_simp) ((chWakes_any w').mono fun e w'' ⟨he, hb⟩ => ⟨_, he, hb, rfl⟩)) _ (by go_simp; exact rfl) ?_
  refine wpX_free rfl rfl _ (fun w' => by first | (go_simp; done) | (go_simp; exact rfl)) _ (by go_simp; exact rfl) ?_
  refine wpX_free rfl rfl _ (fun w' => by first | (go_simp; done) | (go_simp; exact rfl)) _ (by go_simp; exact rfl) ?_
  intro w14 hw14 hH
  clear hH
  have HB14 : Hid (Below w.heap.size w w14) := HB.out.trans ((Ext.trans HE13.out hw14).mono HB.out.size)
  go_simp
  go_wp2
  go_ret
  exact ⟨rfl, HB14.out⟩
/-- Texts of more than 2000 bytes are let pass. -/
theorem back_long (key nonce : List (BitVec 8)) (c : BitVec 32) (u : Value) (l : List (BitVec 8)) (z : Int) (w : World) (hu : Sl w u l) (hlen : 2000 < l.length) :
    Calls Try.prog 4 #[.agg (cells U8 key), U32 c, .agg (cells U8 nonce), u, .int .i64 z] w fun e w' => e = .returned (.bool true) ∧ Below w.heap.size w w' := by
  obtain ⟨ua, ucap, hux⟩ := hu.len
  subst hux
  clear hu
  have h1 : (2000 : Int) < (l.length : Int) := by omega
  clear hlen
  go_enter Try.func4, Try.ntmps4
  go_wp2_with fail
  go_ret
  exact ⟨rfl, ((Below.refl _ _).alloc (Nat.le_refl _) _).alloc (by simp only [World.size_alloc]; omega) _⟩
theorem chachaBack_walk (key : List (BitVec 8)) (c : BitVec 32) (nonce : List (BitVec 8)) (u : Value) (l : List (BitVec 8)) (z : Int) (w : World) (hk : key.length = 32) (hn : nonce.length = 12) (hu : Sl w u l) (_ : (Lit.int .i64 z).wf = true) :
    Calls Try.prog 4 #[.agg (cells U8 key), U32 c, .agg (cells U8 nonce), u, .int .i64 z] w fun e w' => e = .returned (.bool true) ∧ Below w.heap.size w w' := by
  by_cases h : l.length ≤ 2000
  · exact back_walk key nonce c u l z w hk hn hu h
  · exact back_long key nonce c u l z w hu (by omega)
end Go.Proofs.Ytgapnakhecdliaa
