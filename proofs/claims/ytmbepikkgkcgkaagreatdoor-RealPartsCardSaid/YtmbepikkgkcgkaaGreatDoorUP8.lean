/- The texts CSame, UBack, UOpen, UMake, UWakes, UParts, Slice, Open, AvOpen, UOpenR, merged into one. -/
import Derived.Test.YtmbepikkgkcgkaaGreatDoorUP7
import Derived.Laws.Pointers
import Derived.Laws.AppendOwnNone
import Derived.Deep.RegionLaw
import Derived.WalkKit
import Derived.ProofKit
import Derived.OpenShut
import Derived.ShutString
import Derived.ChangeOld
import Derived.Below
import Derived.Test.YtmbepikkgkcgkaaGreatDoorRows
import Derived.Deep.Matrix
import Derived.Lib.LaidTab
import Derived.LaidMore
import Derived.Stop.Joined
namespace Go.Proofs.YtmbepikkgkcgkaaGreatDoor
open Go.RowKit
theorem chXor_nth (key : List (BitVec 8)) (c : BitVec 32) (nonce t : List (BitVec 8)) (hk : key.length = 32) (hn : nonce.length = 12) (i : Nat) (hi : i < t.length) :
    nth (chXor key c nonce t) i = nth t i ^^^ nth (chBlock key (c + BitVec.ofNat 32 (i / 64)) nonce) (i % 64) := by
  have h7 : ∀ X j3 j7, 64 * j3 + j7 ≤ X.length → j7 ≤ 64 → ∀ i, i < X.length → nth (chXor_L7 key c nonce X j3 j7) i = if 64 * j3 ≤ i ∧ i < 64 * j3 + j7 then nth X i ^^^ nth (chBlock key (c + BitVec.ofNat 32 (i / 64)) nonce) (i % 64) else nth X i := fun X j3 j7 => by
    induction j7 with
    | zero => intro _ _ i _; rw [if_neg (by omega)]; rfl
    | succ j7 ih =>
      intro h1 h2 i hi
      rw [chXor_L7, chXor_L7_S, nth_put _ _ _ _ (by rw [chXor_L7_len]; omega)]
      by_cases e : 64 * j3 + j7 = i
      · subst e
        rw [if_pos rfl, if_pos (by omega), ih (by omega) (by omega) _ (by omega), if_neg (by omega), Nat.add_sub_cancel_left, Nat.mul_div_cancel_left _ (by decide), show (64 * j3 + j7) / 64 = j3 from by omega, show (64 * j3 + j7) % 64 = j7 from by omega]
      · rw [if_neg e, ih (by omega) (by omega) _ hi]
        by_cases h : 64 * j3 ≤ i ∧ i < 64 * j3 + j7
        · rw [if_pos h, if_pos (by omega)]
        · rw [if_neg h, if_neg (by omega)]
  have h3 : ∀ j3, j3 ≤ (t.length + 63) / 64 → ∀ i, i < t.length → nth (chXor_L3 key c nonce t j3) i = if i < 64 * j3 then nth t i ^^^ nth (chBlock key (c + BitVec.ofNat 32 (i / 64)) nonce) (i % 64) else nth t i := fun j3 => by
    induction j3 with
    | zero => intro _ i _; rw [if_neg (by omega)]; rfl
    | succ j3 ih =>
      intro h1 i hi
      rw [chXor_L3, chXor_L3_S, h7 _ _ _ (by rw [chXor_L3_len _ _ _ _ hk hn]; omega) (by omega) _ (by rw [chXor_L3_len _ _ _ _ hk hn]; exact hi)]
      by_cases e : 64 * j3 ≤ i ∧ i < 64 * j3 + (min (64 * j3 + 64) t.length - 64 * j3)
      · rw [if_pos e, if_pos (by omega), ih (by omega) _ hi, if_neg (by omega)]
      · rw [if_neg e, ih (by omega) _ hi]
        by_cases h : i < 64 * j3
        · rw [if_pos h, if_pos (by omega)]
        · rw [if_neg h, if_neg (by omega)]
  unfold chXor
  rw [h3 _ (Nat.le_refl _) _ hi, if_pos (by omega)]
end Go.Proofs.YtmbepikkgkcgkaaGreatDoor
namespace Go.Proofs.YtmbepikkgkcgkaaGreatDoor
open Go.RowKit
def byN (n i : Nat) : BitVec 8 := ((BitVec.ofNat 64 n) >>> (8 * i)).setWidth 8
theorem rlNum4_list (n : Nat) : rlNum4 n = [byN n 0, byN n 1, byN n 2, byN n 3] := by unfold rlNum4; rfl
theorem byN_nat {n : Nat} (h : n < 18446744073709551616) (i : Nat) : (byN n i).toNat = n / 2 ^ (8 * i) % 256 := by
  unfold byN
  rw [BitVec.toNat_setWidth, BitVec.toNat_ushiftRight, BitVec.toNat_ofNat, Nat.mod_eq_of_lt (show n < 2 ^ 64 by omega), Nat.shiftRight_eq_div_pow]
theorem rdN_bound (b : List (BitVec 8)) : ∀ k, rdN b k < 2 ^ (8 * k)
  | 0 => by simp [rdN]
  | k + 1 => by
    have h := rdN_bound b k
    refine Nat.or_lt_two_pow (Nat.lt_of_lt_of_le h (Nat.pow_le_pow_right (by decide) (by omega))) ?_
    have h2 := (nth b k).isLt
    calc (nth b k).toNat * 2 ^ (8 * k) < 256 * 2 ^ (8 * k) := Nat.mul_lt_mul_of_pos_right h2 (Nat.pow_pos (by decide))
      _ = 2 ^ (8 * (k + 1)) := by rw [Nat.mul_add, Nat.pow_add]; omega
theorem rdN_succ (b : List (BitVec 8)) (k : Nat) : rdN b (k + 1) = rdN b k + (nth b k).toNat * 2 ^ (8 * k) := by
  rw [rdN.eq_2, Nat.or_comm, Nat.mul_comm, ← Nat.two_pow_add_eq_or_of_lt (rdN_bound b k)]
  omega
theorem rdN_sum (b : List (BitVec 8)) : rdN b 4 = (nth b 0).toNat + (nth b 1).toNat * 256 + (nth b 2).toNat * 65536 + (nth b 3).toNat * 16777216 := by
  rw [rdN_succ, rdN_succ, rdN_succ, rdN_succ]
  simp [rdN]
theorem nth_app4 (a0 a1 a2 a3 : BitVec 8) (r : List (BitVec 8)) : nth ([a0, a1, a2, a3] ++ r) 0 = a0 ∧ nth ([a0, a1, a2, a3] ++ r) 1 = a1 ∧ nth ([a0, a1, a2, a3] ++ r) 2 = a2 ∧ nth ([a0, a1, a2, a3] ++ r) 3 = a3 := ⟨rfl, rfl, rfl, rfl⟩
theorem rd_num (n : Nat) (h : n < 4294967296) (r : List (BitVec 8)) : rdN (rlNum4 n ++ r) 4 = n := by
  rw [rdN_sum, rlNum4_list]
  obtain ⟨h0, h1, h2, h3⟩ := nth_app4 (byN n 0) (byN n 1) (byN n 2) (byN n 3) r
  rw [h0, h1, h2, h3, byN_nat (by omega), byN_nat (by omega), byN_nat (by omega), byN_nat (by omega)]
  simp only [Nat.reduceMul, Nat.reducePow, Nat.mul_zero, Nat.pow_zero, Nat.div_one]
  omega
theorem num_rd (b : List (BitVec 8)) (h : 4 ≤ b.length) : rlNum4 (rdN b 4) = b.take 4 := by
  match b, h with
  | a0 :: a1 :: a2 :: a3 :: r, _ =>
    have hs := rdN_sum (a0 :: a1 :: a2 :: a3 :: r)
    obtain ⟨h0, h1, h2, h3⟩ := nth_app4 a0 a1 a2 a3 r
    rw [show a0 :: a1 :: a2 :: a3 :: r = [a0, a1, a2, a3] ++ r from rfl] at hs ⊢
    rw [h0, h1, h2, h3] at hs
    have l0 := a0.isLt
    have l1 := a1.isLt
    have l2 := a2.isLt
    have l3 := a3.isLt
    have hb : rdN ([a0, a1, a2, a3] ++ r) 4 < 18446744073709551616 := by omega
    rw [rlNum4_list]
    generalize rdN ([a0, a1, a2, a3] ++ r) 4 = n at *
    have e : ∀ (i : Nat) (a : BitVec 8), n / 2 ^ (8 * i) % 256 = a.toNat → byN n i = a := fun i a h => BitVec.eq_of_toNat_eq (by rw [byN_nat hb]; exact h)
    rw [e 0 a0 (by simp only [Nat.mul_zero, Nat.pow_zero, Nat.div_one]; omega), e 1 a1 (by simp only [Nat.reduceMul, Nat.reducePow]; omega), e 2 a2 (by simp only [Nat.reduceMul, Nat.reducePow]; omega), e 3 a3 (by simp only [Nat.reduceMul, Nat.reducePow]; omega)]
    rfl
theorem jpb_cons (x : List (BitVec 8)) (l : List (List (BitVec 8))) : ∀ j, jpb (x :: l) (j + 1) = rlNum4 x.length ++ (x ++ jpb l j)
  | 0 => by simp [jpb, getb]
  | j + 1 => by
    rw [jpb.eq_2, jpb_cons x l j, jpb.eq_2]
    simp [getb]
theorem jn_cons (x : List (BitVec 8)) (l : List (List (BitVec 8))) : jn (x :: l) = rlNum4 x.length ++ (x ++ jn l) := jpb_cons x l l.length
theorem jn_nil : jn [] = [] := rfl
theorem jl_cons (x : List (BitVec 8)) (l : List (List (BitVec 8))) : jl (x :: l) = 4 + x.length + jl l := by
  rw [← jn_len, jn_cons, List.length_append, List.length_append, rlNum4_len, jn_len]
  omega
theorem sp_jn (l : List (List (BitVec 8))) (h : jl l ≤ 65536) : spL (jn l) = some l := by
  induction l with
  | nil => rw [jn_nil, spL]; simp
  | cons x l ih =>
    rw [jl_cons] at h
    have ih := ih (by omega)
    rw [jn_cons, spL]
    have hlen : (rlNum4 x.length ++ (x ++ jn l)).length = 4 + (x.length + (jn l).length) := by simp
    have hd : (rlNum4 x.length ++ (x ++ jn l)).drop 4 = x ++ jn l := by
      have h4 := rlNum4_len x.length
      rw [← h4, List.drop_left]
    rw [if_neg (by omega), dif_neg (by omega), hd, rd_num _ (by omega), if_neg (by simp), List.drop_left, List.take_left, ih]
    rfl
theorem jn_sp : ∀ (n : Nat) (b : List (BitVec 8)) (l : List (List (BitVec 8))), b.length ≤ n → spL b = some l → jn l = b := by
  intro n
  induction n with
  | zero =>
    intro b l hn h
    obtain rfl := List.eq_nil_of_length_eq_zero (by omega : b.length = 0)
    rw [spL] at h
    simp at h
    subst h
    rfl
  | succ n ih =>
    intro b l hn h
    rw [spL] at h
    split at h
    · rename_i h0
      obtain rfl := List.eq_nil_of_length_eq_zero h0
      cases h
      rfl
    · split at h
      · cases h
      · split at h
        · cases h
        · rename_i h0 h4 hle
          obtain ⟨r, hr, rfl⟩ := Option.map_eq_some_iff.1 h
          have h1 := ih _ r (by simp only [List.length_drop]; omega) hr
          rw [jn_cons, h1, List.length_take, Nat.min_eq_left (by omega), num_rd b (by omega), List.take_append_drop, List.take_append_drop]
theorem jl_sp {b : List (BitVec 8)} {l : List (List (BitVec 8))} (h : spL b = some l) : jn l = b ∧ jl l = b.length := by
  have := jn_sp b.length b l (Nat.le_refl _) h
  exact ⟨this, by rw [← jn_len, this]⟩
theorem cutA0 (x t : List (BitVec 8)) (m : Nat) (h : x.length = m) : cut (x ++ t) 0 m = x := by subst h; simp [cut]
theorem cutA1 (x t : List (BitVec 8)) (m k : Nat) (h : x.length = m) (hk : t.length = k) : cut (x ++ t) m k = t := by subst h hk; simp [cut]
theorem xorTwice (key nonce t : List (BitVec 8)) (c : BitVec 32) (hkey : key.length = 32) (hnonce : nonce.length = 12) : chXor key c nonce (chXor key c nonce t) = t := by
  have hl := chXor_len key c nonce t hkey hnonce
  refine extNth (by rw [chXor_len _ _ _ _ hkey hnonce, hl]) fun i hi => ?_
  rw [chXor_len _ _ _ _ hkey hnonce, hl] at hi
  rw [chXor_nth _ _ _ _ hkey hnonce _ (by omega), chXor_nth _ _ _ _ hkey hnonce _ hi, BitVec.xor_assoc, BitVec.xor_self, BitVec.xor_zero]
theorem sealOk (key nonce text : List (BitVec 8)) (hkey : key.length = 32) (hnonce : nonce.length = 12) :
    adWork11 key nonce [] (cut (adSeal0 key nonce [] text) 0 ((adSeal0 key nonce [] text).length - 16)) = cut (adSeal0 key nonce [] text) ((adSeal0 key nonce [] text).length - 16) 16 := by
  have hx := chXor_len key 1#32 nonce text hkey hnonce
  have hl := adSeal0_len key nonce [] text hkey hnonce
  rw [hl, Nat.add_sub_cancel]
  unfold adSeal0 at hl ⊢
  rw [List.length_append] at hl
  unfold adWork00 at hl ⊢
  rw [hx] at hl
  rw [cutA0 _ _ _ hx, cutA1 _ _ _ _ hx (by omega)]
  unfold adWork11 adWork01
  rfl
theorem sealBack (key nonce text : List (BitVec 8)) (hkey : key.length = 32) (hnonce : nonce.length = 12) : adOpen0 key nonce (adSeal0 key nonce [] text) = text := by
  have hx := chXor_len key 1#32 nonce text hkey hnonce
  have hl := adSeal0_len key nonce [] text hkey hnonce
  unfold adOpen0
  rw [hl, Nat.add_sub_cancel]
  unfold adSeal0 adWork00
  rw [cutA0 _ _ _ hx, xorTwice _ _ _ _ hkey hnonce]
end Go.Proofs.YtmbepikkgkcgkaaGreatDoor
namespace Go.Proofs.YtmbepikkgkcgkaaGreatDoor
open Go.RowKit
theorem adOpen_evB (key box : List (BitVec 8)) (hkey : key.length = 32) (hbn : box.length ≤ 1099511627) (h16 : 16 ≤ box.length) (hT : box.length - 16 ≤ 65536) (hE : adWork11 key (zer8 12) [] (cut box 0 (box.length - 16)) = cut box (box.length - 16) 16) :
    Ev Tryz.prog (.call 53 [.agg (.a8 key), .agg (.a8 (zer8 12)), .c .nsl, .c (.bs box)] []) (.val (.tup [.c (.sl 0 0 (box.length - 16) (box.length - 16) 1), .c (.val (.int .i64 ((0 : Nat) : Int)))]) [.row true (.a8 (adOpen0 key (zer8 12) box))]) :=
  Ev.partsB (m := []) (m' := [.row false (.a8 []), .row false (.a8 box)]) (N := [.row true (.a8 (adOpen0 key (zer8 12) box))]) (N' := [.row true (.a8 (adOpen0 key (zer8 12) box))]) [none, none] [1] (.no (.no .nil)) (.agg rfl (.agg rfl (.c .nil (.c (.same rfl) .nil)))) (.same (.same (.same (.bs rfl rfl .nil)))) rfl rfl (adOpen_ev key (zer8 12) [] 0 0 box box.length box.length hkey (zer8_length 12) rfl (by decide) rfl hbn (by decide) h16 hT hE) rfl rfl
def adErr (key box : List (BitVec 8)) : Nat := if box.length < 16 ∨ 65536 < box.length - 16 then 2 else if adWork11 key (zer8 12) [] (cut box 0 (box.length - 16)) = cut box (box.length - 16) 16 then 0 else 3
theorem adErr_evB (key box : List (BitVec 8)) (hkey : key.length = 32) (hbn : box.length ≤ 1099511627) (he : ¬ adErr key box = 0) :
    Ev Tryz.prog (.call 53 [.agg (.a8 key), .agg (.a8 (zer8 12)), .c .nsl, .c (.bs box)] []) (.val (.tup [.c .nsl, .c (.val (.int .i64 ((adErr key box : Nat) : Int)))]) []) := by
  have go : ∀ e : Nat, Ev Tryz.prog (.call 53 [.agg (.a8 key), .agg (.a8 (zer8 12)), .c (.sl 0 0 0 0 1), .c (.sl 1 0 box.length box.length 1)] [.row false (.a8 []), .row false (.a8 box)]) (.val (.tup [.c .nsl, .c (.val (.int .i64 ((e : Nat) : Int)))]) [.row false (.a8 []), .row false (.a8 box)]) → Ev Tryz.prog (.call 53 [.agg (.a8 key), .agg (.a8 (zer8 12)), .c .nsl, .c (.bs box)] []) (.val (.tup [.c .nsl, .c (.val (.int .i64 ((e : Nat) : Int)))]) []) := fun e h =>
    Ev.partsB (m := []) (m' := [.row false (.a8 []), .row false (.a8 box)]) (N := []) (N' := []) [none, none] [1] (.no (.no .nil)) (.agg rfl (.agg rfl (.c .nil (.c (.same rfl) .nil)))) (.same (.same (.same (.bs rfl rfl .nil)))) rfl rfl h rfl rfl
  unfold adErr at he ⊢
  by_cases h1 : box.length < 16
  · rw [if_pos (.inl h1)]
    exact go _ (adOpenS_ev key (zer8 12) [] 0 0 box box.length box.length hkey (zer8_length 12) rfl (by decide) rfl hbn (by decide) h1)
  by_cases h2 : 65536 < box.length - 16
  · rw [if_pos (.inr h2)]
    exact go _ (adOpenT_ev key (zer8 12) [] 0 0 box box.length box.length hkey (zer8_length 12) rfl (by decide) rfl hbn (by decide) (by omega) h2)
  rw [if_neg (by omega)] at he ⊢
  by_cases h3 : adWork11 key (zer8 12) [] (cut box 0 (box.length - 16)) = cut box (box.length - 16) 16
  · rw [if_pos h3] at he
    exact absurd rfl he
  · rw [if_neg h3]
    exact go _ (adOpenE_ev key (zer8 12) [] 0 0 box box.length box.length hkey (zer8_length 12) rfl (by decide) rfl hbn (by decide) (by omega) (by omega) h3)
def opR (key box : List (BitVec 8)) : List (List (BitVec 8)) × Nat := if adErr key box = 0 then spR (adOpen0 key (zer8 12) box) else ([], adErr key box)
set_option maxRecDepth 100000 in
set_option maxHeartbeats 2000000 in
theorem rlOpen_ev (key box : List (BitVec 8)) (hkey : key.length = 32) (hbn : box.length ≤ 1099511627) : Ev Tryz.prog (.call 26 [.agg (.a8 key), .c (.bs box)] []) (.val (.tup [.c (.sl 0 0 (opR key box).1.length (opR key box).1.length 1), .c (.val (.int .i64 (((opR key box).2 : Nat) : Int)))]) [.row true (.ab (opR key box).1)]) := by
  unfold opR
  by_cases he : adErr key box = 0
  · rw [if_pos he]
    have h1 : 16 ≤ box.length ∧ box.length - 16 ≤ 65536 ∧ adWork11 key (zer8 12) [] (cut box 0 (box.length - 16)) = cut box (box.length - 16) 16 := by
      unfold adErr at he
      split at he
      · cases he
      · split at he
        · rename_i h1 h2
          exact ⟨by omega, by omega, h2⟩
        · cases he
    have hO := adOpen_evB key box hkey hbn h1.1 h1.2.1 h1.2.2
    have hl : (adOpen0 key (zer8 12) box).length = box.length - 16 := by
      unfold adOpen0
      rw [chXor_len _ _ _ _ hkey (zer8_length 12), cut_length]
      omega
    have h65 := h1.2.1
    generalize adOpen0 key (zer8 12) box = t at *
    generalize box.length - 16 = m at *
    have hS := rlSplit_ev t (by omega)
    generalize spR t = q at *
    refine c_call Tryz.func26 rfl Tryz.ntmps26 rfl LEN_ ?_
    refine S_ ?_
    refine c_region ?_
    refine s_memN (m_box BX_ LEN_) APP_ rfl ?_
    refine s_val (v_assignC rfl) rfl ?_
    refine s_val (v_assignC rfl) rfl ?_
    refine s_nil ?_
    refine S_ ?_
    refine c_region ?_
    first
      | refine s_val (v_loadR rfl rfl row_37 sz_37 EQ_ (by decide)) rfl ?_
      | refine s_val (v_loadW8 rfl rfl row_37 sz_37 LE_ (by decide)) rfl ?_
      | refine s_val (v_loadW64 rfl rfl row_37 sz_37 LE_ (by decide)) rfl ?_
    refine s_val (v_blf8 (l := (zer8 12)) za_98 Tryz.underlying98 sz_5 rfl rfl) rfl ?_
    first
      | refine s_val (v_moveC rfl) rfl ?_
      | refine s_val (v_moveA rfl) rfl ?_
      | refine s_val (v_moveT rfl) rfl ?_
    refine s_evN (e_callR (hO) ok_53 rfl rfl rfl VAL_) APP_ rfl ?_
    first
      | refine s_val (v_moveC rfl) rfl ?_
      | refine s_val (v_moveA rfl) rfl ?_
      | refine s_val (v_moveT rfl) rfl ?_
    refine s_val (v_extract rfl rfl) rfl ?_
    refine s_val (v_extract rfl rfl) rfl ?_
    first
      | refine s_val (v_assignC rfl) rfl ?_
      | refine s_val (v_assignA rfl) rfl ?_
      | refine s_val (v_assignT rfl) rfl ?_
    first
      | refine s_val (v_assignC rfl) rfl ?_
      | refine s_val (v_assignA rfl) rfl ?_
      | refine s_val (v_assignT rfl) rfl ?_
    refine s_nil ?_
    refine S_ ?_
    refine c_hide8 6 rfl rfl hl KILL_ ?_
    refine S_ ?_
    refine c_region ?_
    first
      | refine s_val (v_moveC rfl) rfl ?_
      | refine s_val (v_moveA rfl) rfl ?_
      | refine s_val (v_moveT rfl) rfl ?_
    first
      | refine s_val (v_neqN (b := 0) rfl rfl) rfl ?_
      | refine s_val (v_neqD rfl rfl) rfl ?_
    refine s_nil ?_
    refine S_ ?_
    refine c_region ?_
    first
      | refine s_val (v_moveC rfl) rfl ?_
      | refine s_val (v_moveA rfl) rfl ?_
      | refine s_val (v_moveT rfl) rfl ?_
    refine s_evN (e_callR (hS) ok_15 rfl rfl rfl VAL_) APP_ rfl ?_
    refine s_val (v_extract rfl rfl) rfl ?_
    refine s_val (v_extract rfl rfl) rfl ?_
    first
      | refine s_val (v_assignC rfl) rfl ?_
      | refine s_val (v_assignA rfl) rfl ?_
      | refine s_val (v_assignT rfl) rfl ?_
    first
      | refine s_val (v_assignC rfl) rfl ?_
      | refine s_val (v_assignA rfl) rfl ?_
      | refine s_val (v_assignT rfl) rfl ?_
    refine s_nil ?_
    refine S_ ?_
    exact k_2 (by first | exact r_tmpC rfl | exact r_tmpA rfl) (by first | exact r_tmpC rfl | exact r_tmpA rfl) (by first | kernel_rfl | rfl)
  · rw [if_neg he]
    have hO := adErr_evB key box hkey hbn he
    generalize adErr key box = e at *
    refine c_call Tryz.func26 rfl Tryz.ntmps26 rfl LEN_ ?_
    refine S_ ?_
    refine c_region ?_
    refine s_memN (m_box BX_ LEN_) APP_ rfl ?_
    refine s_val (v_assignC rfl) rfl ?_
    refine s_val (v_assignC rfl) rfl ?_
    refine s_nil ?_
    refine S_ ?_
    refine c_region ?_
    first
      | refine s_val (v_loadR rfl rfl row_37 sz_37 EQ_ (by decide)) rfl ?_
      | refine s_val (v_loadW8 rfl rfl row_37 sz_37 LE_ (by decide)) rfl ?_
      | refine s_val (v_loadW64 rfl rfl row_37 sz_37 LE_ (by decide)) rfl ?_
    refine s_val (v_blf8 (l := (zer8 12)) za_98 Tryz.underlying98 sz_5 rfl rfl) rfl ?_
    first
      | refine s_val (v_moveC rfl) rfl ?_
      | refine s_val (v_moveA rfl) rfl ?_
      | refine s_val (v_moveT rfl) rfl ?_
    refine s_evN (e_callR (hO) ok_53 rfl rfl rfl VAL_) APP_ rfl ?_
    first
      | refine s_val (v_moveC rfl) rfl ?_
      | refine s_val (v_moveA rfl) rfl ?_
      | refine s_val (v_moveT rfl) rfl ?_
    refine s_val (v_extract rfl rfl) rfl ?_
    refine s_val (v_extract rfl rfl) rfl ?_
    first
      | refine s_val (v_assignC rfl) rfl ?_
      | refine s_val (v_assignA rfl) rfl ?_
      | refine s_val (v_assignT rfl) rfl ?_
    first
      | refine s_val (v_assignC rfl) rfl ?_
      | refine s_val (v_assignA rfl) rfl ?_
      | refine s_val (v_assignT rfl) rfl ?_
    refine s_nil ?_
    refine S_ ?_
    refine c_region ?_
    first
      | refine s_val (v_moveC rfl) rfl ?_
      | refine s_val (v_moveA rfl) rfl ?_
      | refine s_val (v_moveT rfl) rfl ?_
    first
      | refine s_val (v_neqN (b := 0) rfl rfl) rfl ?_
      | refine s_val (v_neqD rfl rfl) rfl ?_
    refine s_nil ?_
    refine S_ ?_
    refine c_region ?_
    first
      | refine s_val (v_moveC rfl) rfl ?_
      | refine s_val (v_moveA rfl) rfl ?_
      | refine s_val (v_moveT rfl) rfl ?_
    refine s_val (v_assignC rfl) rfl ?_
    first
      | refine s_val (v_assignC rfl) rfl ?_
      | refine s_val (v_assignA rfl) rfl ?_
      | refine s_val (v_assignT rfl) rfl ?_
    refine s_nil ?_
    refine Q_ ?_
    refine c_nil 4 1 (.ab []) rfl rfl LEN_ rfl ?_
    refine S_ ?_
    exact k_2 (by first | exact r_tmpC rfl | exact r_tmpA rfl) (by first | exact r_tmpC rfl | exact r_tmpA rfl) (by first | kernel_rfl | rfl)
theorem rf256_evB (b : List (BitVec 8)) (hn : b.length ≤ 2199023255552) : Ev Tryz.prog (.call 39 [.c (.bs b)] []) (.val (.agg (.a8 (sha256 b))) []) := by
  rw [← sha256_same]
  exact Ev.partsB (m := []) (m' := [.row false (.a8 b)]) (N := []) (N' := []) [none] [0] (.no .nil) (.c (.same rfl) .nil) (.bs rfl rfl .nil) rfl rfl (rf256_evS b b.length b.length rfl hn) rfl rfl
set_option maxRecDepth 100000 in
set_option maxHeartbeats 2000000 in
theorem rfKey_evB (b : List (BitVec 8)) (hn : b.length ≤ 2199023255552) : Ev Tryz.prog (.call 18 [.c (.bs b)] []) (.val (.agg (.a8 (sha256 b))) []) := by
  have hs : (sha256 b).length = 32 := sha256_len _
  refine c_call Tryz.func18 rfl Tryz.ntmps18 rfl LEN_ ?_
  refine S_ ?_
  refine c_region ?_
  refine s_memN (m_alloc al_37 LEN_) APP_ rfl ?_
  refine s_nil ?_
  refine S_ ?_
  refine c_region ?_
  first
    | refine s_val (v_moveC rfl) rfl ?_
    | refine s_val (v_moveA rfl) rfl ?_
    | refine s_val (v_moveT rfl) rfl ?_
  refine s_evN (e_callR (rf256_evB b hn) ok_39 rfl rfl rfl VAL_) APP_ rfl ?_
  refine s_storeR rfl rfl rfl rfl sz_37 EQ_ EQ_ SET_ ?_
  refine s_nil ?_
  refine S_ ?_
  exact k_1 (r_row rfl rfl row_37 sz_37 EQ_ (by decide)) (by first | kernel_rfl | rfl)
def hvA (l : List (List (BitVec 8))) : Bool := l.any fun x => decide (3000 < x.length)
def hvR (l : List (List (BitVec 8))) : Bool := decide (200 < l.length) || hvA l
theorem hvA_drop {l : List (List (BitVec 8))} {j : Nat} (hj : j < l.length) : hvA (l.drop j) = (decide (3000 < (getb l j).length) || hvA (l.drop (j + 1))) := by
  unfold hvA
  rw [List.drop_eq_getElem_cons hj, List.any_cons]
  congr 2
  simp [getb, hj]
set_option maxRecDepth 100000 in
set_option maxHeartbeats 2000000 in
theorem heavy_ev (l : List (List (BitVec 8))) (n c : Nat) (hl : l.length = n) (hn : n ≤ 9223372036854775807) : Ev Tryz.prog (.call 9 [.c (.sl 0 0 n c 1)] [.row false (.ab l)]) (.val (.c (.val (.bool (hvR l)))) [.row false (.ab l)]) := by
  unfold hvR
  refine c_call Tryz.func9 rfl Tryz.ntmps9 rfl LEN_ ?_
  refine S_ ?_
  refine c_region ?_
  refine s_val (v_assignC rfl) rfl ?_
  refine s_nil ?_
  by_cases h0 : 200 < n
  · rw [show decide (200 < l.length) = true by simp; omega, Bool.true_or]
    refine S_ ?_
    refine c_region ?_
    first
      | refine s_val (v_moveC rfl) rfl ?_
      | refine s_val (v_moveA rfl) rfl ?_
      | refine s_val (v_moveT rfl) rfl ?_
    first
      | refine s_val (v_lenS rfl Tryz.underlying22) rfl ?_
      | refine s_val (v_lenN rfl Tryz.underlying22) rfl ?_
      | refine s_val (v_lenE rfl Tryz.underlying22) rfl ?_
      | refine s_val (v_lenB rfl Tryz.underlying22 rfl) rfl ?_
      | refine s_val (v_lenZ rfl Tryz.underlying22 rfl) rfl ?_
    first
      | refine s_val (v_gtrN (b := 200) rfl rfl) rfl ?_
      | refine s_val (v_gtrI rfl rfl) rfl ?_
    refine s_nil ?_
    refine S_ ?_
    refine c_region ?_
    refine s_val (v_assignC rfl) rfl ?_
    refine s_nil ?_
    refine S_ ?_
    exact k_1 (by first | exact r_tmpC rfl | exact r_tmpA rfl) (by first | kernel_rfl | rfl)
  rw [show decide (200 < l.length) = false by simp; omega, Bool.false_or]
  refine S_ ?_
  refine c_region ?_
  first
    | refine s_val (v_moveC rfl) rfl ?_
    | refine s_val (v_moveA rfl) rfl ?_
    | refine s_val (v_moveT rfl) rfl ?_
  first
    | refine s_val (v_lenS rfl Tryz.underlying22) rfl ?_
    | refine s_val (v_lenN rfl Tryz.underlying22) rfl ?_
    | refine s_val (v_lenE rfl Tryz.underlying22) rfl ?_
    | refine s_val (v_lenB rfl Tryz.underlying22 rfl) rfl ?_
    | refine s_val (v_lenZ rfl Tryz.underlying22 rfl) rfl ?_
  first
    | refine s_val (v_gtrN (b := 200) rfl rfl) rfl ?_
    | refine s_val (v_gtrI rfl rfl) rfl ?_
  refine s_nil ?_
  refine S_ ?_
  refine c_region ?_
  refine s_val (v_assignC rfl) rfl ?_
  refine s_nil ?_
  refine S_ ?_
  refine c_while [0, 3] (fun (j : Nat) => ⟨19, keepT [0, 3] [.c (.sl 0 0 n c 1), .c (.val (.int .i64 (j : Int)))], [.row false (.ab l)]⟩) (fun j => n - j) (fun j => j ≤ n ∧ hvA l = hvA (l.drop j)) 0 (by kernel_rfl) ⟨Nat.zero_le _, by rw [List.drop_zero]⟩ ?_
  rintro j ⟨hj, hB⟩
  by_cases hlt : j < n
  · rw [hvA_drop (by omega)] at hB
    refine S_ ?_
    refine c_region ?_
    first
      | refine s_val (v_moveC rfl) rfl ?_
      | refine s_val (v_moveA rfl) rfl ?_
      | refine s_val (v_moveT rfl) rfl ?_
    first
      | refine s_val (v_moveC rfl) rfl ?_
      | refine s_val (v_moveA rfl) rfl ?_
      | refine s_val (v_moveT rfl) rfl ?_
    first
      | refine s_val (v_lenS rfl Tryz.underlying22) rfl ?_
      | refine s_val (v_lenN rfl Tryz.underlying22) rfl ?_
      | refine s_val (v_lenE rfl Tryz.underlying22) rfl ?_
      | refine s_val (v_lenB rfl Tryz.underlying22 rfl) rfl ?_
      | refine s_val (v_lenZ rfl Tryz.underlying22 rfl) rfl ?_
    first
      | refine s_val (v_lssN rfl rfl) rfl ?_
      | refine s_val (v_lssI rfl rfl) rfl ?_
    refine s_nil ?_
    by_cases h1 : 3000 < (getb l j).length
    · rw [show hvA l = true by rw [hB]; simp [h1]]
      refine S_ ?_
      refine c_region ?_
      first
        | refine s_val (v_moveC rfl) rfl ?_
        | refine s_val (v_moveA rfl) rfl ?_
        | refine s_val (v_moveT rfl) rfl ?_
      first
        | refine s_val (v_moveC rfl) rfl ?_
        | refine s_val (v_moveA rfl) rfl ?_
        | refine s_val (v_moveT rfl) rfl ?_
      first
        | refine s_val (v_idxS1 rfl rfl Tryz.underlying22 sz_23 (by omega)) rfl ?_
        | refine s_val (v_idxSo rfl rfl Tryz.underlying22 sz_23 (by omega)) rfl ?_
        | refine s_val (v_idxS rfl rfl Tryz.underlying22 sz_23 (by omega)) rfl ?_
      first
        | refine s_val (v_loadB rfl rfl row_23 LT_) rfl ?_
        | refine s_val (v_load rfl rfl row_23 LT_ rfl) rfl ?_
      first
        | refine s_val (v_lenS rfl Tryz.underlying23) rfl ?_
        | refine s_val (v_lenN rfl Tryz.underlying23) rfl ?_
        | refine s_val (v_lenE rfl Tryz.underlying23) rfl ?_
        | refine s_val (v_lenB rfl Tryz.underlying23 rfl) rfl ?_
        | refine s_val (v_lenZ rfl Tryz.underlying23 rfl) rfl ?_
      first
        | refine s_val (v_gtrN (b := 3000) rfl rfl) rfl ?_
        | refine s_val (v_gtrI rfl rfl) rfl ?_
      refine s_nil ?_
      refine S_ ?_
      refine c_region ?_
      refine s_val (v_assignC rfl) rfl ?_
      refine s_nil ?_
      refine S_ ?_
      exact k_1 (by first | exact r_tmpC rfl | exact r_tmpA rfl) (by first | kernel_rfl | rfl)
    · refine S_ ?_
      refine c_region ?_
      first
        | refine s_val (v_moveC rfl) rfl ?_
        | refine s_val (v_moveA rfl) rfl ?_
        | refine s_val (v_moveT rfl) rfl ?_
      first
        | refine s_val (v_moveC rfl) rfl ?_
        | refine s_val (v_moveA rfl) rfl ?_
        | refine s_val (v_moveT rfl) rfl ?_
      first
        | refine s_val (v_idxS1 rfl rfl Tryz.underlying22 sz_23 (by omega)) rfl ?_
        | refine s_val (v_idxSo rfl rfl Tryz.underlying22 sz_23 (by omega)) rfl ?_
        | refine s_val (v_idxS rfl rfl Tryz.underlying22 sz_23 (by omega)) rfl ?_
      first
        | refine s_val (v_loadB rfl rfl row_23 LT_) rfl ?_
        | refine s_val (v_load rfl rfl row_23 LT_ rfl) rfl ?_
      first
        | refine s_val (v_lenS rfl Tryz.underlying23) rfl ?_
        | refine s_val (v_lenN rfl Tryz.underlying23) rfl ?_
        | refine s_val (v_lenE rfl Tryz.underlying23) rfl ?_
        | refine s_val (v_lenB rfl Tryz.underlying23 rfl) rfl ?_
        | refine s_val (v_lenZ rfl Tryz.underlying23 rfl) rfl ?_
      first
        | refine s_val (v_gtrN (b := 3000) rfl rfl) rfl ?_
        | refine s_val (v_gtrI rfl rfl) rfl ?_
      refine s_nil ?_
      refine S_ ?_
      refine c_region ?_
      first
        | refine s_val (v_moveC rfl) rfl ?_
        | refine s_val (v_moveA rfl) rfl ?_
        | refine s_val (v_moveT rfl) rfl ?_
      first
        | refine s_val (v_addN (b := 1) rfl rfl (by omega)) rfl ?_
        | refine s_val (v_addI rfl rfl (by omega)) rfl ?_
      first
        | refine s_val (v_assignC rfl) rfl ?_
        | refine s_val (v_assignA rfl) rfl ?_
        | refine s_val (v_assignT rfl) rfl ?_
      refine s_nil ?_
      exact ⟨j + 1, by kernel_rfl, by show n - (j + 1) < n - j; omega, by omega, by rw [hB]; simp [h1]⟩
  · obtain rfl : j = n := by omega
    rw [show hvA l = false by rw [hB, ← hl, List.drop_length]; rfl]
    refine S_ ?_
    refine c_region ?_
    first
      | refine s_val (v_moveC rfl) rfl ?_
      | refine s_val (v_moveA rfl) rfl ?_
      | refine s_val (v_moveT rfl) rfl ?_
    first
      | refine s_val (v_moveC rfl) rfl ?_
      | refine s_val (v_moveA rfl) rfl ?_
      | refine s_val (v_moveT rfl) rfl ?_
    first
      | refine s_val (v_lenS rfl Tryz.underlying22) rfl ?_
      | refine s_val (v_lenN rfl Tryz.underlying22) rfl ?_
      | refine s_val (v_lenE rfl Tryz.underlying22) rfl ?_
      | refine s_val (v_lenB rfl Tryz.underlying22 rfl) rfl ?_
      | refine s_val (v_lenZ rfl Tryz.underlying22 rfl) rfl ?_
    first
      | refine s_val (v_lssN rfl rfl) rfl ?_
      | refine s_val (v_lssI rfl rfl) rfl ?_
    refine s_nil ?_
    refine S_ ?_
    refine c_region ?_
    refine s_val (v_assignC rfl) rfl ?_
    refine s_nil ?_
    refine S_ ?_
    exact k_1 (by first | exact r_tmpC rfl | exact r_tmpA rfl) (by first | kernel_rfl | rfl)
end Go.Proofs.YtmbepikkgkcgkaaGreatDoor
namespace Go.Proofs.YtmbepikkgkcgkaaGreatDoor
open Go.RowKit
theorem o_eqlP {P : Program} {e : Operand → AV} {M : Mem} {t t2 : TypeId} {x y : Operand} {b o : Nat} (hu : P.underlying t = some (.pointer (P.pointee t))) (hx : e x = .c (.ptr b o)) (hy : e y = .c (.val (.pointer none))) : Ev P (.op (.binOp .eql t x y t2) e M) (.val (.c (.val (.bool false))) M) :=
  Ev.sem fun O ι w ρ hO hR hρ => by
    obtain ⟨dst, op, ty, pos, af, gd⟩ := O
    subst hO
    have h1 := hρ x (by simp [Op.operands])
    have h2 := hρ y (by simp [Op.operands])
    rw [hx] at h1; rw [hy] at h2
    obtain ⟨l, hl, hv⟩ := h1
    have h2 : ρ y = .pointer none := h2
    refine .inl ⟨.bool false, w, ι, .inl ?_, rfl, Step.refl hR (Nat.le_refl _)⟩
    simp [execOp, hv, h2, eqGuard, run_eql_pointer_nil _ t _ hu]
theorem und42 : Tryz.prog.underlying 42 = some (.pointer (Tryz.prog.pointee 42)) := by kernel_rfl
set_option maxRecDepth 100000 in
theorem mkNI_ev (L : List Nd) (N : Nat) (k n : Int) (a : List Int) (hA : ArOk L) (hN : L.length = N) (hNl : N < 1000000) (hml : a.length ≤ 1000) (hr : ∀ x ∈ k :: n :: a, -9223372036854775808 ≤ x ∧ x ≤ 9223372036854775807) (he : mkErr N k n a = 0) (hf : findN L ⟨k, n, a⟩ = none) :
    Ev Tryz.prog (.call 21 [.c (.ptr 0 0), .c (.val (.int .i64 k)), .c (.val (.int .i64 n)), .c (.is a)] [.row true (.ac [.sl 1 0 N N 3, .mp 2]), .row true (.an L), .row true (.mp (arEnt L))])
      (.val (.tup [.c (.val (.int .i64 ((N : Nat) : Int))), .c (.val (.int .i64 ((0 : Nat) : Int)))]) [.row true (.ac [.sl 3 0 (N + 1) (N + 1) 3, .mp 2]), .dead, .row true (.mp (arEnt (L ++ [⟨k, n, a⟩]))), .row true (.an (L ++ [⟨k, n, a⟩]))]) := by
  have h1 := mkN_ev L N k n a a.length a.length hA hN (by omega) rfl hml hr he hf
  have h2 : Ev Tryz.prog (.call 21 [.c (.ptr 0 0), .c (.val (.int .i64 k)), .c (.val (.int .i64 n)), .c (.sl 3 0 a.length a.length 1)] [.row true (.ac [.sl 1 0 N N 3, .mp 2]), .row true (.an L), .row true (.mp (arEnt L)), .row false (.ai a)])
      (.val (.tup [.c (.val (.int .i64 ((N : Nat) : Int))), .c (.val (.int .i64 ((0 : Nat) : Int)))]) [.row true (.ac [.sl 4 0 (N + 1) (N + 1) 3, .mp 2]), .dead, .row true (.mp (arEnt (L ++ [⟨k, n, a⟩]))), .row false (.ai a), .row true (.an (L ++ [⟨k, n, a⟩]))]) :=
    Ev.relink [0, 3, 1, 2] (by kernel_rfl) (by kernel_rfl) (by kernel_rfl) h1 (by kernel_rfl) (by kernel_rfl)
  exact Ev.isRow (a := a) (args' := [.c (.ptr 0 0), .c (.val (.int .i64 k)), .c (.val (.int .i64 n)), .c (.sl 3 0 a.length a.length 1)]) 3 [4] rfl rfl rfl (fun j hj => by match j with | 0 => rfl | 1 => rfl | 2 => rfl | 3 => exact absurd rfl hj | j + 4 => rfl) h2 (by kernel_rfl) (by kernel_rfl) (by kernel_rfl) (by kernel_rfl)
theorem mkN0_ev (L : List Nd) (N : Nat) (k n : Int) (hA : ArOk L) (hN : L.length = N) (hNl : N < 1000000) (hr : ∀ x ∈ [k, n], -9223372036854775808 ≤ x ∧ x ≤ 9223372036854775807) (he : mkErr N k n [] = 0) (hf : findN L ⟨k, n, []⟩ = none) :
    Ev Tryz.prog (.call 21 [.c (.ptr 0 0), .c (.val (.int .i64 k)), .c (.val (.int .i64 n)), .c .nsl] [.row true (.ac [.sl 1 0 N N 3, .mp 2]), .row true (.an L), .row true (.mp (arEnt L))])
      (.val (.tup [.c (.val (.int .i64 ((N : Nat) : Int))), .c (.val (.int .i64 ((0 : Nat) : Int)))]) [.row true (.ac [.sl 3 0 (N + 1) (N + 1) 3, .mp 2]), .dead, .row true (.mp (arEnt (L ++ [⟨k, n, []⟩]))), .row true (.an (L ++ [⟨k, n, []⟩]))]) :=
  Ev.weakA (.same (.same (.same (.nilZ .nil)))) (mkNI_ev L N k n [] hA hN hNl (by decide) hr he hf)
end Go.Proofs.YtmbepikkgkcgkaaGreatDoor
namespace Go.Proofs.YtmbepikkgkcgkaaGreatDoor
open Go.RowKit
def wL1 : List Nd := [⟨1, 1, []⟩]
def wL2 : List Nd := [⟨1, 1, []⟩, ⟨2, 2, []⟩]
def wL3 : List Nd := [⟨1, 1, []⟩, ⟨2, 2, []⟩, ⟨6, 0, [0, 1]⟩]
theorem wA1 : ArOk wL1 := ArOk.snoc .nil (by decide) (by decide) rfl
theorem wA2 : ArOk wL2 := ArOk.snoc (L := wL1) wA1 (by decide) (by decide) (by decide)
theorem wA3 : ArOk wL3 := ArOk.snoc (L := wL2) wA2 (by decide) (by decide) (by decide)
def noX : Nd → (Int → List (BitVec 8)) → List (BitVec 8) × Nat := fun _ _ => ([], 0)
theorem wH (i : Nat) (hi : i < 3) : ¬ hard wL3 (getn wL3 i) := by
  match i, hi with
  | 0, _ => unfold hard; decide
  | 1, _ => unfold hard; decide
  | 2, _ => unfold hard; decide
def wK : List (BitVec 8) := sha256 (kAtom ++ rlNum8 1)
def wM : List (BitVec 8) := sha256 (kWord ++ rlNum8 2)
def wS : List (BitVec 8) := adSeal0 (sha256 wK) (zer8 12) [] (jn [wM])
theorem wM_len : wM.length = 32 := sha256_len _
theorem wK_len : wK.length = 32 := sha256_len _
theorem w0 : bsOf noX wL3 0 = (wK, 0) := rfl
theorem w1 : bsOf noX wL3 1 = (wM, 0) := rfl
theorem wJ : jnR [wM] = (jn [wM], 0) := by
  unfold jnR
  rw [if_pos (by rw [jl_cons, wM_len]; decide)]
theorem w2run : bsRun noX wL3 (beneath wL3 2) [] = bsRun noX wL3 [2] [(0, wK), (1, wM)] := rfl
theorem w2btR : btR noX wL3 (dget [(0, wK), (1, wM)]) (getn wL3 (2 : Int).toNat) = btSeal (sha256 wK) (jnR [wM]) := rfl
theorem w2s : btSeal (sha256 wK) (jnR [wM]) = (wS, 0) := by rw [wJ]; rfl
theorem w2 : bsOf noX wL3 2 = (wS, 0) := by
  unfold bsOf
  rw [w2run, bsRun.eq_2, w2btR, w2s, if_pos rfl]
  rfl
theorem wS_len : wS.length = 52 := by
  unfold wS
  rw [adSeal0_len _ _ _ _ (sha256_len _) (zer8_length 12), jn_len, jl_cons, wM_len]
  rfl
theorem wO : opR (sha256 wK) wS = ([wM], 0) := by
  have hj : jl [wM] = 36 := by rw [jl_cons, wM_len]; rfl
  have e : adWork11 (sha256 wK) (zer8 12) [] (cut wS 0 (wS.length - 16)) = cut wS (wS.length - 16) 16 := sealOk (sha256 wK) (zer8 12) (jn [wM]) (sha256_len _) (zer8_length 12)
  have he : adErr (sha256 wK) wS = 0 := by
    unfold adErr
    rw [if_neg (by rw [wS_len]; decide), if_pos e]
  unfold opR
  rw [if_pos he, show adOpen0 (sha256 wK) (zer8 12) wS = jn [wM] from sealBack (sha256 wK) (zer8 12) (jn [wM]) (sha256_len _) (zer8_length 12)]
  exact spR_some (by rw [jn_len, hj]; decide) (sp_jn _ (by rw [hj]; decide))
theorem wB (i : Nat) (hi : i < 3) (v : List (BitVec 8)) (h : bsOf noX wL3 i = (v, 0)) : Ev Tryz.prog (.call 22 [.c (.ptr 0 0), .c (.val (.int .i64 (i : Int)))] [.row false (.ac [.sl 1 0 3 3 3, .mp 2]), .row false (.an wL3), .row false (.mp (arEnt wL3))]) (.val (.tup [.c (.bs v), .c (.val (.int .i64 ((0 : Nat) : Int)))]) [.row false (.ac [.sl 1 0 3 3 3, .mp 2]), .row false (.an wL3), .row false (.mp (arEnt wL3))]) := by
  have := rlBytes_ev noX wL3 (arEnt wL3) 3 i rfl (by decide) hi wA3 (fun D k hk _ _ hh => absurd hh (wH k (by have := (beneath_lt wL3 i _ hk).2; omega)))
  rw [h] at this
  exact this
attribute [irreducible] wK wM wS
set_option maxRecDepth 100000 in
set_option maxHeartbeats 2000000 in
theorem wakes_ev : Ev Tryz.prog (.call 19 [] []) (.val (.c (.val (.bool true))) []) := by
  have m1 := mkN0_ev [] 0 1 1 .nil rfl (by decide) (by decide) (by decide) rfl
  have m2 := mkN0_ev wL1 1 2 2 wA1 rfl (by decide) (by decide) (by decide) (by decide)
  have m3 := mkNI_ev wL2 2 6 0 [0, 1] wA2 rfl (by decide) (by decide) (by decide) (by decide) (by decide)
  have b0 := wB 0 (by decide) wK w0
  have b1 := wB 1 (by decide) wM w1
  have b2 := wB 2 (by decide) wS w2
  have hO := rlOpen_ev (sha256 wK) wS (sha256_len _) (by rw [wS_len]; decide)
  rw [wO] at hO
  dsimp only [List.length] at hO
  have hMl := wM_len
  have hKl := wK_len
  refine c_call Tryz.func19 rfl Tryz.ntmps19 rfl LEN_ ?_
  refine S_ ?_
  refine c_region ?_
  refine s_val (v_assignC rfl) rfl ?_
  refine s_nil ?_
  refine S_ ?_
  refine c_region ?_
  refine s_evN (e_callR (new_ev) ok_20 rfl rfl rfl VAL_) APP_ rfl ?_
  first
    | refine s_val (v_assignC rfl) rfl ?_
    | refine s_val (v_assignA rfl) rfl ?_
    | refine s_val (v_assignT rfl) rfl ?_
  refine s_nil ?_
  refine S_ ?_
  refine c_region ?_
  first
    | refine s_val (v_moveC rfl) rfl ?_
    | refine s_val (v_moveA rfl) rfl ?_
    | refine s_val (v_moveT rfl) rfl ?_
  refine s_ev (o_eqlP und42 rfl rfl) rfl ?_
  refine s_nil ?_
  refine S_ ?_
  refine c_region ?_
  first
    | refine s_val (v_moveC rfl) rfl ?_
    | refine s_val (v_moveA rfl) rfl ?_
    | refine s_val (v_moveT rfl) rfl ?_
  refine s_ev (e_callK (bs := [0,1,2]) (m1) ok_21 (by kernel_rfl) rfl rfl VAL_ APP_) rfl ?_
  first
    | refine s_val (v_moveC rfl) rfl ?_
    | refine s_val (v_moveA rfl) rfl ?_
    | refine s_val (v_moveT rfl) rfl ?_
  refine s_val (v_extract rfl rfl) rfl ?_
  refine s_val (v_extract rfl rfl) rfl ?_
  first
    | refine s_val (v_assignC rfl) rfl ?_
    | refine s_val (v_assignA rfl) rfl ?_
    | refine s_val (v_assignT rfl) rfl ?_
  first
    | refine s_val (v_assignC rfl) rfl ?_
    | refine s_val (v_assignA rfl) rfl ?_
    | refine s_val (v_assignT rfl) rfl ?_
  refine s_nil ?_
  refine S_ ?_
  refine c_region ?_
  first
    | refine s_val (v_moveC rfl) rfl ?_
    | refine s_val (v_moveA rfl) rfl ?_
    | refine s_val (v_moveT rfl) rfl ?_
  refine s_ev (e_callK (bs := [0,3,2]) (m2) ok_21 (by kernel_rfl) rfl rfl VAL_ APP_) rfl ?_
  first
    | refine s_val (v_moveC rfl) rfl ?_
    | refine s_val (v_moveA rfl) rfl ?_
    | refine s_val (v_moveT rfl) rfl ?_
  refine s_val (v_extract rfl rfl) rfl ?_
  refine s_val (v_extract rfl rfl) rfl ?_
  first
    | refine s_val (v_assignC rfl) rfl ?_
    | refine s_val (v_assignA rfl) rfl ?_
    | refine s_val (v_assignT rfl) rfl ?_
  first
    | refine s_val (v_assignC rfl) rfl ?_
    | refine s_val (v_assignA rfl) rfl ?_
    | refine s_val (v_assignT rfl) rfl ?_
  refine s_nil ?_
  refine S_ ?_
  refine c_region ?_
  first
    | refine s_val (v_moveC rfl) rfl ?_
    | refine s_val (v_moveA rfl) rfl ?_
    | refine s_val (v_moveT rfl) rfl ?_
  first
    | refine s_val (v_moveC rfl) rfl ?_
    | refine s_val (v_moveA rfl) rfl ?_
    | refine s_val (v_moveT rfl) rfl ?_
  first
    | refine s_val (v_moveC rfl) rfl ?_
    | refine s_val (v_moveA rfl) rfl ?_
    | refine s_val (v_moveT rfl) rfl ?_
  refine s_ev (o_quietI (Ev.mem (m_bsI (l := [_, _]) Tryz.underlying41 el_3 rfl rfl (by decide) (by decide) LEN_)) LEN_ LQ_ rfl) rfl ?_
  refine s_ev (e_callK (bs := [0,4,2]) (m3) ok_21 (by kernel_rfl) rfl rfl VAL_ APP_) rfl ?_
  first
    | refine s_val (v_moveC rfl) rfl ?_
    | refine s_val (v_moveA rfl) rfl ?_
    | refine s_val (v_moveT rfl) rfl ?_
  refine s_val (v_extract rfl rfl) rfl ?_
  refine s_val (v_extract rfl rfl) rfl ?_
  first
    | refine s_val (v_assignC rfl) rfl ?_
    | refine s_val (v_assignA rfl) rfl ?_
    | refine s_val (v_assignT rfl) rfl ?_
  first
    | refine s_val (v_assignC rfl) rfl ?_
    | refine s_val (v_assignA rfl) rfl ?_
    | refine s_val (v_assignT rfl) rfl ?_
  refine s_nil ?_
  refine S_ ?_
  refine c_region ?_
  first
    | refine s_val (v_moveC rfl) rfl ?_
    | refine s_val (v_moveA rfl) rfl ?_
    | refine s_val (v_moveT rfl) rfl ?_
  first
    | refine s_val (v_moveC rfl) rfl ?_
    | refine s_val (v_moveA rfl) rfl ?_
    | refine s_val (v_moveT rfl) rfl ?_
  refine s_evN (e_callR (bs := [0,5,2]) (b0) ok_22 (by kernel_rfl) (by kernel_rfl) rfl VAL_) APP_ rfl ?_
  first
    | refine s_val (v_moveC rfl) rfl ?_
    | refine s_val (v_moveA rfl) rfl ?_
    | refine s_val (v_moveT rfl) rfl ?_
  refine s_val (v_extract rfl rfl) rfl ?_
  refine s_val (v_extract rfl rfl) rfl ?_
  first
    | refine s_val (v_assignC rfl) rfl ?_
    | refine s_val (v_assignA rfl) rfl ?_
    | refine s_val (v_assignT rfl) rfl ?_
  first
    | refine s_val (v_assignC rfl) rfl ?_
    | refine s_val (v_assignA rfl) rfl ?_
    | refine s_val (v_assignT rfl) rfl ?_
  refine s_nil ?_
  refine S_ ?_
  refine c_region ?_
  first
    | refine s_val (v_moveC rfl) rfl ?_
    | refine s_val (v_moveA rfl) rfl ?_
    | refine s_val (v_moveT rfl) rfl ?_
  first
    | refine s_val (v_moveC rfl) rfl ?_
    | refine s_val (v_moveA rfl) rfl ?_
    | refine s_val (v_moveT rfl) rfl ?_
  refine s_evN (e_callR (bs := [0,5,2]) (b2) ok_22 (by kernel_rfl) (by kernel_rfl) rfl VAL_) APP_ rfl ?_
  first
    | refine s_val (v_moveC rfl) rfl ?_
    | refine s_val (v_moveA rfl) rfl ?_
    | refine s_val (v_moveT rfl) rfl ?_
  refine s_val (v_extract rfl rfl) rfl ?_
  refine s_val (v_extract rfl rfl) rfl ?_
  first
    | refine s_val (v_assignC rfl) rfl ?_
    | refine s_val (v_assignA rfl) rfl ?_
    | refine s_val (v_assignT rfl) rfl ?_
  first
    | refine s_val (v_assignC rfl) rfl ?_
    | refine s_val (v_assignA rfl) rfl ?_
    | refine s_val (v_assignT rfl) rfl ?_
  refine s_nil ?_
  refine S_ ?_
  refine c_region ?_
  first
    | refine s_val (v_moveC rfl) rfl ?_
    | refine s_val (v_moveA rfl) rfl ?_
    | refine s_val (v_moveT rfl) rfl ?_
  first
    | refine s_val (v_moveC rfl) rfl ?_
    | refine s_val (v_moveA rfl) rfl ?_
    | refine s_val (v_moveT rfl) rfl ?_
  refine s_evN (e_callR (bs := [0,5,2]) (b1) ok_22 (by kernel_rfl) (by kernel_rfl) rfl VAL_) APP_ rfl ?_
  first
    | refine s_val (v_moveC rfl) rfl ?_
    | refine s_val (v_moveA rfl) rfl ?_
    | refine s_val (v_moveT rfl) rfl ?_
  refine s_val (v_extract rfl rfl) rfl ?_
  refine s_val (v_extract rfl rfl) rfl ?_
  first
    | refine s_val (v_assignC rfl) rfl ?_
    | refine s_val (v_assignA rfl) rfl ?_
    | refine s_val (v_assignT rfl) rfl ?_
  first
    | refine s_val (v_assignC rfl) rfl ?_
    | refine s_val (v_assignA rfl) rfl ?_
    | refine s_val (v_assignT rfl) rfl ?_
  refine s_nil ?_
  refine S_ ?_
  refine c_region ?_
  first
    | refine s_val (v_moveC rfl) rfl ?_
    | refine s_val (v_moveA rfl) rfl ?_
    | refine s_val (v_moveT rfl) rfl ?_
  refine s_evN (e_callR (key_evB wK (by rw [hKl]; decide)) ok_17 rfl rfl rfl VAL_) APP_ rfl ?_
  first
    | refine s_val (v_moveC rfl) rfl ?_
    | refine s_val (v_moveA rfl) rfl ?_
    | refine s_val (v_moveT rfl) rfl ?_
  refine s_evN (e_callR (hO) ok_26 rfl rfl rfl VAL_) APP_ rfl ?_
  first
    | refine s_val (v_moveC rfl) rfl ?_
    | refine s_val (v_moveA rfl) rfl ?_
    | refine s_val (v_moveT rfl) rfl ?_
  refine s_val (v_extract rfl rfl) rfl ?_
  refine s_val (v_extract rfl rfl) rfl ?_
  first
    | refine s_val (v_assignC rfl) rfl ?_
    | refine s_val (v_assignA rfl) rfl ?_
    | refine s_val (v_assignT rfl) rfl ?_
  first
    | refine s_val (v_assignC rfl) rfl ?_
    | refine s_val (v_assignA rfl) rfl ?_
    | refine s_val (v_assignT rfl) rfl ?_
  refine s_nil ?_
  refine S_ ?_
  refine c_region ?_
  first
    | refine s_val (v_moveC rfl) rfl ?_
    | refine s_val (v_moveA rfl) rfl ?_
    | refine s_val (v_moveT rfl) rfl ?_
  first
    | refine s_val (v_eqlN (b := 0) rfl rfl) rfl ?_
    | refine s_val (v_eqlD rfl rfl) rfl ?_
  first
    | refine s_val (v_moveC rfl) rfl ?_
    | refine s_val (v_moveA rfl) rfl ?_
    | refine s_val (v_moveT rfl) rfl ?_
  first
    | refine s_go GOG_ ?_
      first
        | refine s_val (v_moveC rfl) rfl ?_
        | refine s_val (v_moveA rfl) rfl ?_
        | refine s_val (v_moveT rfl) rfl ?_
    | refine s_no GOG_ rfl ?_
  first
    | refine s_go GOG_ ?_
      first
        | refine s_val (v_eqlN (b := 0) rfl rfl) rfl ?_
        | refine s_val (v_eqlD rfl rfl) rfl ?_
    | refine s_no GOG_ rfl ?_
  first
    | refine s_val (v_pickT rfl PK_ rfl) rfl ?_
    | refine s_val (v_pickF rfl PK_ rfl) rfl ?_
    | refine s_val (v_pickOr rfl rfl rfl) rfl ?_
    | refine s_val (v_pickAnd rfl rfl rfl) rfl ?_
  first
    | refine s_val (v_moveC rfl) rfl ?_
    | refine s_val (v_moveA rfl) rfl ?_
    | refine s_val (v_moveT rfl) rfl ?_
  first
    | refine s_go GOG_ ?_
      first
        | refine s_val (v_moveC rfl) rfl ?_
        | refine s_val (v_moveA rfl) rfl ?_
        | refine s_val (v_moveT rfl) rfl ?_
    | refine s_no GOG_ rfl ?_
  first
    | refine s_go GOG_ ?_
      first
        | refine s_val (v_eqlN (b := 0) rfl rfl) rfl ?_
        | refine s_val (v_eqlD rfl rfl) rfl ?_
    | refine s_no GOG_ rfl ?_
  first
    | refine s_val (v_pickT rfl PK_ rfl) rfl ?_
    | refine s_val (v_pickF rfl PK_ rfl) rfl ?_
    | refine s_val (v_pickOr rfl rfl rfl) rfl ?_
    | refine s_val (v_pickAnd rfl rfl rfl) rfl ?_
  first
    | refine s_val (v_moveC rfl) rfl ?_
    | refine s_val (v_moveA rfl) rfl ?_
    | refine s_val (v_moveT rfl) rfl ?_
  first
    | refine s_go GOG_ ?_
      first
        | refine s_val (v_moveC rfl) rfl ?_
        | refine s_val (v_moveA rfl) rfl ?_
        | refine s_val (v_moveT rfl) rfl ?_
    | refine s_no GOG_ rfl ?_
  first
    | refine s_go GOG_ ?_
      first
        | refine s_val (v_eqlN (b := 0) rfl rfl) rfl ?_
        | refine s_val (v_eqlD rfl rfl) rfl ?_
    | refine s_no GOG_ rfl ?_
  first
    | refine s_val (v_pickT rfl PK_ rfl) rfl ?_
    | refine s_val (v_pickF rfl PK_ rfl) rfl ?_
    | refine s_val (v_pickOr rfl rfl rfl) rfl ?_
    | refine s_val (v_pickAnd rfl rfl rfl) rfl ?_
  first
    | refine s_val (v_moveC rfl) rfl ?_
    | refine s_val (v_moveA rfl) rfl ?_
    | refine s_val (v_moveT rfl) rfl ?_
  first
    | refine s_go GOG_ ?_
      first
        | refine s_val (v_moveC rfl) rfl ?_
        | refine s_val (v_moveA rfl) rfl ?_
        | refine s_val (v_moveT rfl) rfl ?_
    | refine s_no GOG_ rfl ?_
  first
    | refine s_go GOG_ ?_
      first
        | refine s_val (v_lenS rfl Tryz.underlying22) rfl ?_
        | refine s_val (v_lenN rfl Tryz.underlying22) rfl ?_
        | refine s_val (v_lenE rfl Tryz.underlying22) rfl ?_
        | refine s_val (v_lenB rfl Tryz.underlying22 rfl) rfl ?_
        | refine s_val (v_lenZ rfl Tryz.underlying22 rfl) rfl ?_
    | refine s_no GOG_ rfl ?_
  first
    | refine s_go GOG_ ?_
      first
        | refine s_val (v_eqlN (b := 1) rfl rfl) rfl ?_
        | refine s_val (v_eqlD rfl rfl) rfl ?_
    | refine s_no GOG_ rfl ?_
  first
    | refine s_val (v_pickT rfl PK_ rfl) rfl ?_
    | refine s_val (v_pickF rfl PK_ rfl) rfl ?_
    | refine s_val (v_pickOr rfl rfl rfl) rfl ?_
    | refine s_val (v_pickAnd rfl rfl rfl) rfl ?_
  first
    | refine s_val (v_moveC rfl) rfl ?_
    | refine s_val (v_moveA rfl) rfl ?_
    | refine s_val (v_moveT rfl) rfl ?_
  first
    | refine s_go GOG_ ?_
      first
        | refine s_val (v_moveC rfl) rfl ?_
        | refine s_val (v_moveA rfl) rfl ?_
        | refine s_val (v_moveT rfl) rfl ?_
    | refine s_no GOG_ rfl ?_
  first
    | refine s_go GOG_ ?_
      first
        | refine s_val (v_idxS1 (j := 0) rfl rfl Tryz.underlying22 sz_23 (by omega)) rfl ?_
        | refine s_val (v_idxSo (j := 0) rfl rfl Tryz.underlying22 sz_23 (by omega)) rfl ?_
        | refine s_val (v_idxS (j := 0) rfl rfl Tryz.underlying22 sz_23 (by omega)) rfl ?_
    | refine s_no GOG_ rfl ?_
  first
    | refine s_go GOG_ ?_
      first
        | refine s_val (v_loadB rfl rfl row_23 LT_) rfl ?_
        | refine s_val (v_load rfl rfl row_23 LT_ rfl) rfl ?_
    | refine s_no GOG_ rfl ?_
  first
    | refine s_go GOG_ ?_
      first
        | refine s_val (v_moveC rfl) rfl ?_
        | refine s_val (v_moveA rfl) rfl ?_
        | refine s_val (v_moveT rfl) rfl ?_
    | refine s_no GOG_ rfl ?_
  first
    | refine s_go GOG_ ?_
      refine s_evN (e_callR (keepB_ev wM (by rw [hMl]; decide)) ok_13 rfl rfl rfl VAL_) APP_ rfl ?_
    | refine s_no GOG_ rfl ?_
  first
    | refine s_val (v_pickT rfl PK_ rfl) rfl ?_
    | refine s_val (v_pickF rfl PK_ rfl) rfl ?_
    | refine s_val (v_pickOr rfl rfl rfl) rfl ?_
    | refine s_val (v_pickAnd rfl rfl rfl) rfl ?_
  first
    | refine s_val (v_moveC rfl) rfl ?_
    | refine s_val (v_moveA rfl) rfl ?_
    | refine s_val (v_moveT rfl) rfl ?_
  first
    | refine s_go GOG_ ?_
      first
        | refine s_val (v_moveC rfl) rfl ?_
        | refine s_val (v_moveA rfl) rfl ?_
        | refine s_val (v_moveT rfl) rfl ?_
    | refine s_no GOG_ rfl ?_
  first
    | refine s_go GOG_ ?_
      first
        | refine s_val (v_lenS rfl Tryz.underlying23) rfl ?_
        | refine s_val (v_lenN rfl Tryz.underlying23) rfl ?_
        | refine s_val (v_lenE rfl Tryz.underlying23) rfl ?_
        | refine s_val (v_lenB rfl Tryz.underlying23 rfl) rfl ?_
        | refine s_val (v_lenZ rfl Tryz.underlying23 rfl) rfl ?_
    | refine s_no GOG_ rfl ?_
  first
    | refine s_go GOG_ ?_
      first
        | refine s_val (v_eqlN (b := 32) rfl rfl) rfl ?_
        | refine s_val (v_eqlD rfl rfl) rfl ?_
    | refine s_no GOG_ rfl ?_
  first
    | refine s_val (v_pickT rfl PK_ rfl) rfl ?_
    | refine s_val (v_pickF rfl PK_ rfl) rfl ?_
    | refine s_val (v_pickOr rfl rfl rfl) rfl ?_
    | refine s_val (v_pickAnd rfl rfl rfl) rfl ?_
  first
    | refine s_val (v_assignC rfl) rfl ?_
    | refine s_val (v_assignA rfl) rfl ?_
    | refine s_val (v_assignT rfl) rfl ?_
  refine s_nil ?_
  refine S_ ?_
  exact k_1 (by first | exact r_tmpC rfl | exact r_tmpA rfl) (by first | kernel_rfl | rfl)
end Go.Proofs.YtmbepikkgkcgkaaGreatDoor
namespace Go.Proofs.YtmbepikkgkcgkaaGreatDoor
open Go.RowKit
set_option maxRecDepth 100000 in
set_option maxHeartbeats 2000000 in
theorem rfJoinR_ev (l : List (List (BitVec 8))) (n cap : Nat) (hl : l.length = n) (hn : n ≤ 1099511627776) (hb : ∀ x ∈ l, x.length ≤ 100000) : Ev Tryz.prog (.call 12 [.c (.sl 0 0 n cap 1)] [.row false (.ab l)]) (.val (.tup [.c (.bs (jnR l).1), .c (.val (.bool (decide ((jnR l).2 = 0))))]) [.row false (.ab l)]) := by
  unfold jnR
  by_cases h : jl l ≤ 65536
  · rw [if_pos h]; exact rfJoin_ev l n cap hl hn h
  · rw [if_neg h]; exact rfJoinE_ev l n cap hl hn (fun j => Nat.le_trans (getb_len hb j) (by decide)) (by omega)
theorem jnR_two (l : List (List (BitVec 8))) : (jnR l = (jn l, 0) ∧ jl l ≤ 65536) ∨ jnR l = ([], 2) := by
  unfold jnR
  by_cases h : jl l ≤ 65536
  · rw [if_pos h]; exact .inl ⟨rfl, h⟩
  · rw [if_neg h]; exact .inr rfl
theorem spR_two (b : List (BitVec 8)) : (∃ y, spR b = (y, 0) ∧ jn y = b ∧ jl y = b.length ∧ ∀ x ∈ y, x.length ≤ b.length) ∨ spR b = ([], 2) := by
  unfold spR
  split
  · exact .inr rfl
  · cases h : spL b with
    | none => exact .inr rfl
    | some y =>
      obtain ⟨h1, h2⟩ := jl_sp h
      refine .inl ⟨y, rfl, h1, h2, ?_⟩
      rw [← h2]
      clear h h1 h2
      intro x hx
      induction y with
      | nil => cases hx
      | cons z y ih =>
        rw [jl_cons]
        rcases List.mem_cons.1 hx with rfl | hx
        · omega
        · have := ih hx; omega
theorem jl_count (l : List (List (BitVec 8))) : l.length ≤ jl l := by
  induction l with
  | nil => exact Nat.zero_le _
  | cons x l ih => rw [jl_cons, List.length_cons]; omega
set_option maxRecDepth 100000 in
set_option maxHeartbeats 8000000 in
theorem rParts_ev (l : List (List (BitVec 8))) (n cap : Nat) (b : List (BitVec 8)) (hl : l.length = n) (hn : n ≤ 9223372036854775807) (hb : b.length ≤ 9223372036854775807) : Ev Tryz.prog (.call 3 [.c (.sl 0 0 n cap 1), .c (.bs b)] [.row false (.ab l)]) (.val (.c (.val (.bool true))) [.row false (.ab l)]) := by
  have hH := heavy_ev l n cap hl hn
  generalize hq : hvR l = q at *
  cases q with
  | true =>
    refine c_call Tryz.func3 rfl Tryz.ntmps3 rfl LEN_ ?_
    refine S_ ?_
    refine c_region ?_
    refine s_val (v_assignC rfl) rfl ?_
    refine s_nil ?_
    refine S_ ?_
    refine c_region ?_
    first
      | refine s_val (v_moveC rfl) rfl ?_
      | refine s_val (v_moveA rfl) rfl ?_
      | refine s_val (v_moveT rfl) rfl ?_
    refine s_evN (e_callR (bs := [0]) (hH) ok_9 (by kernel_rfl) (by kernel_rfl) rfl VAL_) APP_ rfl ?_
    first
      | refine s_val (v_moveC rfl) rfl ?_
      | refine s_val (v_moveA rfl) rfl ?_
      | refine s_val (v_moveT rfl) rfl ?_
    first
      | refine s_go GOG_ ?_
        first
          | refine s_val (v_moveC rfl) rfl ?_
          | refine s_val (v_moveA rfl) rfl ?_
          | refine s_val (v_moveT rfl) rfl ?_
      | refine s_no GOG_ rfl ?_
    first
      | refine s_go GOG_ ?_
        first
          | refine s_val (v_lenS rfl Tryz.underlying23) rfl ?_
          | refine s_val (v_lenN rfl Tryz.underlying23) rfl ?_
          | refine s_val (v_lenE rfl Tryz.underlying23) rfl ?_
          | refine s_val (v_lenB rfl Tryz.underlying23 rfl) rfl ?_
          | refine s_val (v_lenZ rfl Tryz.underlying23 rfl) rfl ?_
      | refine s_no GOG_ rfl ?_
    first
      | refine s_go GOG_ ?_
        first
          | refine s_val (v_gtrN (b := 3000) rfl rfl) rfl ?_
          | refine s_val (v_gtrI rfl rfl) rfl ?_
      | refine s_no GOG_ rfl ?_
    first
      | refine s_val (v_pickT rfl PK_ rfl) rfl ?_
      | refine s_val (v_pickF rfl PK_ rfl) rfl ?_
      | refine s_val (v_pickOr rfl rfl rfl) rfl ?_
      | refine s_val (v_pickAnd rfl rfl rfl) rfl ?_
    refine s_nil ?_
    refine S_ ?_
    refine c_region ?_
    refine s_val (v_assignC rfl) rfl ?_
    refine s_nil ?_
    refine S_ ?_
    exact k_1 (by first | exact r_tmpC rfl | exact r_tmpA rfl) (by first | kernel_rfl | rfl)
  | false =>
    by_cases hb2 : 3000 < b.length
    · refine c_call Tryz.func3 rfl Tryz.ntmps3 rfl LEN_ ?_
      refine S_ ?_
      refine c_region ?_
      refine s_val (v_assignC rfl) rfl ?_
      refine s_nil ?_
      refine S_ ?_
      refine c_region ?_
      first
        | refine s_val (v_moveC rfl) rfl ?_
        | refine s_val (v_moveA rfl) rfl ?_
        | refine s_val (v_moveT rfl) rfl ?_
      refine s_evN (e_callR (bs := [0]) (hH) ok_9 (by kernel_rfl) (by kernel_rfl) rfl VAL_) APP_ rfl ?_
      first
        | refine s_val (v_moveC rfl) rfl ?_
        | refine s_val (v_moveA rfl) rfl ?_
        | refine s_val (v_moveT rfl) rfl ?_
      first
        | refine s_go GOG_ ?_
          first
            | refine s_val (v_moveC rfl) rfl ?_
            | refine s_val (v_moveA rfl) rfl ?_
            | refine s_val (v_moveT rfl) rfl ?_
        | refine s_no GOG_ rfl ?_
      first
        | refine s_go GOG_ ?_
          first
            | refine s_val (v_lenS rfl Tryz.underlying23) rfl ?_
            | refine s_val (v_lenN rfl Tryz.underlying23) rfl ?_
            | refine s_val (v_lenE rfl Tryz.underlying23) rfl ?_
            | refine s_val (v_lenB rfl Tryz.underlying23 rfl) rfl ?_
            | refine s_val (v_lenZ rfl Tryz.underlying23 rfl) rfl ?_
        | refine s_no GOG_ rfl ?_
      first
        | refine s_go GOG_ ?_
          first
            | refine s_val (v_gtrN (b := 3000) rfl rfl) rfl ?_
            | refine s_val (v_gtrI rfl rfl) rfl ?_
        | refine s_no GOG_ rfl ?_
      first
        | refine s_val (v_pickT rfl PK_ rfl) rfl ?_
        | refine s_val (v_pickF rfl PK_ rfl) rfl ?_
        | refine s_val (v_pickOr rfl rfl rfl) rfl ?_
        | refine s_val (v_pickAnd rfl rfl rfl) rfl ?_
      refine s_nil ?_
      refine S_ ?_
      refine c_region ?_
      refine s_val (v_assignC rfl) rfl ?_
      refine s_nil ?_
      refine S_ ?_
      exact k_1 (by first | exact r_tmpC rfl | exact r_tmpA rfl) (by first | kernel_rfl | rfl)
    unfold hvR hvA at hq
    rw [Bool.or_eq_false_iff, decide_eq_false_iff_not, List.any_eq_false] at hq
    have hn2 : n ≤ 200 := by omega
    have hx : ∀ x ∈ l, x.length ≤ 3000 := fun x hx => by
      have := hq.2 x hx
      rw [decide_eq_true_eq] at this
      omega
    clear hq
    have hT := twinRows_ev l n cap hl (by omega) (fun x h => by have := hx x h; omega)
    have hJ := joinR_ev l n n hl (by omega) (fun x h => by have := hx x h; omega)
    have hJ2 := rfJoinR_ev l n cap hl (by omega) (fun x h => by have := hx x h; omega)
    have hR := rows_ev l n n cap hl (by omega) (fun x h => by have := hx x h; omega)
    have hS := rlSplit_ev b (by omega)
    have hS2 := rfSplit_ev b (by omega)
    have hK := key_evB b (by omega)
    have hK2 := rfKey_evB b (by omega)
    have hkl : (sha256 b).length = 32 := sha256_len _
    have hB := bytes_ev (sha256 b) (sha256 b) 0 0 32 32 32 (by omega) (by omega) (by omega) (fun i _ => rfl)
    have hW := wakes_ev
    refine c_call Tryz.func3 rfl Tryz.ntmps3 rfl LEN_ ?_
    refine S_ ?_
    refine c_region ?_
    refine s_val (v_assignC rfl) rfl ?_
    refine s_nil ?_
    refine S_ ?_
    refine c_region ?_
    first
      | refine s_val (v_moveC rfl) rfl ?_
      | refine s_val (v_moveA rfl) rfl ?_
      | refine s_val (v_moveT rfl) rfl ?_
    refine s_evN (e_callR (bs := [0]) (hH) ok_9 (by kernel_rfl) (by kernel_rfl) rfl VAL_) APP_ rfl ?_
    first
      | refine s_val (v_moveC rfl) rfl ?_
      | refine s_val (v_moveA rfl) rfl ?_
      | refine s_val (v_moveT rfl) rfl ?_
    first
      | refine s_go GOG_ ?_
        first
          | refine s_val (v_moveC rfl) rfl ?_
          | refine s_val (v_moveA rfl) rfl ?_
          | refine s_val (v_moveT rfl) rfl ?_
      | refine s_no GOG_ rfl ?_
    first
      | refine s_go GOG_ ?_
        first
          | refine s_val (v_lenS rfl Tryz.underlying23) rfl ?_
          | refine s_val (v_lenN rfl Tryz.underlying23) rfl ?_
          | refine s_val (v_lenE rfl Tryz.underlying23) rfl ?_
          | refine s_val (v_lenB rfl Tryz.underlying23 rfl) rfl ?_
          | refine s_val (v_lenZ rfl Tryz.underlying23 rfl) rfl ?_
      | refine s_no GOG_ rfl ?_
    first
      | refine s_go GOG_ ?_
        first
          | refine s_val (v_gtrN (b := 3000) rfl rfl) rfl ?_
          | refine s_val (v_gtrI rfl rfl) rfl ?_
      | refine s_no GOG_ rfl ?_
    first
      | refine s_val (v_pickT rfl PK_ rfl) rfl ?_
      | refine s_val (v_pickF rfl PK_ rfl) rfl ?_
      | refine s_val (v_pickOr rfl rfl rfl) rfl ?_
      | refine s_val (v_pickAnd rfl rfl rfl) rfl ?_
    refine s_nil ?_
    refine S_ ?_
    refine c_region ?_
    first
      | refine s_val (v_moveC rfl) rfl ?_
      | refine s_val (v_moveA rfl) rfl ?_
      | refine s_val (v_moveT rfl) rfl ?_
    refine s_evN (e_callR (bs := [0]) (hT) ok_10 (by kernel_rfl) (by kernel_rfl) rfl VAL_) APP_ rfl ?_
    first
      | refine s_val (v_assignC rfl) rfl ?_
      | refine s_val (v_assignA rfl) rfl ?_
      | refine s_val (v_assignT rfl) rfl ?_
    refine s_nil ?_
    rcases jnR_two l with ⟨hj, hjl⟩ | hj
    · rw [hj] at hJ hJ2
      have hjn := jn_len l
      have hS1 := rlSplit_ev (jn l) (by omega)
      rw [show spR (jn l) = (l, 0) from spR_some (by omega) (sp_jn l hjl), hl] at hS1
      dsimp only at hJ hJ2 hS1
      generalize jn l = J at *
      refine S_ ?_
      refine c_region ?_
      first
        | refine s_val (v_moveC rfl) rfl ?_
        | refine s_val (v_moveA rfl) rfl ?_
        | refine s_val (v_moveT rfl) rfl ?_
      refine s_evN (e_callR (bs := [1]) (hJ) ok_11 (by kernel_rfl) (by kernel_rfl) rfl VAL_) APP_ rfl ?_
      first
        | refine s_val (v_moveC rfl) rfl ?_
        | refine s_val (v_moveA rfl) rfl ?_
        | refine s_val (v_moveT rfl) rfl ?_
      refine s_val (v_extract rfl rfl) rfl ?_
      refine s_val (v_extract rfl rfl) rfl ?_
      first
        | refine s_val (v_assignC rfl) rfl ?_
        | refine s_val (v_assignA rfl) rfl ?_
        | refine s_val (v_assignT rfl) rfl ?_
      first
        | refine s_val (v_assignC rfl) rfl ?_
        | refine s_val (v_assignA rfl) rfl ?_
        | refine s_val (v_assignT rfl) rfl ?_
      refine s_nil ?_
      refine S_ ?_
      refine c_region ?_
      first
        | refine s_val (v_moveC rfl) rfl ?_
        | refine s_val (v_moveA rfl) rfl ?_
        | refine s_val (v_moveT rfl) rfl ?_
      refine s_evN (e_callR (bs := [0]) (hJ2) ok_12 (by kernel_rfl) (by kernel_rfl) rfl VAL_) APP_ rfl ?_
      first
        | refine s_val (v_moveC rfl) rfl ?_
        | refine s_val (v_moveA rfl) rfl ?_
        | refine s_val (v_moveT rfl) rfl ?_
      refine s_val (v_extract rfl rfl) rfl ?_
      refine s_val (v_extract rfl rfl) rfl ?_
      first
        | refine s_val (v_assignC rfl) rfl ?_
        | refine s_val (v_assignA rfl) rfl ?_
        | refine s_val (v_assignT rfl) rfl ?_
      first
        | refine s_val (v_assignC rfl) rfl ?_
        | refine s_val (v_assignA rfl) rfl ?_
        | refine s_val (v_assignT rfl) rfl ?_
      refine s_nil ?_
      refine S_ ?_
      refine c_region ?_
      first
        | refine s_val (v_moveC rfl) rfl ?_
        | refine s_val (v_moveA rfl) rfl ?_
        | refine s_val (v_moveT rfl) rfl ?_
      first
        | refine s_val (v_moveC rfl) rfl ?_
        | refine s_val (v_moveA rfl) rfl ?_
        | refine s_val (v_moveT rfl) rfl ?_
      first
        | refine s_val (v_eqlN (b := 0) rfl rfl) rfl ?_
        | refine s_val (v_eqlD rfl rfl) rfl ?_
      refine s_val (v_neqB rfl rfl Tryz.underlying4) rfl ?_
      first
        | refine s_val (v_moveC rfl) rfl ?_
        | refine s_val (v_moveA rfl) rfl ?_
        | refine s_val (v_moveT rfl) rfl ?_
      first
        | refine s_go GOG_ ?_
          first
            | refine s_val (v_moveC rfl) rfl ?_
            | refine s_val (v_moveA rfl) rfl ?_
            | refine s_val (v_moveT rfl) rfl ?_
        | refine s_no GOG_ rfl ?_
      first
        | refine s_go GOG_ ?_
          first
            | refine s_val (v_moveC rfl) rfl ?_
            | refine s_val (v_moveA rfl) rfl ?_
            | refine s_val (v_moveT rfl) rfl ?_
        | refine s_no GOG_ rfl ?_
      first
        | refine s_go GOG_ ?_
          refine s_evN (e_callR (bs := []) (keepB_ev J (by omega)) ok_13 (by kernel_rfl) (by kernel_rfl) rfl VAL_) APP_ rfl ?_
        | refine s_no GOG_ rfl ?_
      first
        | refine s_go GOG_ ?_
          refine s_val (v_unnotB rfl) rfl ?_
        | refine s_no GOG_ rfl ?_
      first
        | refine s_val (v_pickT rfl PK_ rfl) rfl ?_
        | refine s_val (v_pickF rfl PK_ rfl) rfl ?_
        | refine s_val (v_pickOr rfl rfl rfl) rfl ?_
        | refine s_val (v_pickAnd rfl rfl rfl) rfl ?_
      first
        | refine s_val (v_moveC rfl) rfl ?_
        | refine s_val (v_moveA rfl) rfl ?_
        | refine s_val (v_moveT rfl) rfl ?_
      first
        | refine s_go GOG_ ?_
          first
            | refine s_val (v_moveC rfl) rfl ?_
            | refine s_val (v_moveA rfl) rfl ?_
            | refine s_val (v_moveT rfl) rfl ?_
        | refine s_no GOG_ rfl ?_
      first
        | refine s_go GOG_ ?_
          refine s_val (v_unnotB rfl) rfl ?_
        | refine s_no GOG_ rfl ?_
      first
        | refine s_go GOG_ ?_
          first
            | refine s_val (v_moveC rfl) rfl ?_
            | refine s_val (v_moveA rfl) rfl ?_
            | refine s_val (v_moveT rfl) rfl ?_
        | refine s_no GOG_ rfl ?_
      first
        | refine s_go GOG_ ?_
          first
            | refine s_val (v_moveC rfl) rfl ?_
            | refine s_val (v_moveA rfl) rfl ?_
            | refine s_val (v_moveT rfl) rfl ?_
        | refine s_no GOG_ rfl ?_
      first
        | refine s_go GOG_ ?_
          first
            | refine s_val (v_neqN (b := 2) rfl rfl) rfl ?_
            | refine s_val (v_neqD rfl rfl) rfl ?_
        | refine s_no GOG_ rfl ?_
      first
        | refine s_go GOG_ ?_
          first
            | refine s_val (v_pickT rfl PK_ rfl) rfl ?_
            | refine s_val (v_pickF rfl PK_ rfl) rfl ?_
            | refine s_val (v_pickOr rfl rfl rfl) rfl ?_
            | refine s_val (v_pickAnd rfl rfl rfl) rfl ?_
        | refine s_no GOG_ rfl ?_
      first
        | refine s_val (v_pickT rfl PK_ rfl) rfl ?_
        | refine s_val (v_pickF rfl PK_ rfl) rfl ?_
        | refine s_val (v_pickOr rfl rfl rfl) rfl ?_
        | refine s_val (v_pickAnd rfl rfl rfl) rfl ?_
      first
        | refine s_val (v_moveC rfl) rfl ?_
        | refine s_val (v_moveA rfl) rfl ?_
        | refine s_val (v_moveT rfl) rfl ?_
      first
        | refine s_go GOG_ ?_
          first
            | refine s_val (v_moveC rfl) rfl ?_
            | refine s_val (v_moveA rfl) rfl ?_
            | refine s_val (v_moveT rfl) rfl ?_
        | refine s_no GOG_ rfl ?_
      first
        | refine s_go GOG_ ?_
          first
            | refine s_val (v_moveC rfl) rfl ?_
            | refine s_val (v_moveA rfl) rfl ?_
            | refine s_val (v_moveT rfl) rfl ?_
        | refine s_no GOG_ rfl ?_
      first
        | refine s_go GOG_ ?_
          refine s_evN (e_callR (bs := [1,0]) (hR) ok_14 (by kernel_rfl) (by kernel_rfl) rfl VAL_) APP_ rfl ?_
        | refine s_no GOG_ rfl ?_
      first
        | refine s_go GOG_ ?_
          refine s_val (v_unnotB rfl) rfl ?_
        | refine s_no GOG_ rfl ?_
      first
        | refine s_val (v_pickT rfl PK_ rfl) rfl ?_
        | refine s_val (v_pickF rfl PK_ rfl) rfl ?_
        | refine s_val (v_pickOr rfl rfl rfl) rfl ?_
        | refine s_val (v_pickAnd rfl rfl rfl) rfl ?_
      refine s_nil ?_
      refine S_ ?_
      refine c_region ?_
      first
        | refine s_val (v_moveC rfl) rfl ?_
        | refine s_val (v_moveA rfl) rfl ?_
        | refine s_val (v_moveT rfl) rfl ?_
      refine s_nil ?_
      refine S_ ?_
      refine c_region ?_
      first
        | refine s_val (v_moveC rfl) rfl ?_
        | refine s_val (v_moveA rfl) rfl ?_
        | refine s_val (v_moveT rfl) rfl ?_
      refine s_evN (e_callR (bs := []) (hS1) ok_15 (by kernel_rfl) (by kernel_rfl) rfl VAL_) APP_ rfl ?_
      first
        | refine s_val (v_moveC rfl) rfl ?_
        | refine s_val (v_moveA rfl) rfl ?_
        | refine s_val (v_moveT rfl) rfl ?_
      refine s_val (v_extract rfl rfl) rfl ?_
      refine s_val (v_extract rfl rfl) rfl ?_
      first
        | refine s_val (v_assignC rfl) rfl ?_
        | refine s_val (v_assignA rfl) rfl ?_
        | refine s_val (v_assignT rfl) rfl ?_
      first
        | refine s_val (v_assignC rfl) rfl ?_
        | refine s_val (v_assignA rfl) rfl ?_
        | refine s_val (v_assignT rfl) rfl ?_
      refine s_nil ?_
      refine S_ ?_
      refine c_region ?_
      first
        | refine s_val (v_moveC rfl) rfl ?_
        | refine s_val (v_moveA rfl) rfl ?_
        | refine s_val (v_moveT rfl) rfl ?_
      first
        | refine s_val (v_neqN (b := 0) rfl rfl) rfl ?_
        | refine s_val (v_neqD rfl rfl) rfl ?_
      first
        | refine s_val (v_moveC rfl) rfl ?_
        | refine s_val (v_moveA rfl) rfl ?_
        | refine s_val (v_moveT rfl) rfl ?_
      first
        | refine s_go GOG_ ?_
          first
            | refine s_val (v_moveC rfl) rfl ?_
            | refine s_val (v_moveA rfl) rfl ?_
            | refine s_val (v_moveT rfl) rfl ?_
        | refine s_no GOG_ rfl ?_
      first
        | refine s_go GOG_ ?_
          first
            | refine s_val (v_moveC rfl) rfl ?_
            | refine s_val (v_moveA rfl) rfl ?_
            | refine s_val (v_moveT rfl) rfl ?_
        | refine s_no GOG_ rfl ?_
      first
        | refine s_go GOG_ ?_
          refine s_evN (e_callR (bs := [2,0]) (hR) ok_14 (by kernel_rfl) (by kernel_rfl) rfl VAL_) APP_ rfl ?_
        | refine s_no GOG_ rfl ?_
      first
        | refine s_go GOG_ ?_
          refine s_val (v_unnotB rfl) rfl ?_
        | refine s_no GOG_ rfl ?_
      first
        | refine s_val (v_pickT rfl PK_ rfl) rfl ?_
        | refine s_val (v_pickF rfl PK_ rfl) rfl ?_
        | refine s_val (v_pickOr rfl rfl rfl) rfl ?_
        | refine s_val (v_pickAnd rfl rfl rfl) rfl ?_
      refine s_nil ?_
      rcases spR_two b with ⟨y, hy, hy1, hy2, hy3⟩ | hy
      · rw [hy] at hS hS2
        have hyc := jl_count y
        have hj : jnR y = (b, 0) := by
          unfold jnR
          rw [if_pos (by omega), hy1]
        have hJy := joinR_ev y y.length y.length rfl (by omega) (fun x h => by have := hy3 x h; omega)
        rw [hj] at hJy
        have hRy := rows_ev y y.length y.length y.length rfl (by omega) (fun x h => by have := hy3 x h; omega)
        dsimp only at hS hS2 hJy
        generalize y.length = m at *
        refine S_ ?_
        refine c_region ?_
        first
          | refine s_val (v_moveC rfl) rfl ?_
          | refine s_val (v_moveA rfl) rfl ?_
          | refine s_val (v_moveT rfl) rfl ?_
        refine s_evN (e_callR (bs := []) (hS) ok_15 (by kernel_rfl) (by kernel_rfl) rfl VAL_) APP_ rfl ?_
        first
          | refine s_val (v_moveC rfl) rfl ?_
          | refine s_val (v_moveA rfl) rfl ?_
          | refine s_val (v_moveT rfl) rfl ?_
        refine s_val (v_extract rfl rfl) rfl ?_
        refine s_val (v_extract rfl rfl) rfl ?_
        first
          | refine s_val (v_assignC rfl) rfl ?_
          | refine s_val (v_assignA rfl) rfl ?_
          | refine s_val (v_assignT rfl) rfl ?_
        first
          | refine s_val (v_assignC rfl) rfl ?_
          | refine s_val (v_assignA rfl) rfl ?_
          | refine s_val (v_assignT rfl) rfl ?_
        refine s_nil ?_
        refine S_ ?_
        refine c_region ?_
        first
          | refine s_val (v_moveC rfl) rfl ?_
          | refine s_val (v_moveA rfl) rfl ?_
          | refine s_val (v_moveT rfl) rfl ?_
        refine s_evN (e_callR (bs := []) (hS2) ok_16 (by kernel_rfl) (by kernel_rfl) rfl VAL_) APP_ rfl ?_
        first
          | refine s_val (v_moveC rfl) rfl ?_
          | refine s_val (v_moveA rfl) rfl ?_
          | refine s_val (v_moveT rfl) rfl ?_
        refine s_val (v_extract rfl rfl) rfl ?_
        refine s_val (v_extract rfl rfl) rfl ?_
        first
          | refine s_val (v_assignC rfl) rfl ?_
          | refine s_val (v_assignA rfl) rfl ?_
          | refine s_val (v_assignT rfl) rfl ?_
        first
          | refine s_val (v_assignC rfl) rfl ?_
          | refine s_val (v_assignA rfl) rfl ?_
          | refine s_val (v_assignT rfl) rfl ?_
        refine s_nil ?_
        refine S_ ?_
        refine c_region ?_
        first
          | refine s_val (v_moveC rfl) rfl ?_
          | refine s_val (v_moveA rfl) rfl ?_
          | refine s_val (v_moveT rfl) rfl ?_
        first
          | refine s_val (v_moveC rfl) rfl ?_
          | refine s_val (v_moveA rfl) rfl ?_
          | refine s_val (v_moveT rfl) rfl ?_
        first
          | refine s_val (v_eqlN (b := 0) rfl rfl) rfl ?_
          | refine s_val (v_eqlD rfl rfl) rfl ?_
        refine s_val (v_neqB rfl rfl Tryz.underlying4) rfl ?_
        first
          | refine s_val (v_moveC rfl) rfl ?_
          | refine s_val (v_moveA rfl) rfl ?_
          | refine s_val (v_moveT rfl) rfl ?_
        first
          | refine s_go GOG_ ?_
            first
              | refine s_val (v_moveC rfl) rfl ?_
              | refine s_val (v_moveA rfl) rfl ?_
              | refine s_val (v_moveT rfl) rfl ?_
          | refine s_no GOG_ rfl ?_
        first
          | refine s_go GOG_ ?_
            first
              | refine s_val (v_moveC rfl) rfl ?_
              | refine s_val (v_moveA rfl) rfl ?_
              | refine s_val (v_moveT rfl) rfl ?_
          | refine s_no GOG_ rfl ?_
        first
          | refine s_go GOG_ ?_
            refine s_evN (e_callR (bs := [3,4]) (hRy) ok_14 (by kernel_rfl) (by kernel_rfl) rfl VAL_) APP_ rfl ?_
          | refine s_no GOG_ rfl ?_
        first
          | refine s_go GOG_ ?_
            refine s_val (v_unnotB rfl) rfl ?_
          | refine s_no GOG_ rfl ?_
        first
          | refine s_val (v_pickT rfl PK_ rfl) rfl ?_
          | refine s_val (v_pickF rfl PK_ rfl) rfl ?_
          | refine s_val (v_pickOr rfl rfl rfl) rfl ?_
          | refine s_val (v_pickAnd rfl rfl rfl) rfl ?_
        first
          | refine s_val (v_moveC rfl) rfl ?_
          | refine s_val (v_moveA rfl) rfl ?_
          | refine s_val (v_moveT rfl) rfl ?_
        first
          | refine s_go GOG_ ?_
            first
              | refine s_val (v_moveC rfl) rfl ?_
              | refine s_val (v_moveA rfl) rfl ?_
              | refine s_val (v_moveT rfl) rfl ?_
          | refine s_no GOG_ rfl ?_
        first
          | refine s_go GOG_ ?_
            refine s_val (v_unnotB rfl) rfl ?_
          | refine s_no GOG_ rfl ?_
        first
          | refine s_go GOG_ ?_
            first
              | refine s_val (v_moveC rfl) rfl ?_
              | refine s_val (v_moveA rfl) rfl ?_
              | refine s_val (v_moveT rfl) rfl ?_
          | refine s_no GOG_ rfl ?_
        first
          | refine s_go GOG_ ?_
            first
              | refine s_val (v_moveC rfl) rfl ?_
              | refine s_val (v_moveA rfl) rfl ?_
              | refine s_val (v_moveT rfl) rfl ?_
          | refine s_no GOG_ rfl ?_
        first
          | refine s_go GOG_ ?_
            first
              | refine s_val (v_neqN (b := 2) rfl rfl) rfl ?_
              | refine s_val (v_neqD rfl rfl) rfl ?_
          | refine s_no GOG_ rfl ?_
        first
          | refine s_go GOG_ ?_
            first
              | refine s_val (v_pickT rfl PK_ rfl) rfl ?_
              | refine s_val (v_pickF rfl PK_ rfl) rfl ?_
              | refine s_val (v_pickOr rfl rfl rfl) rfl ?_
              | refine s_val (v_pickAnd rfl rfl rfl) rfl ?_
          | refine s_no GOG_ rfl ?_
        first
          | refine s_val (v_pickT rfl PK_ rfl) rfl ?_
          | refine s_val (v_pickF rfl PK_ rfl) rfl ?_
          | refine s_val (v_pickOr rfl rfl rfl) rfl ?_
          | refine s_val (v_pickAnd rfl rfl rfl) rfl ?_
        refine s_nil ?_
        refine S_ ?_
        refine c_region ?_
        first
          | refine s_val (v_moveC rfl) rfl ?_
          | refine s_val (v_moveA rfl) rfl ?_
          | refine s_val (v_moveT rfl) rfl ?_
        refine s_nil ?_
        refine S_ ?_
        refine c_region ?_
        first
          | refine s_val (v_moveC rfl) rfl ?_
          | refine s_val (v_moveA rfl) rfl ?_
          | refine s_val (v_moveT rfl) rfl ?_
        refine s_evN (e_callR (bs := [3]) (hJy) ok_11 (by kernel_rfl) (by kernel_rfl) rfl VAL_) APP_ rfl ?_
        first
          | refine s_val (v_moveC rfl) rfl ?_
          | refine s_val (v_moveA rfl) rfl ?_
          | refine s_val (v_moveT rfl) rfl ?_
        refine s_val (v_extract rfl rfl) rfl ?_
        refine s_val (v_extract rfl rfl) rfl ?_
        first
          | refine s_val (v_assignC rfl) rfl ?_
          | refine s_val (v_assignA rfl) rfl ?_
          | refine s_val (v_assignT rfl) rfl ?_
        first
          | refine s_val (v_assignC rfl) rfl ?_
          | refine s_val (v_assignA rfl) rfl ?_
          | refine s_val (v_assignT rfl) rfl ?_
        refine s_nil ?_
        refine S_ ?_
        refine c_region ?_
        first
          | refine s_val (v_moveC rfl) rfl ?_
          | refine s_val (v_moveA rfl) rfl ?_
          | refine s_val (v_moveT rfl) rfl ?_
        first
          | refine s_val (v_neqN (b := 0) rfl rfl) rfl ?_
          | refine s_val (v_neqD rfl rfl) rfl ?_
        first
          | refine s_val (v_moveC rfl) rfl ?_
          | refine s_val (v_moveA rfl) rfl ?_
          | refine s_val (v_moveT rfl) rfl ?_
        first
          | refine s_go GOG_ ?_
            first
              | refine s_val (v_moveC rfl) rfl ?_
              | refine s_val (v_moveA rfl) rfl ?_
              | refine s_val (v_moveT rfl) rfl ?_
          | refine s_no GOG_ rfl ?_
        first
          | refine s_go GOG_ ?_
            first
              | refine s_val (v_moveC rfl) rfl ?_
              | refine s_val (v_moveA rfl) rfl ?_
              | refine s_val (v_moveT rfl) rfl ?_
          | refine s_no GOG_ rfl ?_
        first
          | refine s_go GOG_ ?_
            refine s_evN (e_callR (bs := []) (keepB_ev b (by omega)) ok_13 (by kernel_rfl) (by kernel_rfl) rfl VAL_) APP_ rfl ?_
          | refine s_no GOG_ rfl ?_
        first
          | refine s_go GOG_ ?_
            refine s_val (v_unnotB rfl) rfl ?_
          | refine s_no GOG_ rfl ?_
        first
          | refine s_val (v_pickT rfl PK_ rfl) rfl ?_
          | refine s_val (v_pickF rfl PK_ rfl) rfl ?_
          | refine s_val (v_pickOr rfl rfl rfl) rfl ?_
          | refine s_val (v_pickAnd rfl rfl rfl) rfl ?_
        refine s_nil ?_
        refine S_ ?_
        refine c_region ?_
        first
          | refine s_val (v_moveC rfl) rfl ?_
          | refine s_val (v_moveA rfl) rfl ?_
          | refine s_val (v_moveT rfl) rfl ?_
        refine s_evN (e_callR (bs := []) (hK) ok_17 (by kernel_rfl) (by kernel_rfl) rfl VAL_) APP_ rfl ?_
        first
          | refine s_val (v_moveC rfl) rfl ?_
          | refine s_val (v_moveA rfl) rfl ?_
          | refine s_val (v_moveT rfl) rfl ?_
        refine s_evN (e_callR (bs := []) (hK2) ok_18 (by kernel_rfl) (by kernel_rfl) rfl VAL_) APP_ rfl ?_
        refine s_memN (m_alloc al_37 LEN_) APP_ rfl ?_
        refine s_memN (m_alloc al_37 LEN_) APP_ rfl ?_
        refine s_storeR rfl rfl rfl rfl sz_37 EQ_ EQ_ SET_ ?_
        refine s_storeR rfl rfl rfl rfl sz_37 EQ_ EQ_ SET_ ?_
        refine s_nil ?_
        refine S_ ?_
        refine c_draw 7 mixed (by kernel_rfl) rfl rfl rfl ?_
        first
          | refine h_val (v_slA1 (l := 0) (h := 32) (len := 32) (cp := 32) rfl Tryz.underlying37 sz_5 rfl rfl rfl (by omega) (by omega) FIT_ rfl rfl) rfl ?_
          | refine h_val (v_slA (l := 0) (h := 32) rfl Tryz.underlying37 sz_5 rfl rfl rfl (by omega) (by omega) FIT_) rfl ?_
        first
          | refine h_val (v_slA1 (l := 0) (h := 32) (len := 32) (cp := 32) rfl Tryz.underlying37 sz_5 rfl rfl rfl (by omega) (by omega) FIT_ rfl rfl) rfl ?_
          | refine h_val (v_slA (l := 0) (h := 32) rfl Tryz.underlying37 sz_5 rfl rfl rfl (by omega) (by omega) FIT_) rfl ?_
        refine h_evN (e_callR (bs := [5,6]) (hB) ok_13 (by kernel_rfl) (by kernel_rfl) rfl VAL_) APP_ rfl ?_
        first
          | refine h_val (v_moveC rfl) rfl ?_
          | refine h_val (v_moveA rfl) rfl ?_
          | refine h_val (v_moveT rfl) rfl ?_
        first
          | refine h_go GOG_ ?_
            refine h_evN (e_callR (bs := []) (hW) ok_19 (by kernel_rfl) (by kernel_rfl) rfl VAL_) APP_ rfl ?_
          | refine h_no GOG_ ?_
        first
          | refine h_val (v_pickT rfl PK_ rfl) rfl ?_
          | refine h_val (v_pickF rfl PK_ rfl) rfl ?_
          | refine h_val (v_pickOr rfl rfl rfl) rfl ?_
          | refine h_val (v_pickAnd rfl rfl rfl) rfl ?_
        first
          | refine h_val (v_assignC rfl) rfl ?_
          | refine h_val (v_assignA rfl) rfl ?_
          | refine h_val (v_assignT rfl) rfl ?_
        refine h_nil ?_
        refine s_nil ?_
        refine S_ ?_
        exact k_1 (by first | exact r_tmpC rfl | exact r_tmpA rfl) (by first | kernel_rfl | rfl)
      · rw [hy] at hS hS2
        have hRy := rows_ev [] 0 0 0 rfl (by decide) (fun x h => by cases h)
        dsimp only [List.length] at hS hS2
        refine S_ ?_
        refine c_region ?_
        first
          | refine s_val (v_moveC rfl) rfl ?_
          | refine s_val (v_moveA rfl) rfl ?_
          | refine s_val (v_moveT rfl) rfl ?_
        refine s_evN (e_callR (bs := []) (hS) ok_15 (by kernel_rfl) (by kernel_rfl) rfl VAL_) APP_ rfl ?_
        first
          | refine s_val (v_moveC rfl) rfl ?_
          | refine s_val (v_moveA rfl) rfl ?_
          | refine s_val (v_moveT rfl) rfl ?_
        refine s_val (v_extract rfl rfl) rfl ?_
        refine s_val (v_extract rfl rfl) rfl ?_
        first
          | refine s_val (v_assignC rfl) rfl ?_
          | refine s_val (v_assignA rfl) rfl ?_
          | refine s_val (v_assignT rfl) rfl ?_
        first
          | refine s_val (v_assignC rfl) rfl ?_
          | refine s_val (v_assignA rfl) rfl ?_
          | refine s_val (v_assignT rfl) rfl ?_
        refine s_nil ?_
        refine S_ ?_
        refine c_region ?_
        first
          | refine s_val (v_moveC rfl) rfl ?_
          | refine s_val (v_moveA rfl) rfl ?_
          | refine s_val (v_moveT rfl) rfl ?_
        refine s_evN (e_callR (bs := []) (hS2) ok_16 (by kernel_rfl) (by kernel_rfl) rfl VAL_) APP_ rfl ?_
        first
          | refine s_val (v_moveC rfl) rfl ?_
          | refine s_val (v_moveA rfl) rfl ?_
          | refine s_val (v_moveT rfl) rfl ?_
        refine s_val (v_extract rfl rfl) rfl ?_
        refine s_val (v_extract rfl rfl) rfl ?_
        first
          | refine s_val (v_assignC rfl) rfl ?_
          | refine s_val (v_assignA rfl) rfl ?_
          | refine s_val (v_assignT rfl) rfl ?_
        first
          | refine s_val (v_assignC rfl) rfl ?_
          | refine s_val (v_assignA rfl) rfl ?_
          | refine s_val (v_assignT rfl) rfl ?_
        refine s_nil ?_
        refine S_ ?_
        refine c_region ?_
        first
          | refine s_val (v_moveC rfl) rfl ?_
          | refine s_val (v_moveA rfl) rfl ?_
          | refine s_val (v_moveT rfl) rfl ?_
        first
          | refine s_val (v_moveC rfl) rfl ?_
          | refine s_val (v_moveA rfl) rfl ?_
          | refine s_val (v_moveT rfl) rfl ?_
        first
          | refine s_val (v_eqlN (b := 0) rfl rfl) rfl ?_
          | refine s_val (v_eqlD rfl rfl) rfl ?_
        refine s_val (v_neqB rfl rfl Tryz.underlying4) rfl ?_
        first
          | refine s_val (v_moveC rfl) rfl ?_
          | refine s_val (v_moveA rfl) rfl ?_
          | refine s_val (v_moveT rfl) rfl ?_
        first
          | refine s_go GOG_ ?_
            first
              | refine s_val (v_moveC rfl) rfl ?_
              | refine s_val (v_moveA rfl) rfl ?_
              | refine s_val (v_moveT rfl) rfl ?_
          | refine s_no GOG_ rfl ?_
        first
          | refine s_go GOG_ ?_
            first
              | refine s_val (v_moveC rfl) rfl ?_
              | refine s_val (v_moveA rfl) rfl ?_
              | refine s_val (v_moveT rfl) rfl ?_
          | refine s_no GOG_ rfl ?_
        first
          | refine s_go GOG_ ?_
            refine s_evN (e_callR (bs := [3,4]) (hRy) ok_14 (by kernel_rfl) (by kernel_rfl) rfl VAL_) APP_ rfl ?_
          | refine s_no GOG_ rfl ?_
        first
          | refine s_go GOG_ ?_
            refine s_val (v_unnotB rfl) rfl ?_
          | refine s_no GOG_ rfl ?_
        first
          | refine s_val (v_pickT rfl PK_ rfl) rfl ?_
          | refine s_val (v_pickF rfl PK_ rfl) rfl ?_
          | refine s_val (v_pickOr rfl rfl rfl) rfl ?_
          | refine s_val (v_pickAnd rfl rfl rfl) rfl ?_
        first
          | refine s_val (v_moveC rfl) rfl ?_
          | refine s_val (v_moveA rfl) rfl ?_
          | refine s_val (v_moveT rfl) rfl ?_
        first
          | refine s_go GOG_ ?_
            first
              | refine s_val (v_moveC rfl) rfl ?_
              | refine s_val (v_moveA rfl) rfl ?_
              | refine s_val (v_moveT rfl) rfl ?_
          | refine s_no GOG_ rfl ?_
        first
          | refine s_go GOG_ ?_
            refine s_val (v_unnotB rfl) rfl ?_
          | refine s_no GOG_ rfl ?_
        first
          | refine s_go GOG_ ?_
            first
              | refine s_val (v_moveC rfl) rfl ?_
              | refine s_val (v_moveA rfl) rfl ?_
              | refine s_val (v_moveT rfl) rfl ?_
          | refine s_no GOG_ rfl ?_
        first
          | refine s_go GOG_ ?_
            first
              | refine s_val (v_moveC rfl) rfl ?_
              | refine s_val (v_moveA rfl) rfl ?_
              | refine s_val (v_moveT rfl) rfl ?_
          | refine s_no GOG_ rfl ?_
        first
          | refine s_go GOG_ ?_
            first
              | refine s_val (v_neqN (b := 2) rfl rfl) rfl ?_
              | refine s_val (v_neqD rfl rfl) rfl ?_
          | refine s_no GOG_ rfl ?_
        first
          | refine s_go GOG_ ?_
            first
              | refine s_val (v_pickT rfl PK_ rfl) rfl ?_
              | refine s_val (v_pickF rfl PK_ rfl) rfl ?_
              | refine s_val (v_pickOr rfl rfl rfl) rfl ?_
              | refine s_val (v_pickAnd rfl rfl rfl) rfl ?_
          | refine s_no GOG_ rfl ?_
        first
          | refine s_val (v_pickT rfl PK_ rfl) rfl ?_
          | refine s_val (v_pickF rfl PK_ rfl) rfl ?_
          | refine s_val (v_pickOr rfl rfl rfl) rfl ?_
          | refine s_val (v_pickAnd rfl rfl rfl) rfl ?_
        refine s_nil ?_
        refine S_ ?_
        refine c_region ?_
        first
          | refine s_val (v_moveC rfl) rfl ?_
          | refine s_val (v_moveA rfl) rfl ?_
          | refine s_val (v_moveT rfl) rfl ?_
        refine s_nil ?_
        refine S_ ?_
        refine c_region ?_
        first
          | refine s_val (v_moveC rfl) rfl ?_
          | refine s_val (v_moveA rfl) rfl ?_
          | refine s_val (v_moveT rfl) rfl ?_
        refine s_evN (e_callR (bs := []) (hK) ok_17 (by kernel_rfl) (by kernel_rfl) rfl VAL_) APP_ rfl ?_
        first
          | refine s_val (v_moveC rfl) rfl ?_
          | refine s_val (v_moveA rfl) rfl ?_
          | refine s_val (v_moveT rfl) rfl ?_
        refine s_evN (e_callR (bs := []) (hK2) ok_18 (by kernel_rfl) (by kernel_rfl) rfl VAL_) APP_ rfl ?_
        refine s_memN (m_alloc al_37 LEN_) APP_ rfl ?_
        refine s_memN (m_alloc al_37 LEN_) APP_ rfl ?_
        refine s_storeR rfl rfl rfl rfl sz_37 EQ_ EQ_ SET_ ?_
        refine s_storeR rfl rfl rfl rfl sz_37 EQ_ EQ_ SET_ ?_
        refine s_nil ?_
        refine S_ ?_
        refine c_draw 7 mixed (by kernel_rfl) rfl rfl rfl ?_
        first
          | refine h_val (v_slA1 (l := 0) (h := 32) (len := 32) (cp := 32) rfl Tryz.underlying37 sz_5 rfl rfl rfl (by omega) (by omega) FIT_ rfl rfl) rfl ?_
          | refine h_val (v_slA (l := 0) (h := 32) rfl Tryz.underlying37 sz_5 rfl rfl rfl (by omega) (by omega) FIT_) rfl ?_
        first
          | refine h_val (v_slA1 (l := 0) (h := 32) (len := 32) (cp := 32) rfl Tryz.underlying37 sz_5 rfl rfl rfl (by omega) (by omega) FIT_ rfl rfl) rfl ?_
          | refine h_val (v_slA (l := 0) (h := 32) rfl Tryz.underlying37 sz_5 rfl rfl rfl (by omega) (by omega) FIT_) rfl ?_
        refine h_evN (e_callR (bs := [5,6]) (hB) ok_13 (by kernel_rfl) (by kernel_rfl) rfl VAL_) APP_ rfl ?_
        first
          | refine h_val (v_moveC rfl) rfl ?_
          | refine h_val (v_moveA rfl) rfl ?_
          | refine h_val (v_moveT rfl) rfl ?_
        first
          | refine h_go GOG_ ?_
            refine h_evN (e_callR (bs := []) (hW) ok_19 (by kernel_rfl) (by kernel_rfl) rfl VAL_) APP_ rfl ?_
          | refine h_no GOG_ ?_
        first
          | refine h_val (v_pickT rfl PK_ rfl) rfl ?_
          | refine h_val (v_pickF rfl PK_ rfl) rfl ?_
          | refine h_val (v_pickOr rfl rfl rfl) rfl ?_
          | refine h_val (v_pickAnd rfl rfl rfl) rfl ?_
        first
          | refine h_val (v_assignC rfl) rfl ?_
          | refine h_val (v_assignA rfl) rfl ?_
          | refine h_val (v_assignT rfl) rfl ?_
        refine h_nil ?_
        refine s_nil ?_
        refine S_ ?_
        exact k_1 (by first | exact r_tmpC rfl | exact r_tmpA rfl) (by first | kernel_rfl | rfl)
    · rw [hj] at hJ hJ2
      dsimp only at hJ hJ2
      refine S_ ?_
      refine c_region ?_
      first
        | refine s_val (v_moveC rfl) rfl ?_
        | refine s_val (v_moveA rfl) rfl ?_
        | refine s_val (v_moveT rfl) rfl ?_
      refine s_evN (e_callR (bs := [1]) (hJ) ok_11 (by kernel_rfl) (by kernel_rfl) rfl VAL_) APP_ rfl ?_
      first
        | refine s_val (v_moveC rfl) rfl ?_
        | refine s_val (v_moveA rfl) rfl ?_
        | refine s_val (v_moveT rfl) rfl ?_
      refine s_val (v_extract rfl rfl) rfl ?_
      refine s_val (v_extract rfl rfl) rfl ?_
      first
        | refine s_val (v_assignC rfl) rfl ?_
        | refine s_val (v_assignA rfl) rfl ?_
        | refine s_val (v_assignT rfl) rfl ?_
      first
        | refine s_val (v_assignC rfl) rfl ?_
        | refine s_val (v_assignA rfl) rfl ?_
        | refine s_val (v_assignT rfl) rfl ?_
      refine s_nil ?_
      refine S_ ?_
      refine c_region ?_
      first
        | refine s_val (v_moveC rfl) rfl ?_
        | refine s_val (v_moveA rfl) rfl ?_
        | refine s_val (v_moveT rfl) rfl ?_
      refine s_evN (e_callR (bs := [0]) (hJ2) ok_12 (by kernel_rfl) (by kernel_rfl) rfl VAL_) APP_ rfl ?_
      first
        | refine s_val (v_moveC rfl) rfl ?_
        | refine s_val (v_moveA rfl) rfl ?_
        | refine s_val (v_moveT rfl) rfl ?_
      refine s_val (v_extract rfl rfl) rfl ?_
      refine s_val (v_extract rfl rfl) rfl ?_
      first
        | refine s_val (v_assignC rfl) rfl ?_
        | refine s_val (v_assignA rfl) rfl ?_
        | refine s_val (v_assignT rfl) rfl ?_
      first
        | refine s_val (v_assignC rfl) rfl ?_
        | refine s_val (v_assignA rfl) rfl ?_
        | refine s_val (v_assignT rfl) rfl ?_
      refine s_nil ?_
      refine S_ ?_
      refine c_region ?_
      first
        | refine s_val (v_moveC rfl) rfl ?_
        | refine s_val (v_moveA rfl) rfl ?_
        | refine s_val (v_moveT rfl) rfl ?_
      first
        | refine s_val (v_moveC rfl) rfl ?_
        | refine s_val (v_moveA rfl) rfl ?_
        | refine s_val (v_moveT rfl) rfl ?_
      first
        | refine s_val (v_eqlN (b := 0) rfl rfl) rfl ?_
        | refine s_val (v_eqlD rfl rfl) rfl ?_
      refine s_val (v_neqB rfl rfl Tryz.underlying4) rfl ?_
      first
        | refine s_val (v_moveC rfl) rfl ?_
        | refine s_val (v_moveA rfl) rfl ?_
        | refine s_val (v_moveT rfl) rfl ?_
      first
        | refine s_go GOG_ ?_
          first
            | refine s_val (v_moveC rfl) rfl ?_
            | refine s_val (v_moveA rfl) rfl ?_
            | refine s_val (v_moveT rfl) rfl ?_
        | refine s_no GOG_ rfl ?_
      first
        | refine s_go GOG_ ?_
          first
            | refine s_val (v_moveC rfl) rfl ?_
            | refine s_val (v_moveA rfl) rfl ?_
            | refine s_val (v_moveT rfl) rfl ?_
        | refine s_no GOG_ rfl ?_
      first
        | refine s_go GOG_ ?_
          refine s_evN (e_callR (bs := []) (keepB_ev [] (by decide)) ok_13 (by kernel_rfl) (by kernel_rfl) rfl VAL_) APP_ rfl ?_
        | refine s_no GOG_ rfl ?_
      first
        | refine s_go GOG_ ?_
          refine s_val (v_unnotB rfl) rfl ?_
        | refine s_no GOG_ rfl ?_
      first
        | refine s_val (v_pickT rfl PK_ rfl) rfl ?_
        | refine s_val (v_pickF rfl PK_ rfl) rfl ?_
        | refine s_val (v_pickOr rfl rfl rfl) rfl ?_
        | refine s_val (v_pickAnd rfl rfl rfl) rfl ?_
      first
        | refine s_val (v_moveC rfl) rfl ?_
        | refine s_val (v_moveA rfl) rfl ?_
        | refine s_val (v_moveT rfl) rfl ?_
      first
        | refine s_go GOG_ ?_
          first
            | refine s_val (v_moveC rfl) rfl ?_
            | refine s_val (v_moveA rfl) rfl ?_
            | refine s_val (v_moveT rfl) rfl ?_
        | refine s_no GOG_ rfl ?_
      first
        | refine s_go GOG_ ?_
          refine s_val (v_unnotB rfl) rfl ?_
        | refine s_no GOG_ rfl ?_
      first
        | refine s_go GOG_ ?_
          first
            | refine s_val (v_moveC rfl) rfl ?_
            | refine s_val (v_moveA rfl) rfl ?_
            | refine s_val (v_moveT rfl) rfl ?_
        | refine s_no GOG_ rfl ?_
      first
        | refine s_go GOG_ ?_
          first
            | refine s_val (v_moveC rfl) rfl ?_
            | refine s_val (v_moveA rfl) rfl ?_
            | refine s_val (v_moveT rfl) rfl ?_
        | refine s_no GOG_ rfl ?_
      first
        | refine s_go GOG_ ?_
          first
            | refine s_val (v_neqN (b := 2) rfl rfl) rfl ?_
            | refine s_val (v_neqD rfl rfl) rfl ?_
        | refine s_no GOG_ rfl ?_
      first
        | refine s_go GOG_ ?_
          first
            | refine s_val (v_pickT rfl PK_ rfl) rfl ?_
            | refine s_val (v_pickF rfl PK_ rfl) rfl ?_
            | refine s_val (v_pickOr rfl rfl rfl) rfl ?_
            | refine s_val (v_pickAnd rfl rfl rfl) rfl ?_
        | refine s_no GOG_ rfl ?_
      first
        | refine s_val (v_pickT rfl PK_ rfl) rfl ?_
        | refine s_val (v_pickF rfl PK_ rfl) rfl ?_
        | refine s_val (v_pickOr rfl rfl rfl) rfl ?_
        | refine s_val (v_pickAnd rfl rfl rfl) rfl ?_
      first
        | refine s_val (v_moveC rfl) rfl ?_
        | refine s_val (v_moveA rfl) rfl ?_
        | refine s_val (v_moveT rfl) rfl ?_
      first
        | refine s_go GOG_ ?_
          first
            | refine s_val (v_moveC rfl) rfl ?_
            | refine s_val (v_moveA rfl) rfl ?_
            | refine s_val (v_moveT rfl) rfl ?_
        | refine s_no GOG_ rfl ?_
      first
        | refine s_go GOG_ ?_
          first
            | refine s_val (v_moveC rfl) rfl ?_
            | refine s_val (v_moveA rfl) rfl ?_
            | refine s_val (v_moveT rfl) rfl ?_
        | refine s_no GOG_ rfl ?_
      first
        | refine s_go GOG_ ?_
          refine s_evN (e_callR (bs := [1,0]) (hR) ok_14 (by kernel_rfl) (by kernel_rfl) rfl VAL_) APP_ rfl ?_
        | refine s_no GOG_ rfl ?_
      first
        | refine s_go GOG_ ?_
          refine s_val (v_unnotB rfl) rfl ?_
        | refine s_no GOG_ rfl ?_
      first
        | refine s_val (v_pickT rfl PK_ rfl) rfl ?_
        | refine s_val (v_pickF rfl PK_ rfl) rfl ?_
        | refine s_val (v_pickOr rfl rfl rfl) rfl ?_
        | refine s_val (v_pickAnd rfl rfl rfl) rfl ?_
      refine s_nil ?_
      refine S_ ?_
      refine c_region ?_
      first
        | refine s_val (v_moveC rfl) rfl ?_
        | refine s_val (v_moveA rfl) rfl ?_
        | refine s_val (v_moveT rfl) rfl ?_
      refine s_nil ?_
      rcases spR_two b with ⟨y, hy, hy1, hy2, hy3⟩ | hy
      · rw [hy] at hS hS2
        have hyc := jl_count y
        have hj : jnR y = (b, 0) := by
          unfold jnR
          rw [if_pos (by omega), hy1]
        have hJy := joinR_ev y y.length y.length rfl (by omega) (fun x h => by have := hy3 x h; omega)
        rw [hj] at hJy
        have hRy := rows_ev y y.length y.length y.length rfl (by omega) (fun x h => by have := hy3 x h; omega)
        dsimp only at hS hS2 hJy
        generalize y.length = m at *
        refine S_ ?_
        refine c_region ?_
        first
          | refine s_val (v_moveC rfl) rfl ?_
          | refine s_val (v_moveA rfl) rfl ?_
          | refine s_val (v_moveT rfl) rfl ?_
        refine s_evN (e_callR (bs := []) (hS) ok_15 (by kernel_rfl) (by kernel_rfl) rfl VAL_) APP_ rfl ?_
        first
          | refine s_val (v_moveC rfl) rfl ?_
          | refine s_val (v_moveA rfl) rfl ?_
          | refine s_val (v_moveT rfl) rfl ?_
        refine s_val (v_extract rfl rfl) rfl ?_
        refine s_val (v_extract rfl rfl) rfl ?_
        first
          | refine s_val (v_assignC rfl) rfl ?_
          | refine s_val (v_assignA rfl) rfl ?_
          | refine s_val (v_assignT rfl) rfl ?_
        first
          | refine s_val (v_assignC rfl) rfl ?_
          | refine s_val (v_assignA rfl) rfl ?_
          | refine s_val (v_assignT rfl) rfl ?_
        refine s_nil ?_
        refine S_ ?_
        refine c_region ?_
        first
          | refine s_val (v_moveC rfl) rfl ?_
          | refine s_val (v_moveA rfl) rfl ?_
          | refine s_val (v_moveT rfl) rfl ?_
        refine s_evN (e_callR (bs := []) (hS2) ok_16 (by kernel_rfl) (by kernel_rfl) rfl VAL_) APP_ rfl ?_
        first
          | refine s_val (v_moveC rfl) rfl ?_
          | refine s_val (v_moveA rfl) rfl ?_
          | refine s_val (v_moveT rfl) rfl ?_
        refine s_val (v_extract rfl rfl) rfl ?_
        refine s_val (v_extract rfl rfl) rfl ?_
        first
          | refine s_val (v_assignC rfl) rfl ?_
          | refine s_val (v_assignA rfl) rfl ?_
          | refine s_val (v_assignT rfl) rfl ?_
        first
          | refine s_val (v_assignC rfl) rfl ?_
          | refine s_val (v_assignA rfl) rfl ?_
          | refine s_val (v_assignT rfl) rfl ?_
        refine s_nil ?_
        refine S_ ?_
        refine c_region ?_
        first
          | refine s_val (v_moveC rfl) rfl ?_
          | refine s_val (v_moveA rfl) rfl ?_
          | refine s_val (v_moveT rfl) rfl ?_
        first
          | refine s_val (v_moveC rfl) rfl ?_
          | refine s_val (v_moveA rfl) rfl ?_
          | refine s_val (v_moveT rfl) rfl ?_
        first
          | refine s_val (v_eqlN (b := 0) rfl rfl) rfl ?_
          | refine s_val (v_eqlD rfl rfl) rfl ?_
        refine s_val (v_neqB rfl rfl Tryz.underlying4) rfl ?_
        first
          | refine s_val (v_moveC rfl) rfl ?_
          | refine s_val (v_moveA rfl) rfl ?_
          | refine s_val (v_moveT rfl) rfl ?_
        first
          | refine s_go GOG_ ?_
            first
              | refine s_val (v_moveC rfl) rfl ?_
              | refine s_val (v_moveA rfl) rfl ?_
              | refine s_val (v_moveT rfl) rfl ?_
          | refine s_no GOG_ rfl ?_
        first
          | refine s_go GOG_ ?_
            first
              | refine s_val (v_moveC rfl) rfl ?_
              | refine s_val (v_moveA rfl) rfl ?_
              | refine s_val (v_moveT rfl) rfl ?_
          | refine s_no GOG_ rfl ?_
        first
          | refine s_go GOG_ ?_
            refine s_evN (e_callR (bs := [2,3]) (hRy) ok_14 (by kernel_rfl) (by kernel_rfl) rfl VAL_) APP_ rfl ?_
          | refine s_no GOG_ rfl ?_
        first
          | refine s_go GOG_ ?_
            refine s_val (v_unnotB rfl) rfl ?_
          | refine s_no GOG_ rfl ?_
        first
          | refine s_val (v_pickT rfl PK_ rfl) rfl ?_
          | refine s_val (v_pickF rfl PK_ rfl) rfl ?_
          | refine s_val (v_pickOr rfl rfl rfl) rfl ?_
          | refine s_val (v_pickAnd rfl rfl rfl) rfl ?_
        first
          | refine s_val (v_moveC rfl) rfl ?_
          | refine s_val (v_moveA rfl) rfl ?_
          | refine s_val (v_moveT rfl) rfl ?_
        first
          | refine s_go GOG_ ?_
            first
              | refine s_val (v_moveC rfl) rfl ?_
              | refine s_val (v_moveA rfl) rfl ?_
              | refine s_val (v_moveT rfl) rfl ?_
          | refine s_no GOG_ rfl ?_
        first
          | refine s_go GOG_ ?_
            refine s_val (v_unnotB rfl) rfl ?_
          | refine s_no GOG_ rfl ?_
        first
          | refine s_go GOG_ ?_
            first
              | refine s_val (v_moveC rfl) rfl ?_
              | refine s_val (v_moveA rfl) rfl ?_
              | refine s_val (v_moveT rfl) rfl ?_
          | refine s_no GOG_ rfl ?_
        first
          | refine s_go GOG_ ?_
            first
              | refine s_val (v_moveC rfl) rfl ?_
              | refine s_val (v_moveA rfl) rfl ?_
              | refine s_val (v_moveT rfl) rfl ?_
          | refine s_no GOG_ rfl ?_
        first
          | refine s_go GOG_ ?_
            first
              | refine s_val (v_neqN (b := 2) rfl rfl) rfl ?_
              | refine s_val (v_neqD rfl rfl) rfl ?_
          | refine s_no GOG_ rfl ?_
        first
          | refine s_go GOG_ ?_
            first
              | refine s_val (v_pickT rfl PK_ rfl) rfl ?_
              | refine s_val (v_pickF rfl PK_ rfl) rfl ?_
              | refine s_val (v_pickOr rfl rfl rfl) rfl ?_
              | refine s_val (v_pickAnd rfl rfl rfl) rfl ?_
          | refine s_no GOG_ rfl ?_
        first
          | refine s_val (v_pickT rfl PK_ rfl) rfl ?_
          | refine s_val (v_pickF rfl PK_ rfl) rfl ?_
          | refine s_val (v_pickOr rfl rfl rfl) rfl ?_
          | refine s_val (v_pickAnd rfl rfl rfl) rfl ?_
        refine s_nil ?_
        refine S_ ?_
        refine c_region ?_
        first
          | refine s_val (v_moveC rfl) rfl ?_
          | refine s_val (v_moveA rfl) rfl ?_
          | refine s_val (v_moveT rfl) rfl ?_
        refine s_nil ?_
        refine S_ ?_
        refine c_region ?_
        first
          | refine s_val (v_moveC rfl) rfl ?_
          | refine s_val (v_moveA rfl) rfl ?_
          | refine s_val (v_moveT rfl) rfl ?_
        refine s_evN (e_callR (bs := [2]) (hJy) ok_11 (by kernel_rfl) (by kernel_rfl) rfl VAL_) APP_ rfl ?_
        first
          | refine s_val (v_moveC rfl) rfl ?_
          | refine s_val (v_moveA rfl) rfl ?_
          | refine s_val (v_moveT rfl) rfl ?_
        refine s_val (v_extract rfl rfl) rfl ?_
        refine s_val (v_extract rfl rfl) rfl ?_
        first
          | refine s_val (v_assignC rfl) rfl ?_
          | refine s_val (v_assignA rfl) rfl ?_
          | refine s_val (v_assignT rfl) rfl ?_
        first
          | refine s_val (v_assignC rfl) rfl ?_
          | refine s_val (v_assignA rfl) rfl ?_
          | refine s_val (v_assignT rfl) rfl ?_
        refine s_nil ?_
        refine S_ ?_
        refine c_region ?_
        first
          | refine s_val (v_moveC rfl) rfl ?_
          | refine s_val (v_moveA rfl) rfl ?_
          | refine s_val (v_moveT rfl) rfl ?_
        first
          | refine s_val (v_neqN (b := 0) rfl rfl) rfl ?_
          | refine s_val (v_neqD rfl rfl) rfl ?_
        first
          | refine s_val (v_moveC rfl) rfl ?_
          | refine s_val (v_moveA rfl) rfl ?_
          | refine s_val (v_moveT rfl) rfl ?_
        first
          | refine s_go GOG_ ?_
            first
              | refine s_val (v_moveC rfl) rfl ?_
              | refine s_val (v_moveA rfl) rfl ?_
              | refine s_val (v_moveT rfl) rfl ?_
          | refine s_no GOG_ rfl ?_
        first
          | refine s_go GOG_ ?_
            first
              | refine s_val (v_moveC rfl) rfl ?_
              | refine s_val (v_moveA rfl) rfl ?_
              | refine s_val (v_moveT rfl) rfl ?_
          | refine s_no GOG_ rfl ?_
        first
          | refine s_go GOG_ ?_
            refine s_evN (e_callR (bs := []) (keepB_ev b (by omega)) ok_13 (by kernel_rfl) (by kernel_rfl) rfl VAL_) APP_ rfl ?_
          | refine s_no GOG_ rfl ?_
        first
          | refine s_go GOG_ ?_
            refine s_val (v_unnotB rfl) rfl ?_
          | refine s_no GOG_ rfl ?_
        first
          | refine s_val (v_pickT rfl PK_ rfl) rfl ?_
          | refine s_val (v_pickF rfl PK_ rfl) rfl ?_
          | refine s_val (v_pickOr rfl rfl rfl) rfl ?_
          | refine s_val (v_pickAnd rfl rfl rfl) rfl ?_
        refine s_nil ?_
        refine S_ ?_
        refine c_region ?_
        first
          | refine s_val (v_moveC rfl) rfl ?_
          | refine s_val (v_moveA rfl) rfl ?_
          | refine s_val (v_moveT rfl) rfl ?_
        refine s_evN (e_callR (bs := []) (hK) ok_17 (by kernel_rfl) (by kernel_rfl) rfl VAL_) APP_ rfl ?_
        first
          | refine s_val (v_moveC rfl) rfl ?_
          | refine s_val (v_moveA rfl) rfl ?_
          | refine s_val (v_moveT rfl) rfl ?_
        refine s_evN (e_callR (bs := []) (hK2) ok_18 (by kernel_rfl) (by kernel_rfl) rfl VAL_) APP_ rfl ?_
        refine s_memN (m_alloc al_37 LEN_) APP_ rfl ?_
        refine s_memN (m_alloc al_37 LEN_) APP_ rfl ?_
        refine s_storeR rfl rfl rfl rfl sz_37 EQ_ EQ_ SET_ ?_
        refine s_storeR rfl rfl rfl rfl sz_37 EQ_ EQ_ SET_ ?_
        refine s_nil ?_
        refine S_ ?_
        refine c_draw 7 mixed (by kernel_rfl) rfl rfl rfl ?_
        first
          | refine h_val (v_slA1 (l := 0) (h := 32) (len := 32) (cp := 32) rfl Tryz.underlying37 sz_5 rfl rfl rfl (by omega) (by omega) FIT_ rfl rfl) rfl ?_
          | refine h_val (v_slA (l := 0) (h := 32) rfl Tryz.underlying37 sz_5 rfl rfl rfl (by omega) (by omega) FIT_) rfl ?_
        first
          | refine h_val (v_slA1 (l := 0) (h := 32) (len := 32) (cp := 32) rfl Tryz.underlying37 sz_5 rfl rfl rfl (by omega) (by omega) FIT_ rfl rfl) rfl ?_
          | refine h_val (v_slA (l := 0) (h := 32) rfl Tryz.underlying37 sz_5 rfl rfl rfl (by omega) (by omega) FIT_) rfl ?_
        refine h_evN (e_callR (bs := [4,5]) (hB) ok_13 (by kernel_rfl) (by kernel_rfl) rfl VAL_) APP_ rfl ?_
        first
          | refine h_val (v_moveC rfl) rfl ?_
          | refine h_val (v_moveA rfl) rfl ?_
          | refine h_val (v_moveT rfl) rfl ?_
        first
          | refine h_go GOG_ ?_
            refine h_evN (e_callR (bs := []) (hW) ok_19 (by kernel_rfl) (by kernel_rfl) rfl VAL_) APP_ rfl ?_
          | refine h_no GOG_ ?_
        first
          | refine h_val (v_pickT rfl PK_ rfl) rfl ?_
          | refine h_val (v_pickF rfl PK_ rfl) rfl ?_
          | refine h_val (v_pickOr rfl rfl rfl) rfl ?_
          | refine h_val (v_pickAnd rfl rfl rfl) rfl ?_
        first
          | refine h_val (v_assignC rfl) rfl ?_
          | refine h_val (v_assignA rfl) rfl ?_
          | refine h_val (v_assignT rfl) rfl ?_
        refine h_nil ?_
        refine s_nil ?_
        refine S_ ?_
        exact k_1 (by first | exact r_tmpC rfl | exact r_tmpA rfl) (by first | kernel_rfl | rfl)
      · rw [hy] at hS hS2
        have hRy := rows_ev [] 0 0 0 rfl (by decide) (fun x h => by cases h)
        dsimp only [List.length] at hS hS2
        refine S_ ?_
        refine c_region ?_
        first
          | refine s_val (v_moveC rfl) rfl ?_
          | refine s_val (v_moveA rfl) rfl ?_
          | refine s_val (v_moveT rfl) rfl ?_
        refine s_evN (e_callR (bs := []) (hS) ok_15 (by kernel_rfl) (by kernel_rfl) rfl VAL_) APP_ rfl ?_
        first
          | refine s_val (v_moveC rfl) rfl ?_
          | refine s_val (v_moveA rfl) rfl ?_
          | refine s_val (v_moveT rfl) rfl ?_
        refine s_val (v_extract rfl rfl) rfl ?_
        refine s_val (v_extract rfl rfl) rfl ?_
        first
          | refine s_val (v_assignC rfl) rfl ?_
          | refine s_val (v_assignA rfl) rfl ?_
          | refine s_val (v_assignT rfl) rfl ?_
        first
          | refine s_val (v_assignC rfl) rfl ?_
          | refine s_val (v_assignA rfl) rfl ?_
          | refine s_val (v_assignT rfl) rfl ?_
        refine s_nil ?_
        refine S_ ?_
        refine c_region ?_
        first
          | refine s_val (v_moveC rfl) rfl ?_
          | refine s_val (v_moveA rfl) rfl ?_
          | refine s_val (v_moveT rfl) rfl ?_
        refine s_evN (e_callR (bs := []) (hS2) ok_16 (by kernel_rfl) (by kernel_rfl) rfl VAL_) APP_ rfl ?_
        first
          | refine s_val (v_moveC rfl) rfl ?_
          | refine s_val (v_moveA rfl) rfl ?_
          | refine s_val (v_moveT rfl) rfl ?_
        refine s_val (v_extract rfl rfl) rfl ?_
        refine s_val (v_extract rfl rfl) rfl ?_
        first
          | refine s_val (v_assignC rfl) rfl ?_
          | refine s_val (v_assignA rfl) rfl ?_
          | refine s_val (v_assignT rfl) rfl ?_
        first
          | refine s_val (v_assignC rfl) rfl ?_
          | refine s_val (v_assignA rfl) rfl ?_
          | refine s_val (v_assignT rfl) rfl ?_
        refine s_nil ?_
        refine S_ ?_
        refine c_region ?_
        first
          | refine s_val (v_moveC rfl) rfl ?_
          | refine s_val (v_moveA rfl) rfl ?_
          | refine s_val (v_moveT rfl) rfl ?_
        first
          | refine s_val (v_moveC rfl) rfl ?_
          | refine s_val (v_moveA rfl) rfl ?_
          | refine s_val (v_moveT rfl) rfl ?_
        first
          | refine s_val (v_eqlN (b := 0) rfl rfl) rfl ?_
          | refine s_val (v_eqlD rfl rfl) rfl ?_
        refine s_val (v_neqB rfl rfl Tryz.underlying4) rfl ?_
        first
          | refine s_val (v_moveC rfl) rfl ?_
          | refine s_val (v_moveA rfl) rfl ?_
          | refine s_val (v_moveT rfl) rfl ?_
        first
          | refine s_go GOG_ ?_
            first
              | refine s_val (v_moveC rfl) rfl ?_
              | refine s_val (v_moveA rfl) rfl ?_
              | refine s_val (v_moveT rfl) rfl ?_
          | refine s_no GOG_ rfl ?_
        first
          | refine s_go GOG_ ?_
            first
              | refine s_val (v_moveC rfl) rfl ?_
              | refine s_val (v_moveA rfl) rfl ?_
              | refine s_val (v_moveT rfl) rfl ?_
          | refine s_no GOG_ rfl ?_
        first
          | refine s_go GOG_ ?_
            refine s_evN (e_callR (bs := [2,3]) (hRy) ok_14 (by kernel_rfl) (by kernel_rfl) rfl VAL_) APP_ rfl ?_
          | refine s_no GOG_ rfl ?_
        first
          | refine s_go GOG_ ?_
            refine s_val (v_unnotB rfl) rfl ?_
          | refine s_no GOG_ rfl ?_
        first
          | refine s_val (v_pickT rfl PK_ rfl) rfl ?_
          | refine s_val (v_pickF rfl PK_ rfl) rfl ?_
          | refine s_val (v_pickOr rfl rfl rfl) rfl ?_
          | refine s_val (v_pickAnd rfl rfl rfl) rfl ?_
        first
          | refine s_val (v_moveC rfl) rfl ?_
          | refine s_val (v_moveA rfl) rfl ?_
          | refine s_val (v_moveT rfl) rfl ?_
        first
          | refine s_go GOG_ ?_
            first
              | refine s_val (v_moveC rfl) rfl ?_
              | refine s_val (v_moveA rfl) rfl ?_
              | refine s_val (v_moveT rfl) rfl ?_
          | refine s_no GOG_ rfl ?_
        first
          | refine s_go GOG_ ?_
            refine s_val (v_unnotB rfl) rfl ?_
          | refine s_no GOG_ rfl ?_
        first
          | refine s_go GOG_ ?_
            first
              | refine s_val (v_moveC rfl) rfl ?_
              | refine s_val (v_moveA rfl) rfl ?_
              | refine s_val (v_moveT rfl) rfl ?_
          | refine s_no GOG_ rfl ?_
        first
          | refine s_go GOG_ ?_
            first
              | refine s_val (v_moveC rfl) rfl ?_
              | refine s_val (v_moveA rfl) rfl ?_
              | refine s_val (v_moveT rfl) rfl ?_
          | refine s_no GOG_ rfl ?_
        first
          | refine s_go GOG_ ?_
            first
              | refine s_val (v_neqN (b := 2) rfl rfl) rfl ?_
              | refine s_val (v_neqD rfl rfl) rfl ?_
          | refine s_no GOG_ rfl ?_
        first
          | refine s_go GOG_ ?_
            first
              | refine s_val (v_pickT rfl PK_ rfl) rfl ?_
              | refine s_val (v_pickF rfl PK_ rfl) rfl ?_
              | refine s_val (v_pickOr rfl rfl rfl) rfl ?_
              | refine s_val (v_pickAnd rfl rfl rfl) rfl ?_
          | refine s_no GOG_ rfl ?_
        first
          | refine s_val (v_pickT rfl PK_ rfl) rfl ?_
          | refine s_val (v_pickF rfl PK_ rfl) rfl ?_
          | refine s_val (v_pickOr rfl rfl rfl) rfl ?_
          | refine s_val (v_pickAnd rfl rfl rfl) rfl ?_
        refine s_nil ?_
        refine S_ ?_
        refine c_region ?_
        first
          | refine s_val (v_moveC rfl) rfl ?_
          | refine s_val (v_moveA rfl) rfl ?_
          | refine s_val (v_moveT rfl) rfl ?_
        refine s_nil ?_
        refine S_ ?_
        refine c_region ?_
        first
          | refine s_val (v_moveC rfl) rfl ?_
          | refine s_val (v_moveA rfl) rfl ?_
          | refine s_val (v_moveT rfl) rfl ?_
        refine s_evN (e_callR (bs := []) (hK) ok_17 (by kernel_rfl) (by kernel_rfl) rfl VAL_) APP_ rfl ?_
        first
          | refine s_val (v_moveC rfl) rfl ?_
          | refine s_val (v_moveA rfl) rfl ?_
          | refine s_val (v_moveT rfl) rfl ?_
        refine s_evN (e_callR (bs := []) (hK2) ok_18 (by kernel_rfl) (by kernel_rfl) rfl VAL_) APP_ rfl ?_
        refine s_memN (m_alloc al_37 LEN_) APP_ rfl ?_
        refine s_memN (m_alloc al_37 LEN_) APP_ rfl ?_
        refine s_storeR rfl rfl rfl rfl sz_37 EQ_ EQ_ SET_ ?_
        refine s_storeR rfl rfl rfl rfl sz_37 EQ_ EQ_ SET_ ?_
        refine s_nil ?_
        refine S_ ?_
        refine c_draw 7 mixed (by kernel_rfl) rfl rfl rfl ?_
        first
          | refine h_val (v_slA1 (l := 0) (h := 32) (len := 32) (cp := 32) rfl Tryz.underlying37 sz_5 rfl rfl rfl (by omega) (by omega) FIT_ rfl rfl) rfl ?_
          | refine h_val (v_slA (l := 0) (h := 32) rfl Tryz.underlying37 sz_5 rfl rfl rfl (by omega) (by omega) FIT_) rfl ?_
        first
          | refine h_val (v_slA1 (l := 0) (h := 32) (len := 32) (cp := 32) rfl Tryz.underlying37 sz_5 rfl rfl rfl (by omega) (by omega) FIT_ rfl rfl) rfl ?_
          | refine h_val (v_slA (l := 0) (h := 32) rfl Tryz.underlying37 sz_5 rfl rfl rfl (by omega) (by omega) FIT_) rfl ?_
        refine h_evN (e_callR (bs := [4,5]) (hB) ok_13 (by kernel_rfl) (by kernel_rfl) rfl VAL_) APP_ rfl ?_
        first
          | refine h_val (v_moveC rfl) rfl ?_
          | refine h_val (v_moveA rfl) rfl ?_
          | refine h_val (v_moveT rfl) rfl ?_
        first
          | refine h_go GOG_ ?_
            refine h_evN (e_callR (bs := []) (hW) ok_19 (by kernel_rfl) (by kernel_rfl) rfl VAL_) APP_ rfl ?_
          | refine h_no GOG_ ?_
        first
          | refine h_val (v_pickT rfl PK_ rfl) rfl ?_
          | refine h_val (v_pickF rfl PK_ rfl) rfl ?_
          | refine h_val (v_pickOr rfl rfl rfl) rfl ?_
          | refine h_val (v_pickAnd rfl rfl rfl) rfl ?_
        first
          | refine h_val (v_assignC rfl) rfl ?_
          | refine h_val (v_assignA rfl) rfl ?_
          | refine h_val (v_assignT rfl) rfl ?_
        refine h_nil ?_
        refine s_nil ?_
        refine S_ ?_
        exact k_1 (by first | exact r_tmpC rfl | exact r_tmpA rfl) (by first | kernel_rfl | rfl)
theorem realParts_law (l : List (List (BitVec 8))) (hn : l.length ≤ 9223372036854775807) (b : List (BitVec 8)) (hb : b.length ≤ 9223372036854775807) : Ev Tryz.prog (.call 3 [.c (.sl 0 0 l.length l.length 1), .c (.bs b)] [.row false (.ab l)]) (.val (.c (.val (.bool true))) [.row false (.ab l)]) := rParts_ev l l.length l.length b rfl hn hb
end Go.Proofs.YtmbepikkgkcgkaaGreatDoor
namespace Go.Proofs.YtmbepikkgkcgkaaGreatDoor
open Go.RowKit
def Sl (w : World) (v : Value) (l : List (BitVec 8)) : Prop :=
  ∃ a cap, v = .slice a l.length cap ∧ l.length ≤ cap ∧ cap ≤ maxLen ∧ (a = none → cap = 0) ∧ ∀ i, i < l.length → ∃ b off, a = some ⟨b, off, none⟩ ∧ w.cell? ⟨b, off + i, none⟩ = some (U8 (nth l i))
def Own (B : Nat) (w : World) (v : Value) (l : List (BitVec 8)) : Prop := w.ownsRow B 5 1 v l.length (l.map U8)
theorem Sl.nil (w : World) : Sl w (.slice none 0 0) [] := ⟨none, 0, rfl, Nat.le_refl _, by unfold maxLen; omega, fun _ => rfl, fun i h => absurd h (by simp)⟩
theorem addr_mid (b o j : Nat) : (⟨b, o, none⟩ : Addr).add j = ⟨b, o + j, none⟩ := Addr.add_mid b o j
theorem Own.sl {B : Nat} {w : World} {v : Value} {l : List (BitVec 8)} (h : Own B w v l) : Sl w v l := by
  obtain ⟨h1, h2⟩ := h
  rcases h2 with ⟨rfl, hn⟩ | ⟨g, cap, cur, rfl, hg, hh, hc, hm, hs, ht⟩
  · obtain rfl : l = [] := List.length_eq_zero_iff.1 hn
    exact Sl.nil w
  · refine ⟨some ⟨g, 0, none⟩, cap, rfl, hc, hm, (fun h => by cases h), fun i hi => ⟨g, 0, rfl, ?_⟩⟩
    rw [cell_of_row w g (0 + i) cur _ _ hh]
    have := congrArg (fun x => x[i]?) ht
    simp only [List.getElem?_take, Nat.mul_one, hi, if_true, List.getElem?_map] at this
    rw [Nat.zero_add, ← Array.getElem?_toList, this]
    simp [nth, hi]
theorem Own.nil (B : Nat) (w : World) : Own B w (.slice none 0 0) [] := World.ownsRow_nil w B _ 1
theorem Sl.shape {w : World} {v : Value} {l : List (BitVec 8)} (h : Sl w v l) (hl : l ≠ []) : ∃ b off cap, v = .slice (some ⟨b, off, none⟩) l.length cap ∧ l.length ≤ cap ∧ cap ≤ maxLen ∧ ∀ i, i < l.length → w.cell? ⟨b, off + i, none⟩ = some (U8 (nth l i)) := by
  obtain ⟨a, cap, rfl, hc, hm, _, hi⟩ := h
  have hp : 0 < l.length := List.length_pos_iff.2 hl
  obtain ⟨b, off, rfl, _⟩ := hi 0 hp
  refine ⟨b, off, cap, rfl, hc, hm, fun i h => ?_⟩
  obtain ⟨b', off', e, hcell⟩ := hi i h
  simp only [Option.some.injEq, Addr.mk.injEq] at e
  obtain ⟨rfl, rfl, _⟩ := e
  exact hcell
theorem Sl.len {w : World} {v : Value} {l : List (BitVec 8)} (h : Sl w v l) : ∃ a cap, v = .slice a l.length cap := by obtain ⟨a, cap, h, _⟩ := h; exact ⟨a, cap, h⟩
theorem Sl.mk {w : World} {b off len cap : Nat} {l : List (BitVec 8)} (hl : l.length = len) (hc : len ≤ cap) (hm : cap ≤ maxLen) (h : ∀ i, i < len → w.cell? ⟨b, off + i, none⟩ = some (U8 (nth l i))) : Sl w (.slice (some ⟨b, off, none⟩) len cap) l := by
  subst hl
  exact ⟨_, cap, rfl, hc, hm, fun h => (by cases h), fun i hi => ⟨b, off, rfl, h i hi⟩⟩
theorem Sl.below {w w' : World} {v : Value} {l : List (BitVec 8)} (h : Sl w v l) (hb : Below w.heap.size w w') : Sl w' v l := by
  obtain ⟨a, cap, rfl, hc, hm, hn, hi⟩ := h
  refine ⟨a, cap, rfl, hc, hm, hn, fun i h => ?_⟩
  obtain ⟨b, off, e, hcell⟩ := hi i h
  refine ⟨b, off, e, ?_⟩
  rw [hb.cell (World.block_lt_of_cell? w _ hcell)]; exact hcell
theorem Sl.same {w w' : World} {v : Value} {l : List (BitVec 8)} (h : Sl w v l) (hb : ∀ k, (l ≠ [] → v.ownBlock = some k) → w'.heap[k]? = w.heap[k]?) : Sl w' v l := by
  obtain ⟨a, cap, rfl, hc, hm, hn, hi⟩ := h
  refine ⟨a, cap, rfl, hc, hm, hn, fun i h => ?_⟩
  obtain ⟨b, off, rfl, hcell⟩ := hi i h
  refine ⟨b, off, rfl, ?_⟩
  rw [World.cell?_of_block (w := w) (w' := w') (hb b fun _ => rfl)]; exact hcell
theorem Sl.upto {w : World} {v : Value} {l : List (BitVec 8)} (h : Sl w v l) (hl : l ≠ []) : ∃ k, v.ownBlock = some k ∧ k < w.heap.size := by
  obtain ⟨b, off, cap, rfl, _, _, hi⟩ := h.shape hl
  exact ⟨b, rfl, World.block_lt_of_cell? w _ (hi 0 (List.length_pos_iff.2 hl))⟩
theorem Own.below {B : Nat} {w w' : World} {v : Value} {l : List (BitVec 8)} (h : Own B w v l) (hb : Below w.heap.size w w') : Own B w' v l := by
  obtain ⟨h1, h2⟩ := h
  refine ⟨h1, ?_⟩
  rcases h2 with h2 | ⟨g, cap, cur, rfl, hg, hh, r⟩
  · exact Or.inl h2
  · exact Or.inr ⟨g, cap, cur, rfl, hg, by rw [hb.block g (Array.getElem?_eq_some_iff.1 hh).1]; exact hh, r⟩
theorem Own.mono {B B' : Nat} {w : World} {v : Value} {l : List (BitVec 8)} (h : Own B w v l) (hB : B' ≤ B) : Own B' w v l := by
  obtain ⟨h1, h2⟩ := h
  refine ⟨h1, ?_⟩
  rcases h2 with h2 | ⟨g, cap, cur, rfl, hg, hh, r⟩
  · exact Or.inl h2
  · exact Or.inr ⟨g, cap, cur, rfl, Nat.le_trans hB hg, hh, r⟩
theorem Has.grown {w w' : World} {b : Nat} {cs : Array Value} {t : TypeId} {row : Option Nat} (h : Has w b cs t) (hg : w.grownBy w' row) (hb : some b ≠ row) : Has w' b cs t := by
  have := h.lt; unfold Has at *; rw [hg.block b this hb]; exact h
theorem Sl.grown {w w' : World} {v : Value} {l : List (BitVec 8)} {row : Option Nat} (h : Sl w v l) (hg : w.grownBy w' row) (hb : l ≠ [] → v.ownBlock ≠ row) : Sl w' v l := by
  by_cases hl : l = []
  · subst hl
    obtain ⟨a, cap, rfl, hc, hm, hn, hi⟩ := h
    exact ⟨a, cap, rfl, hc, hm, hn, fun i h => absurd h (by simp)⟩
  · obtain ⟨k, hk, hk2⟩ := h.upto hl
    refine h.same fun j hj => ?_
    have : j = k := by have := hj hl; rw [hk] at this; simpa using this.symm
    subst this
    exact hg.block j hk2 (by rw [← hk]; exact hb hl)
theorem Own.apart {B : Nat} {w : World} {v : Value} {l : List (BitVec 8)} (h : Own B w v l) {b : Nat} {cs : Array Value} {t : TypeId} (hb : Has w b cs t) (ht : t ≠ 5) : some b ≠ v.ownBlock := by
  obtain ⟨_, h2⟩ := h
  rcases h2 with ⟨rfl, _⟩ | ⟨g, cap, cur, rfl, hg, hh, _⟩
  · simp [Value.ownBlock]
  · intro e
    simp only [Value.ownBlock, Option.some.injEq] at e
    subst e
    unfold Has at hb
    rw [hb] at hh
    simp only [Option.some.injEq, Obj.cells.injEq] at hh
    exact ht hh.2.1
theorem Own.from {B : Nat} {w : World} {v : Value} {l : List (BitVec 8)} (h : Own B w v l) : ∀ k, v.ownBlock = some k → B ≤ k := fun k hk => (World.ownsRow.lt h k hk).1
theorem Has.own {B : Nat} {w w' : World} {v : Value} {l : List (BitVec 8)} (h : Own B w v l) (hg : w.grownBy w' v.ownBlock) {b : Nat} {cs : Array Value} {t : TypeId} (hb : Has w b cs t) (ht : t ≠ 5) : Has w' b cs t := hb.grown hg (h.apart hb ht)
theorem Sl.one {w : World} {g : Nat} {x : BitVec 8} {t : TypeId} (h : Has w g #[U8 x] t) : Sl w (.slice (some ⟨g, 0, none⟩) 1 1) [x] :=
  Sl.mk (l := [x]) rfl (Nat.le_refl _) (by unfold maxLen; omega) fun i hi => by
    obtain rfl : i = 0 := by omega
    rw [h.cell]; rfl
def cellsT (l : List (BitVec 8)) (T : List Value) : Array Value := (l.map U8 ++ T).toArray
@[go_sem] theorem cellsT_get (l : List (BitVec 8)) (T : List Value) (i : Nat) (h : i < l.length) : (cellsT l T)[i]? = some (U8 (nth l i)) := by
  simp only [cellsT, List.getElem?_toArray]
  rw [List.getElem?_append_left (by simpa using h)]
  simp [nth, h]
@[go_sem] theorem cellsT_set (l : List (BitVec 8)) (T : List Value) (i : Nat) (v : BitVec 8) (h : i < l.length) : (cellsT l T).setIfInBounds i (U8 v) = cellsT (put l i v) T := by
  simp [cellsT, put, List.map_set, h]
theorem Own.shape {B : Nat} {w : World} {v : Value} {l : List (BitVec 8)} (h : Own B w v l) (hl : l ≠ []) : ∃ g cap T, v = .slice (some ⟨g, 0, none⟩) l.length cap ∧ B ≤ g ∧ Has w g (cellsT l T) 5 ∧ l.length ≤ cap ∧ cap ≤ maxLen ∧ l.length + T.length = cap := by
  obtain ⟨h1, h2⟩ := h
  rcases h2 with ⟨rfl, hn⟩ | ⟨g, cap, cur, rfl, hg, hh, hc, hm, hs, ht⟩
  · exact absurd (List.length_eq_zero_iff.1 hn) hl
  · refine ⟨g, cap, cur.toList.drop l.length, rfl, hg, ?_, hc, hm, ?_⟩
    · have e : cellsT l (cur.toList.drop l.length) = cur := by
        unfold cellsT
        rw [Nat.mul_one] at ht
        rw [← ht, List.take_append_drop]
      unfold Has; rw [e]; exact hh
    · have : cur.toList.length = cap := by simpa using hs
      rw [List.length_drop, this]; omega
theorem Own.mk {B : Nat} {w : World} {g cap : Nat} {l : List (BitVec 8)} {T : List Value} (hg : B ≤ g) (h : Has w g (cellsT l T) 5) (hm : cap ≤ maxLen) (hc : l.length + T.length = cap) : Own B w (.slice (some ⟨g, 0, none⟩) l.length cap) l := by
  refine ⟨by simp, .inr ⟨g, cap, cellsT l T, rfl, hg, h, by omega, hm, by simp [cellsT]; omega, ?_⟩⟩
  simp [cellsT]
end Go.Proofs.YtmbepikkgkcgkaaGreatDoor
namespace Go.Proofs.YtmbepikkgkcgkaaGreatDoor
open Go.ChangeShapes Go.WideShapes Go.ChangeAt Go.RowKit
theorem int_u8 {n : Int} (h : (Lit.int .u8 n).wf = true) : (.int .u8 n : Value) = U8 (BitVec.ofInt 8 n) := by
  simp only [Lit.wf, Bool.and_eq_true, decide_eq_true_eq] at h
  have h1 : (0 : Int) ≤ n := h.1
  have h2 : n ≤ 255 := h.2
  show Value.int .u8 n = Value.int .u8 (tn (BitVec.ofInt 8 n))
  congr 1
  unfold tn
  rw [BitVec.toNat_ofInt]
  omega
def byteOf : Value → BitVec 8
  | .int _ n => BitVec.ofInt 8 n
  | _ => 0
section
variable {H : Type} {enc : TypeId × Value → H} {P : Program} {w : World} {base : Nat} {spare : Nat → Bool} {held : Bool}
end
end Go.Proofs.YtmbepikkgkcgkaaGreatDoor
namespace Go.Proofs.YtmbepikkgkcgkaaGreatDoor
open Go.ChangeShapes Go.WideShapes Go.ChangeAt Go.RowKit
def SlR (w : World) (v : Value) (l : List (BitVec 8)) : Prop :=
  ∃ a cap, v = .slice a l.length cap ∧ l.length ≤ cap ∧ cap ≤ maxLen ∧ (cap = 0 ∨ ∃ b off cs t fr, a = some ⟨b, off, none⟩ ∧ w.heap[b]? = some (.cells cs t fr) ∧ 0 < cs.size ∧ ∀ i, i < l.length → cs[off + i]? = some (U8 (nth l i)))
section
variable {H : Type} {enc : TypeId × Value → H} {P : Program} {w : World} {base : Nat} {held : Bool}
theorem open_slR {r : Reach} {b0 : Nat} {t e : TypeId} {v : Value} {d : DataW H} {ps : List MemPlace} (ht : P.underlying t = some (.slice e)) (he : P.underlying e = some (.int .u8)) (hc : P.cellsOf e = 1)
    (hval : Value.okWide P w r b0 t v) (hd : DataW.Trod enc P w base (fun _ => true) held t v d ps) : ∃ l : List (BitVec 8), SlR w v l := by
  obtain ⟨a0, len0, cap0, rfl⟩ := okWide_slice ht hval
  obtain ⟨fuel, hf⟩ := hd
  rcases open_ints ht he hc hf with ⟨hcs, _⟩ | ⟨x, len, c, zs, hcs, _, hl, hm, hz, _, hcell, hwz⟩
  · simp [Value.cells] at hcs
    obtain ⟨rfl, rfl, rfl⟩ := hcs
    exact ⟨[], none, 0, rfl, Nat.le_refl _, by unfold maxLen; omega, .inl rfl⟩
  · simp [Value.cells] at hcs
    obtain ⟨rfl, rfl, rfl⟩ := hcs
    rw [if_pos rfl] at hz
    have hlen : ((zs.take len0).map (BitVec.ofInt 8)).length = len0 := by simp; omega
    refine ⟨(zs.take len0).map (BitVec.ofInt 8), some x, cap0, by rw [hlen], by rw [hlen]; exact hl, hm, ?_⟩
    rcases Nat.eq_zero_or_pos cap0 with h0 | h0
    · exact .inl h0
    · right
      obtain ⟨b, off, spot⟩ := x
      have hspot : spot = none := by
        have h1 := hcell 0 (by omega)
        simpa [Addr.add] using World.cell?_spot h1
      subst hspot
      have at_ : ∀ i, i < cap0 → w.cell? ⟨b, off + i, none⟩ = some (.int .u8 (zs.getD i 0)) := fun i hi => by
        have h1 := hcell i (by omega)
        rwa [show (⟨b, off, none⟩ : Addr).add i = ⟨b, off + i, none⟩ from addr_mid b off i] at h1
      have h1 := at_ 0 h0
      unfold World.cell? at h1
      split at h1
      · rename_i cs t fr hh
        refine ⟨b, off, cs, t, fr, rfl, hh, ?_, fun i hi => ?_⟩
        · have h3 : cs[off + 0]? = _ := h1
          have := (Array.getElem?_eq_some_iff.1 h3).1
          omega
        rw [hlen] at hi
        have h2 := at_ i (by omega)
        unfold World.cell? at h2
        simp only [hh] at h2
        rw [show cs[off + i]? = some (.int .u8 (zs.getD i 0)) by simpa using h2, int_u8 (hwz _ (by rw [List.getD_eq_getElem?_getD, List.getElem?_eq_getElem (by omega)]; exact List.getElem_mem _))]
        congr 2
        rw [nth_eq _ _ (by rw [hlen]; exact hi)]
        have hi2 : i < zs.length := by omega
        simp [hi2]
      · cases h1
end
def locOf (sz : Nat) : Value → Option Loc
  | .slice (some a) _ cap => if cap = 0 then none else some ⟨a.block, a.off, cap * sz⟩
  | _ => none
def AllTx (w : World) : Nat → Nat → Value → Prop := fun c o v => ∃ cs t fr, w.heap[c]? = some (.cells cs t fr) ∧ cs[o]? = some v
def RowR (w : World) (sz : Nat) (v : Value) (x : Arr) : Prop := x.isMap = false ∧ ∃ a len cap, v = .slice a len cap ∧ len ≤ cap ∧ x.size = len * sz ∧ (cap = 0 ∨ ∃ b off cs t fr, a = some ⟨b, off, none⟩ ∧ w.heap[b]? = some (.cells cs t fr) ∧ ∀ i, i < x.size → ∃ u, cs[off + i]? = some u ∧ ∀ ι : Emb, ι.tx = AllTx w → (x.get i).rel ι u)
theorem SlR.row {w : World} {v : Value} {l : List (BitVec 8)} (h : SlR w v l) : RowR w 1 v (.a8 l) := by
  obtain ⟨a, cap, rfl, h1, _, h2⟩ := h
  refine ⟨rfl, a, l.length, cap, rfl, h1, (Nat.mul_one _).symm, h2.imp id ?_⟩
  rintro ⟨b, off, cs, t, fr, rfl, hh, _, hc⟩
  exact ⟨b, off, cs, t, fr, rfl, hh, fun i hi => ⟨_, hc i hi, fun _ _ => rfl⟩⟩
theorem SlR.stay {w : World} {v : Value} {l : List (BitVec 8)} (h : SlR w v l) {ι : Emb} (hι : ι.tx = AllTx w) : (AV.c (.bs l)).rel ι v := by
  obtain ⟨a, cap, rfl, h1, _, h2⟩ := h
  refine ⟨a, cap, rfl, h1, h2.imp id ?_⟩
  rintro ⟨b, off, cs, t, fr, rfl, hh, h0, hc⟩
  exact ⟨b, off, rfl, ⟨0, cs[0], by rw [hι]; exact ⟨cs, t, fr, hh, by simp [h0]⟩⟩, fun i hi => by rw [hι]; exact ⟨cs, t, fr, hh, hc i hi⟩⟩
def openEmb (w : World) (us : List (Value × Nat × Arr)) : Emb := ⟨fun i => (us[i]?).bind fun p => locOf p.2.1 p.1, AllTx w⟩
def openMem (us : List (Value × Nat × Arr)) : Mem := us.map fun p => .row false p.2.2
theorem open_R {us : List (Value × Nat × Arr)} {w : World} (hb : ∀ c Φ, baseObj c = some Φ → ∃ ob, w.heap[c]? = some ob ∧ Φ ob) (h : ∀ p ∈ us, RowR w p.2.1 p.1 p.2.2) : R (openEmb w us) (openMem us) w := by
  have row : ∀ {b : Nat} {own : Bool} {x : Arr}, (openMem us)[b]? = some (.row own x) → ∃ p, us[b]? = some p ∧ own = false ∧ x = p.2.2 := fun {b own x} hb => by
    unfold openMem at hb
    rw [List.getElem?_map] at hb
    obtain ⟨p, hp, e⟩ := Option.map_eq_some_iff.1 hb
    cases e
    exact ⟨p, hp, rfl, rfl⟩
  refine ⟨fun b hb => ?_, fun b l own x h1 h2 => ?_, fun b b' l l' own own' x x' _ _ _ k1 k2 ho => ?_, fun c Φ hc => ⟨?_, fun b l x _ k => ?_⟩⟩
  · unfold openEmb
    dsimp only
    rw [List.getElem?_eq_none (by simpa [openMem] using hb)]; rfl
  · obtain ⟨p, hp, rfl, rfl⟩ := row h2
    obtain ⟨hmp, a, len, cap, hv, hl, hsz, hs⟩ := h p (List.mem_of_getElem? hp)
    unfold openEmb at h1
    dsimp only at h1
    rw [hp] at h1
    simp only [Option.bind_some, hv] at h1
    cases a with
    | none => cases h1
    | some a =>
      simp only [locOf] at h1
      split at h1
      · cases h1
      · rename_i hc
        cases h1
        rcases hs with hs | ⟨b1, off, cs, t, fr, ha, hh, hcell⟩
        · exact absurd hs hc
        · cases ha
          refine .of hmp ⟨cs, t, fr, hh, by rw [hsz]; exact Nat.mul_le_mul_right _ hl, fun i hi => ?_, fun h => by cases h⟩
          obtain ⟨u, e1, e2⟩ := hcell i hi
          exact ⟨u, e1, e2 _ rfl⟩
  · obtain ⟨_, _, rfl, _⟩ := row k1
    obtain ⟨_, _, rfl, _⟩ := row k2
    rcases ho with h | h <;> cases h
  · cases hc with
    | tx k => obtain ⟨cs, t, fr, h1, h2⟩ := k; exact ⟨_, h1, cs, t, fr, rfl, h2⟩
    | base k => exact hb _ _ k
  · obtain ⟨_, _, e, _⟩ := row k
    cases e
theorem open_row {us : List (Value × Nat × Arr)} {w : World} {i sz len : Nat} {u : Value} {x : Arr} (hi : us[i]? = some (u, sz, x)) (h : RowR w sz u x) (hl : x.size = len * sz) (h0 : 0 < sz) : (AV.c (.sl i 0 len len sz)).rel (openEmb w us) u := by
  obtain ⟨_, a, ln, cap, rfl, h1, h2, hs⟩ := h
  obtain rfl : ln = len := Nat.eq_of_mul_eq_mul_right h0 (h2.symm.trans hl)
  refine ⟨a, cap, rfl, h1, h1, ?_⟩
  rcases hs with hs | ⟨b1, off, cs, t, fr, rfl, hh, hcell⟩
  · exact .inl hs
  · by_cases hc : cap = 0
    · exact .inl hc
    · refine .inr ⟨⟨b1, off, cap * sz⟩, ?_, rfl, by simp⟩
      unfold openEmb
      dsimp only
      rw [hi]
      simp [locOf, hc]
theorem law_calls {P : Program} {f : FuncId} {args : List AV} {m m' : Mem} {ι : Emb} {w : World} {vs : Array Value} (h : Ev P (.call f args m) (.val (.c (.val (.bool true))) m')) (hR : R ι m w) (ha : ArgsRel ι args vs.toList) (hro : ∀ c, ¬ Owned ι m c) :
    Calls P f vs w fun e w' => e = .returned (.bool true) ∧ Below w.heap.size w w' := by
  refine (sound h ι w vs hR ha).mono fun e w' hq => ?_
  obtain ⟨u, ι', rfl, hv, hs⟩ := hq
  have hu : u = .bool true := hv
  subst hu
  exact ⟨rfl, hs.trans.os, hs.trans.tape, hs.trans.output, hs.trans.size, fun c hc => hs.trans.keep c hc (hro c)⟩
theorem open_none {us : List (Value × Nat × Arr)} {w : World} {c : Nat} : ¬ Owned (openEmb w us) (openMem us) c := by
  rintro ⟨b, l, x, _, h, _⟩
  unfold openMem at h
  rw [List.getElem?_map] at h
  obtain ⟨p, _, e⟩ := Option.map_eq_some_iff.1 h
  cases e
end Go.Proofs.YtmbepikkgkcgkaaGreatDoor
namespace Go.Proofs.YtmbepikkgkcgkaaGreatDoor
open Go.ChangeShapes Go.WideShapes Go.ChangeAt Go.RowKit
theorem slR_mk {w : World} {A : Option Addr} {Ln Cp : Nat} {zs : List Int} (h1 : Ln ≤ Cp) (h2 : Cp ≤ maxLen) (hz : zs.length = Cp) (hn : A = none → Cp = 0) (hc : ∀ a', A = some a' → ∀ c, c < Cp → w.cell? (a'.add c) = some (.int .u8 (zs.getD c 0))) (hw : ∀ n ∈ zs, (Lit.int .u8 n).wf = true) :
    ∃ l : List (BitVec 8), l.length = Ln ∧ SlR w (.slice A Ln Cp) l := by
  have hlen : ((zs.take Ln).map (BitVec.ofInt 8)).length = Ln := by simp; omega
  refine ⟨(zs.take Ln).map (BitVec.ofInt 8), hlen, A, Cp, by rw [hlen], by rw [hlen]; exact h1, h2, ?_⟩
  rcases Nat.eq_zero_or_pos Cp with h0 | h0
  · exact .inl h0
  · right
    cases A with
    | none => exact absurd (hn rfl) (by omega)
    | some x =>
      obtain ⟨b, off, spot⟩ := x
      have hcell := hc _ rfl
      have hspot : spot = none := by
        have h1 := hcell 0 h0
        simpa [Addr.add] using World.cell?_spot h1
      subst hspot
      have at_ : ∀ i, i < Cp → w.cell? ⟨b, off + i, none⟩ = some (.int .u8 (zs.getD i 0)) := fun i hi => by
        have h1 := hcell i hi
        rwa [show (⟨b, off, none⟩ : Addr).add i = ⟨b, off + i, none⟩ from addr_mid b off i] at h1
      have h1 := at_ 0 h0
      unfold World.cell? at h1
      split at h1
      · rename_i cs t fr hh
        refine ⟨b, off, cs, t, fr, rfl, hh, ?_, fun i hi => ?_⟩
        · have h3 : cs[off + 0]? = _ := h1
          have := (Array.getElem?_eq_some_iff.1 h3).1
          omega
        rw [hlen] at hi
        have h2 := at_ i (by omega)
        unfold World.cell? at h2
        simp only [hh] at h2
        rw [show cs[off + i]? = some (.int .u8 (zs.getD i 0)) by simpa using h2, int_u8 (hw _ (by rw [List.getD_eq_getElem?_getD, List.getElem?_eq_getElem (by omega)]; exact List.getElem_mem _))]
        congr 2
        rw [nth_eq _ _ (by rw [hlen]; exact hi)]
        have hi2 : i < zs.length := by omega
        simp [hi2]
      · cases h1
section
variable {H : Type} {enc : TypeId × Value → H} {P : Program} {w : World} {base : Nat} {held : Bool}
theorem open_rowsB {r : Reach} {b0 : Nat} {t e q : TypeId} {v : Value} {d : DataW H} {ps : List MemPlace} (ht : P.underlying t = some (.slice e)) (he : P.underlying e = some (.slice q)) (hq : P.underlying q = some (.int .u8)) (ce : P.cellsOf e = 1) (cq : P.cellsOf q = 1)
    (hval : Value.okWide P w r b0 t v) (hd : DataW.Trod enc P w base (fun _ => true) held t v d ps) : ∃ l : List (List (BitVec 8)), RowR w 1 v (.ab l) ∧ l.length ≤ maxLen := by
  obtain ⟨a0, len0, cap0, rfl⟩ := okWide_slice ht hval
  obtain ⟨fuel, hf⟩ := hd
  rcases Go.Deep.open_int_rows ht he hq ce cq hf with ⟨hcs, _⟩ | ⟨a, len, cap, A, L, C, Z, hcs, _, hl, hm, _, hr⟩
  · simp [Value.cells] at hcs
    obtain ⟨rfl, rfl, rfl⟩ := hcs
    exact ⟨[], ⟨rfl, none, 0, 0, rfl, Nat.le_refl _, rfl, .inl rfl⟩, Nat.zero_le _⟩
  · simp [Value.cells] at hcs
    obtain ⟨rfl, rfl, rfl⟩ := hcs
    have each : ∀ j, j < cap0 → ∃ y : List (BitVec 8), y.length = L j ∧ SlR w (.slice (A j) (L j) (C j)) y := fun j hj => by
      obtain ⟨_, k1, k2, k3, k4, k5, k6⟩ := hr j hj
      exact slR_mk k1 k2 k3 k5 (fun a' ha' c hc => (k6 a' ha').2 c hc) k4
    obtain ⟨Y, hY⟩ := Go.Deep.choose_lt each
    have hlen : ((List.range len0).map Y).length = len0 := by simp
    refine ⟨(List.range len0).map Y, ⟨rfl, some a, len0, cap0, rfl, hl, by show ((List.range len0).map Y).length = _; rw [hlen, Nat.mul_one], ?_⟩, by rw [hlen]; omega⟩
    rcases Nat.eq_zero_or_pos cap0 with h0 | h0
    · exact .inl h0
    · right
      obtain ⟨b, off, spot⟩ := a
      have hspot : spot = none := by
        have h1 := (hr 0 h0).1
        simpa [Addr.add] using World.cell?_spot h1
      subst hspot
      have at_ : ∀ i, i < cap0 → w.cell? ⟨b, off + i, none⟩ = some (.slice (A i) (L i) (C i)) := fun i hi => by
        have h1 := (hr i hi).1
        rwa [show (⟨b, off, none⟩ : Addr).add i = ⟨b, off + i, none⟩ from addr_mid b off i] at h1
      have h1 := at_ 0 h0
      unfold World.cell? at h1
      split at h1
      · rename_i cs t fr hh
        refine ⟨b, off, cs, t, fr, rfl, hh, fun i hi => ?_⟩
        have hi : i < len0 := by have hi : i < ((List.range len0).map Y).length := hi; omega
        have h2 := at_ i (by omega)
        unfold World.cell? at h2
        simp only [hh] at h2
        refine ⟨_, by simpa using h2, fun ι hι => ?_⟩
        have hg : (Arr.ab ((List.range len0).map Y)).get i = .bs (Y i) := by simp [Arr.get, getb, hi]
        rw [hg]
        exact (hY i (by omega)).2.stay hι
      · cases h1
end
def laid3 : List (String × DataW Unit) := [("math/bits.deBruijn32tab", Rows.laid_math_bits_deBruijn32tab), ("math/bits.deBruijn64tab", Rows.laid_math_bits_deBruijn64tab), ("internal/strconv.uint64pow10", Rows.laid_internal_strconv_uint64pow10)]
theorem gPow : Tryz.prog.globalNamed "internal/strconv.uint64pow10" = some 0 := by kernel_rfl
theorem tPow : (Tryz.prog.globals[0]?).map (·.type) = some 222 := by kernel_rfl
theorem uPow : Tryz.prog.underlying 222 = some (.array 20 70) := by kernel_rfl
theorem uPow70 : Tryz.prog.underlying 70 = some (.int .u64) := by kernel_rfl
theorem door_met (os : Os) (args : Array Value) : laidMetH Tryz.prog laid3 ((World.doorLaid Tryz.prog 400 os).forCall (fun _ _ => 0) ⟨#[], args, []⟩).memory :=
  laidMetH_of_parts3 (fuel := 8) (laidMet_of_run' 8 (by kernel_rfl) (by kernel_rfl)) (by kernel_rfl) (by kernel_rfl)
theorem base_of {W : World} (h : laidMetH Tryz.prog laid3 W) : ∀ c Φ, baseObj c = some Φ → ∃ ob, W.heap[c]? = some ob ∧ Φ ob := by
  rw [MakeChecks.laidMetH_plain _ _ _ (by kernel_rfl)] at h
  obtain ⟨ps, ⟨g0, t0, cs0, f0, p0, q0, hg0, ht0, hv0, hd0, ⟨g1, t1, cs1, f1, p1, q1, hg1, ht1, hv1, hd1, ⟨g2, t2, cs2, f2, p2, q2, hg2, ht2, hv2, hd2, _⟩, _⟩, _⟩, _, _⟩ := h
  obtain rfl := Option.some.inj (gPow.symm.trans hg2)
  obtain rfl := Option.some.inj (tPow.symm.trans ht2)
  have hd : DataW.trod _ Tryz.prog _ _ _ _ f2 222 cs2.toList = some (Lib.tabData .u64 Lib.pow10Tab, p2) := hd2
  have hcs := Lib.cells_of_tab uPow uPow70 (by kernel_rfl) (by kernel_rfl) hd
  intro c Φ hc
  unfold baseObj at hc
  split at hc
  · rename_i h0
    subst h0
    cases hc
    simp only [World.var?, gPow, Option.bind_some] at hv2
    split at hv2
    · rename_i cs t fr hh
      cases hv2
      exact ⟨_, hh, t, fr, by rw [← hcs]⟩
    · cases hv2
  · cases hc
end Go.Proofs.YtmbepikkgkcgkaaGreatDoor
