/- The texts CSame, UBack, UOpen, UMake, UWakes, UKinds, Slice, Open, AvOpen, UOpenR, UTerm, UGood, UAlike, merged into one. -/
import Derived.Test.YtmbepikkgkcgkaaGreatDoorUK7
import Derived.Laws.Pointers
import Derived.Laws.AppendOwnNone
import Derived.Deep.RegionLaw
import Derived.WalkKit
import Derived.ProofKit
import Derived.OpenShut
import Derived.ShutString
import Derived.ChangeOld
import Derived.Below
import Derived.Test.YtmbepikkgkcgkaaGreatDoorRows
import Derived.Deep.Matrix
import Derived.Lib.LaidTab
import Derived.LaidMore
import Derived.Stop.Joined
import Derived.Laws.BytesArg
namespace Go.Proofs.YtmbepikkgkcgkaaGreatDoor
open Go.RowKit
theorem chXor_nth (key : List (BitVec 8)) (c : BitVec 32) (nonce t : List (BitVec 8)) (hk : key.length = 32) (hn : nonce.length = 12) (i : Nat) (hi : i < t.length) :
    nth (chXor key c nonce t) i = nth t i ^^^ nth (chBlock key (c + BitVec.ofNat 32 (i / 64)) nonce) (i % 64) := by
  have h7 : ∀ X j3 j7, 64 * j3 + j7 ≤ X.length → j7 ≤ 64 → ∀ i, i < X.length → nth (chXor_L7 key c nonce X j3 j7) i = if 64 * j3 ≤ i ∧ i < 64 * j3 + j7 then nth X i ^^^ nth (chBlock key (c + BitVec.ofNat 32 (i / 64)) nonce) (i % 64) else nth X i := fun X j3 j7 => by
    induction j7 with
    | zero => intro _ _ i _; rw [if_neg (by omega)]; rfl
    | succ j7 ih =>
      intro h1 h2 i hi
      rw [chXor_L7, chXor_L7_S, nth_put _ _ _ _ (by rw [chXor_L7_len]; omega)]
      by_cases e : 64 * j3 + j7 = i
      · subst e
        rw [if_pos rfl, if_pos (by omega), ih (by omega) (by omega) _ (by omega), if_neg (by omega), Nat.add_sub_cancel_left, Nat.mul_div_cancel_left _ (by decide), show (64 * j3 + j7) / 64 = j3 from by omega, show (64 * j3 + j7) % 64 = j7 from by omega]
      · rw [if_neg e, ih (by omega) (by omega) _ hi]
        by_cases h : 64 * j3 ≤ i ∧ i < 64 * j3 + j7
        · rw [if_pos h, if_pos (by omega)]
        · rw [if_neg h, if_neg (by omega)]
  have h3 : ∀ j3, j3 ≤ (t.length + 63) / 64 → ∀ i, i < t.length → nth (chXor_L3 key c nonce t j3) i = if i < 64 * j3 then nth t i ^^^ nth (chBlock key (c + BitVec.ofNat 32 (i / 64)) nonce) (i % 64) else nth t i := fun j3 => by
    induction j3 with
    | zero => intro _ i _; rw [if_neg (by omega)]; rfl
    | succ j3 ih =>
      intro h1 i hi
      rw [chXor_L3, chXor_L3_S, h7 _ _ _ (by rw [chXor_L3_len _ _ _ _ hk hn]; omega) (by omega) _ (by rw [chXor_L3_len _ _ _ _ hk hn]; exact hi)]
      by_cases e : 64 * j3 ≤ i ∧ i < 64 * j3 + (min (64 * j3 + 64) t.length - 64 * j3)
      · rw [if_pos e, if_pos (by omega), ih (by omega) _ hi, if_neg (by omega)]
      · rw [if_neg e, ih (by omega) _ hi]
        by_cases h : i < 64 * j3
        · rw [if_pos h, if_pos (by omega)]
        · rw [if_neg h, if_neg (by omega)]
  unfold chXor
  rw [h3 _ (Nat.le_refl _) _ hi, if_pos (by omega)]
end Go.Proofs.YtmbepikkgkcgkaaGreatDoor
namespace Go.Proofs.YtmbepikkgkcgkaaGreatDoor
open Go.RowKit
def byN (n i : Nat) : BitVec 8 := ((BitVec.ofNat 64 n) >>> (8 * i)).setWidth 8
theorem rlNum4_list (n : Nat) : rlNum4 n = [byN n 0, byN n 1, byN n 2, byN n 3] := by unfold rlNum4; rfl
theorem byN_nat {n : Nat} (h : n < 18446744073709551616) (i : Nat) : (byN n i).toNat = n / 2 ^ (8 * i) % 256 := by
  unfold byN
  rw [BitVec.toNat_setWidth, BitVec.toNat_ushiftRight, BitVec.toNat_ofNat, Nat.mod_eq_of_lt (show n < 2 ^ 64 by omega), Nat.shiftRight_eq_div_pow]
theorem rdN_bound (b : List (BitVec 8)) : ∀ k, rdN b k < 2 ^ (8 * k)
  | 0 => by simp [rdN]
  | k + 1 => by
    have h := rdN_bound b k
    refine Nat.or_lt_two_pow (Nat.lt_of_lt_of_le h (Nat.pow_le_pow_right (by decide) (by omega))) ?_
    have h2 := (nth b k).isLt
    calc (nth b k).toNat * 2 ^ (8 * k) < 256 * 2 ^ (8 * k) := Nat.mul_lt_mul_of_pos_right h2 (Nat.pow_pos (by decide))
      _ = 2 ^ (8 * (k + 1)) := by rw [Nat.mul_add, Nat.pow_add]; omega
theorem rdN_succ (b : List (BitVec 8)) (k : Nat) : rdN b (k + 1) = rdN b k + (nth b k).toNat * 2 ^ (8 * k) := by
  rw [rdN.eq_2, Nat.or_comm, Nat.mul_comm, ← Nat.two_pow_add_eq_or_of_lt (rdN_bound b k)]
  omega
theorem rdN_sum (b : List (BitVec 8)) : rdN b 4 = (nth b 0).toNat + (nth b 1).toNat * 256 + (nth b 2).toNat * 65536 + (nth b 3).toNat * 16777216 := by
  rw [rdN_succ, rdN_succ, rdN_succ, rdN_succ]
  simp [rdN]
theorem nth_app4 (a0 a1 a2 a3 : BitVec 8) (r : List (BitVec 8)) : nth ([a0, a1, a2, a3] ++ r) 0 = a0 ∧ nth ([a0, a1, a2, a3] ++ r) 1 = a1 ∧ nth ([a0, a1, a2, a3] ++ r) 2 = a2 ∧ nth ([a0, a1, a2, a3] ++ r) 3 = a3 := ⟨rfl, rfl, rfl, rfl⟩
theorem rd_num (n : Nat) (h : n < 4294967296) (r : List (BitVec 8)) : rdN (rlNum4 n ++ r) 4 = n := by
  rw [rdN_sum, rlNum4_list]
  obtain ⟨h0, h1, h2, h3⟩ := nth_app4 (byN n 0) (byN n 1) (byN n 2) (byN n 3) r
  rw [h0, h1, h2, h3, byN_nat (by omega), byN_nat (by omega), byN_nat (by omega), byN_nat (by omega)]
  simp only [Nat.reduceMul, Nat.reducePow, Nat.mul_zero, Nat.pow_zero, Nat.div_one]
  omega
theorem jpb_cons (x : List (BitVec 8)) (l : List (List (BitVec 8))) : ∀ j, jpb (x :: l) (j + 1) = rlNum4 x.length ++ (x ++ jpb l j)
  | 0 => by simp [jpb, getb]
  | j + 1 => by
    rw [jpb.eq_2, jpb_cons x l j, jpb.eq_2]
    simp [getb]
theorem jn_cons (x : List (BitVec 8)) (l : List (List (BitVec 8))) : jn (x :: l) = rlNum4 x.length ++ (x ++ jn l) := jpb_cons x l l.length
theorem jn_nil : jn [] = [] := rfl
theorem jl_cons (x : List (BitVec 8)) (l : List (List (BitVec 8))) : jl (x :: l) = 4 + x.length + jl l := by
  rw [← jn_len, jn_cons, List.length_append, List.length_append, rlNum4_len, jn_len]
  omega
theorem sp_jn (l : List (List (BitVec 8))) (h : jl l ≤ 65536) : spL (jn l) = some l := by
  induction l with
  | nil => rw [jn_nil, spL]; simp
  | cons x l ih =>
    rw [jl_cons] at h
    have ih := ih (by omega)
    rw [jn_cons, spL]
    have hlen : (rlNum4 x.length ++ (x ++ jn l)).length = 4 + (x.length + (jn l).length) := by simp
    have hd : (rlNum4 x.length ++ (x ++ jn l)).drop 4 = x ++ jn l := by
      have h4 := rlNum4_len x.length
      rw [← h4, List.drop_left]
    rw [if_neg (by omega), dif_neg (by omega), hd, rd_num _ (by omega), if_neg (by simp), List.drop_left, List.take_left, ih]
    rfl
theorem cutA0 (x t : List (BitVec 8)) (m : Nat) (h : x.length = m) : cut (x ++ t) 0 m = x := by subst h; simp [cut]
theorem cutA1 (x t : List (BitVec 8)) (m k : Nat) (h : x.length = m) (hk : t.length = k) : cut (x ++ t) m k = t := by subst h hk; simp [cut]
theorem xorTwice (key nonce t : List (BitVec 8)) (c : BitVec 32) (hkey : key.length = 32) (hnonce : nonce.length = 12) : chXor key c nonce (chXor key c nonce t) = t := by
  have hl := chXor_len key c nonce t hkey hnonce
  refine extNth (by rw [chXor_len _ _ _ _ hkey hnonce, hl]) fun i hi => ?_
  rw [chXor_len _ _ _ _ hkey hnonce, hl] at hi
  rw [chXor_nth _ _ _ _ hkey hnonce _ (by omega), chXor_nth _ _ _ _ hkey hnonce _ hi, BitVec.xor_assoc, BitVec.xor_self, BitVec.xor_zero]
theorem sealOk (key nonce text : List (BitVec 8)) (hkey : key.length = 32) (hnonce : nonce.length = 12) :
    adWork11 key nonce [] (cut (adSeal0 key nonce [] text) 0 ((adSeal0 key nonce [] text).length - 16)) = cut (adSeal0 key nonce [] text) ((adSeal0 key nonce [] text).length - 16) 16 := by
  have hx := chXor_len key 1#32 nonce text hkey hnonce
  have hl := adSeal0_len key nonce [] text hkey hnonce
  rw [hl, Nat.add_sub_cancel]
  unfold adSeal0 at hl ⊢
  rw [List.length_append] at hl
  unfold adWork00 at hl ⊢
  rw [hx] at hl
  rw [cutA0 _ _ _ hx, cutA1 _ _ _ _ hx (by omega)]
  unfold adWork11 adWork01
  rfl
theorem sealBack (key nonce text : List (BitVec 8)) (hkey : key.length = 32) (hnonce : nonce.length = 12) : adOpen0 key nonce (adSeal0 key nonce [] text) = text := by
  have hx := chXor_len key 1#32 nonce text hkey hnonce
  have hl := adSeal0_len key nonce [] text hkey hnonce
  unfold adOpen0
  rw [hl, Nat.add_sub_cancel]
  unfold adSeal0 adWork00
  rw [cutA0 _ _ _ hx, xorTwice _ _ _ _ hkey hnonce]
end Go.Proofs.YtmbepikkgkcgkaaGreatDoor
namespace Go.Proofs.YtmbepikkgkcgkaaGreatDoor
open Go.RowKit
theorem adOpen_evB (key box : List (BitVec 8)) (hkey : key.length = 32) (hbn : box.length ≤ 1099511627) (h16 : 16 ≤ box.length) (hT : box.length - 16 ≤ 65536) (hE : adWork11 key (zer8 12) [] (cut box 0 (box.length - 16)) = cut box (box.length - 16) 16) :
    Ev Tryz.prog (.call 53 [.agg (.a8 key), .agg (.a8 (zer8 12)), .c .nsl, .c (.bs box)] []) (.val (.tup [.c (.sl 0 0 (box.length - 16) (box.length - 16) 1), .c (.val (.int .i64 ((0 : Nat) : Int)))]) [.row true (.a8 (adOpen0 key (zer8 12) box))]) :=
  Ev.partsB (m := []) (m' := [.row false (.a8 []), .row false (.a8 box)]) (N := [.row true (.a8 (adOpen0 key (zer8 12) box))]) (N' := [.row true (.a8 (adOpen0 key (zer8 12) box))]) [none, none] [1] (.no (.no .nil)) (.agg rfl (.agg rfl (.c .nil (.c (.same rfl) .nil)))) (.same (.same (.same (.bs rfl rfl .nil)))) rfl rfl (adOpen_ev key (zer8 12) [] 0 0 box box.length box.length hkey (zer8_length 12) rfl (by decide) rfl hbn (by decide) h16 hT hE) rfl rfl
def adErr (key box : List (BitVec 8)) : Nat := if box.length < 16 ∨ 65536 < box.length - 16 then 2 else if adWork11 key (zer8 12) [] (cut box 0 (box.length - 16)) = cut box (box.length - 16) 16 then 0 else 3
theorem adErr_evB (key box : List (BitVec 8)) (hkey : key.length = 32) (hbn : box.length ≤ 1099511627) (he : ¬ adErr key box = 0) :
    Ev Tryz.prog (.call 53 [.agg (.a8 key), .agg (.a8 (zer8 12)), .c .nsl, .c (.bs box)] []) (.val (.tup [.c .nsl, .c (.val (.int .i64 ((adErr key box : Nat) : Int)))]) []) := by
  have go : ∀ e : Nat, Ev Tryz.prog (.call 53 [.agg (.a8 key), .agg (.a8 (zer8 12)), .c (.sl 0 0 0 0 1), .c (.sl 1 0 box.length box.length 1)] [.row false (.a8 []), .row false (.a8 box)]) (.val (.tup [.c .nsl, .c (.val (.int .i64 ((e : Nat) : Int)))]) [.row false (.a8 []), .row false (.a8 box)]) → Ev Tryz.prog (.call 53 [.agg (.a8 key), .agg (.a8 (zer8 12)), .c .nsl, .c (.bs box)] []) (.val (.tup [.c .nsl, .c (.val (.int .i64 ((e : Nat) : Int)))]) []) := fun e h =>
    Ev.partsB (m := []) (m' := [.row false (.a8 []), .row false (.a8 box)]) (N := []) (N' := []) [none, none] [1] (.no (.no .nil)) (.agg rfl (.agg rfl (.c .nil (.c (.same rfl) .nil)))) (.same (.same (.same (.bs rfl rfl .nil)))) rfl rfl h rfl rfl
  unfold adErr at he ⊢
  by_cases h1 : box.length < 16
  · rw [if_pos (.inl h1)]
    exact go _ (adOpenS_ev key (zer8 12) [] 0 0 box box.length box.length hkey (zer8_length 12) rfl (by decide) rfl hbn (by decide) h1)
  by_cases h2 : 65536 < box.length - 16
  · rw [if_pos (.inr h2)]
    exact go _ (adOpenT_ev key (zer8 12) [] 0 0 box box.length box.length hkey (zer8_length 12) rfl (by decide) rfl hbn (by decide) (by omega) h2)
  rw [if_neg (by omega)] at he ⊢
  by_cases h3 : adWork11 key (zer8 12) [] (cut box 0 (box.length - 16)) = cut box (box.length - 16) 16
  · rw [if_pos h3] at he
    exact absurd rfl he
  · rw [if_neg h3]
    exact go _ (adOpenE_ev key (zer8 12) [] 0 0 box box.length box.length hkey (zer8_length 12) rfl (by decide) rfl hbn (by decide) (by omega) (by omega) h3)
def opR (key box : List (BitVec 8)) : List (List (BitVec 8)) × Nat := if adErr key box = 0 then spR (adOpen0 key (zer8 12) box) else ([], adErr key box)
set_option maxRecDepth 100000 in
set_option maxHeartbeats 2000000 in
theorem rlOpen_ev (key box : List (BitVec 8)) (hkey : key.length = 32) (hbn : box.length ≤ 1099511627) : Ev Tryz.prog (.call 26 [.agg (.a8 key), .c (.bs box)] []) (.val (.tup [.c (.sl 0 0 (opR key box).1.length (opR key box).1.length 1), .c (.val (.int .i64 (((opR key box).2 : Nat) : Int)))]) [.row true (.ab (opR key box).1)]) := by
  unfold opR
  by_cases he : adErr key box = 0
  · rw [if_pos he]
    have h1 : 16 ≤ box.length ∧ box.length - 16 ≤ 65536 ∧ adWork11 key (zer8 12) [] (cut box 0 (box.length - 16)) = cut box (box.length - 16) 16 := by
      unfold adErr at he
      split at he
      · cases he
      · split at he
        · rename_i h1 h2
          exact ⟨by omega, by omega, h2⟩
        · cases he
    have hO := adOpen_evB key box hkey hbn h1.1 h1.2.1 h1.2.2
    have hl : (adOpen0 key (zer8 12) box).length = box.length - 16 := by
      unfold adOpen0
      rw [chXor_len _ _ _ _ hkey (zer8_length 12), cut_length]
      omega
    have h65 := h1.2.1
    generalize adOpen0 key (zer8 12) box = t at *
    generalize box.length - 16 = m at *
    have hS := rlSplit_ev t (by omega)
    generalize spR t = q at *
    refine c_call Tryz.func26 rfl Tryz.ntmps26 rfl LEN_ ?_
    refine S_ ?_
    refine c_region ?_
    refine s_memN (m_box BX_ LEN_) APP_ rfl ?_
    refine s_val (v_assignC rfl) rfl ?_
    refine s_val (v_assignC rfl) rfl ?_
    refine s_nil ?_
    refine S_ ?_
    refine c_region ?_
    first
      | refine s_val (v_loadR rfl rfl row_37 sz_37 EQ_ (by decide)) rfl ?_
      | refine s_val (v_loadW8 rfl rfl row_37 sz_37 LE_ (by decide)) rfl ?_
      | refine s_val (v_loadW64 rfl rfl row_37 sz_37 LE_ (by decide)) rfl ?_
    refine s_val (v_blf8 (l := (zer8 12)) za_98 Tryz.underlying98 sz_5 rfl rfl) rfl ?_
    first
      | refine s_val (v_moveC rfl) rfl ?_
      | refine s_val (v_moveA rfl) rfl ?_
      | refine s_val (v_moveT rfl) rfl ?_
    refine s_evN (e_callR (hO) ok_53 rfl rfl rfl VAL_) APP_ rfl ?_
    first
      | refine s_val (v_moveC rfl) rfl ?_
      | refine s_val (v_moveA rfl) rfl ?_
      | refine s_val (v_moveT rfl) rfl ?_
    refine s_val (v_extract rfl rfl) rfl ?_
    refine s_val (v_extract rfl rfl) rfl ?_
    first
      | refine s_val (v_assignC rfl) rfl ?_
      | refine s_val (v_assignA rfl) rfl ?_
      | refine s_val (v_assignT rfl) rfl ?_
    first
      | refine s_val (v_assignC rfl) rfl ?_
      | refine s_val (v_assignA rfl) rfl ?_
      | refine s_val (v_assignT rfl) rfl ?_
    refine s_nil ?_
    refine S_ ?_
    refine c_hide8 6 rfl rfl hl KILL_ ?_
    refine S_ ?_
    refine c_region ?_
    first
      | refine s_val (v_moveC rfl) rfl ?_
      | refine s_val (v_moveA rfl) rfl ?_
      | refine s_val (v_moveT rfl) rfl ?_
    first
      | refine s_val (v_neqN (b := 0) rfl rfl) rfl ?_
      | refine s_val (v_neqD rfl rfl) rfl ?_
    refine s_nil ?_
    refine S_ ?_
    refine c_region ?_
    first
      | refine s_val (v_moveC rfl) rfl ?_
      | refine s_val (v_moveA rfl) rfl ?_
      | refine s_val (v_moveT rfl) rfl ?_
    refine s_evN (e_callR (hS) ok_15 rfl rfl rfl VAL_) APP_ rfl ?_
    refine s_val (v_extract rfl rfl) rfl ?_
    refine s_val (v_extract rfl rfl) rfl ?_
    first
      | refine s_val (v_assignC rfl) rfl ?_
      | refine s_val (v_assignA rfl) rfl ?_
      | refine s_val (v_assignT rfl) rfl ?_
    first
      | refine s_val (v_assignC rfl) rfl ?_
      | refine s_val (v_assignA rfl) rfl ?_
      | refine s_val (v_assignT rfl) rfl ?_
    refine s_nil ?_
    refine S_ ?_
    exact k_2 (by first | exact r_tmpC rfl | exact r_tmpA rfl) (by first | exact r_tmpC rfl | exact r_tmpA rfl) (by first | kernel_rfl | rfl)
  · rw [if_neg he]
    have hO := adErr_evB key box hkey hbn he
    generalize adErr key box = e at *
    refine c_call Tryz.func26 rfl Tryz.ntmps26 rfl LEN_ ?_
    refine S_ ?_
    refine c_region ?_
    refine s_memN (m_box BX_ LEN_) APP_ rfl ?_
    refine s_val (v_assignC rfl) rfl ?_
    refine s_val (v_assignC rfl) rfl ?_
    refine s_nil ?_
    refine S_ ?_
    refine c_region ?_
    first
      | refine s_val (v_loadR rfl rfl row_37 sz_37 EQ_ (by decide)) rfl ?_
      | refine s_val (v_loadW8 rfl rfl row_37 sz_37 LE_ (by decide)) rfl ?_
      | refine s_val (v_loadW64 rfl rfl row_37 sz_37 LE_ (by decide)) rfl ?_
    refine s_val (v_blf8 (l := (zer8 12)) za_98 Tryz.underlying98 sz_5 rfl rfl) rfl ?_
    first
      | refine s_val (v_moveC rfl) rfl ?_
      | refine s_val (v_moveA rfl) rfl ?_
      | refine s_val (v_moveT rfl) rfl ?_
    refine s_evN (e_callR (hO) ok_53 rfl rfl rfl VAL_) APP_ rfl ?_
    first
      | refine s_val (v_moveC rfl) rfl ?_
      | refine s_val (v_moveA rfl) rfl ?_
      | refine s_val (v_moveT rfl) rfl ?_
    refine s_val (v_extract rfl rfl) rfl ?_
    refine s_val (v_extract rfl rfl) rfl ?_
    first
      | refine s_val (v_assignC rfl) rfl ?_
      | refine s_val (v_assignA rfl) rfl ?_
      | refine s_val (v_assignT rfl) rfl ?_
    first
      | refine s_val (v_assignC rfl) rfl ?_
      | refine s_val (v_assignA rfl) rfl ?_
      | refine s_val (v_assignT rfl) rfl ?_
    refine s_nil ?_
    refine S_ ?_
    refine c_region ?_
    first
      | refine s_val (v_moveC rfl) rfl ?_
      | refine s_val (v_moveA rfl) rfl ?_
      | refine s_val (v_moveT rfl) rfl ?_
    first
      | refine s_val (v_neqN (b := 0) rfl rfl) rfl ?_
      | refine s_val (v_neqD rfl rfl) rfl ?_
    refine s_nil ?_
    refine S_ ?_
    refine c_region ?_
    first
      | refine s_val (v_moveC rfl) rfl ?_
      | refine s_val (v_moveA rfl) rfl ?_
      | refine s_val (v_moveT rfl) rfl ?_
    refine s_val (v_assignC rfl) rfl ?_
    first
      | refine s_val (v_assignC rfl) rfl ?_
      | refine s_val (v_assignA rfl) rfl ?_
      | refine s_val (v_assignT rfl) rfl ?_
    refine s_nil ?_
    refine Q_ ?_
    refine c_nil 4 1 (.ab []) rfl rfl LEN_ rfl ?_
    refine S_ ?_
    exact k_2 (by first | exact r_tmpC rfl | exact r_tmpA rfl) (by first | exact r_tmpC rfl | exact r_tmpA rfl) (by first | kernel_rfl | rfl)
def hvA (l : List (List (BitVec 8))) : Bool := l.any fun x => decide (3000 < x.length)
def hvR (l : List (List (BitVec 8))) : Bool := decide (200 < l.length) || hvA l
end Go.Proofs.YtmbepikkgkcgkaaGreatDoor
namespace Go.Proofs.YtmbepikkgkcgkaaGreatDoor
open Go.RowKit
theorem o_eqlP {P : Program} {e : Operand → AV} {M : Mem} {t t2 : TypeId} {x y : Operand} {b o : Nat} (hu : P.underlying t = some (.pointer (P.pointee t))) (hx : e x = .c (.ptr b o)) (hy : e y = .c (.val (.pointer none))) : Ev P (.op (.binOp .eql t x y t2) e M) (.val (.c (.val (.bool false))) M) :=
  Ev.sem fun O ι w ρ hO hR hρ => by
    obtain ⟨dst, op, ty, pos, af, gd⟩ := O
    subst hO
    have h1 := hρ x (by simp [Op.operands])
    have h2 := hρ y (by simp [Op.operands])
    rw [hx] at h1; rw [hy] at h2
    obtain ⟨l, hl, hv⟩ := h1
    have h2 : ρ y = .pointer none := h2
    refine .inl ⟨.bool false, w, ι, .inl ?_, rfl, Step.refl hR (Nat.le_refl _)⟩
    simp [execOp, hv, h2, eqGuard, run_eql_pointer_nil _ t _ hu]
theorem und42 : Tryz.prog.underlying 42 = some (.pointer (Tryz.prog.pointee 42)) := by kernel_rfl
set_option maxRecDepth 100000 in
theorem mkNI_ev (L : List Nd) (N : Nat) (k n : Int) (a : List Int) (hA : ArOk L) (hN : L.length = N) (hNl : N < 1000000) (hml : a.length ≤ 1000) (hr : ∀ x ∈ k :: n :: a, -9223372036854775808 ≤ x ∧ x ≤ 9223372036854775807) (he : mkErr N k n a = 0) (hf : findN L ⟨k, n, a⟩ = none) :
    Ev Tryz.prog (.call 21 [.c (.ptr 0 0), .c (.val (.int .i64 k)), .c (.val (.int .i64 n)), .c (.is a)] [.row true (.ac [.sl 1 0 N N 3, .mp 2]), .row true (.an L), .row true (.mp (arEnt L))])
      (.val (.tup [.c (.val (.int .i64 ((N : Nat) : Int))), .c (.val (.int .i64 ((0 : Nat) : Int)))]) [.row true (.ac [.sl 3 0 (N + 1) (N + 1) 3, .mp 2]), .dead, .row true (.mp (arEnt (L ++ [⟨k, n, a⟩]))), .row true (.an (L ++ [⟨k, n, a⟩]))]) := by
  have h1 := mkN_ev L N k n a a.length a.length hA hN (by omega) rfl hml hr he hf
  have h2 : Ev Tryz.prog (.call 21 [.c (.ptr 0 0), .c (.val (.int .i64 k)), .c (.val (.int .i64 n)), .c (.sl 3 0 a.length a.length 1)] [.row true (.ac [.sl 1 0 N N 3, .mp 2]), .row true (.an L), .row true (.mp (arEnt L)), .row false (.ai a)])
      (.val (.tup [.c (.val (.int .i64 ((N : Nat) : Int))), .c (.val (.int .i64 ((0 : Nat) : Int)))]) [.row true (.ac [.sl 4 0 (N + 1) (N + 1) 3, .mp 2]), .dead, .row true (.mp (arEnt (L ++ [⟨k, n, a⟩]))), .row false (.ai a), .row true (.an (L ++ [⟨k, n, a⟩]))]) :=
    Ev.relink [0, 3, 1, 2] (by kernel_rfl) (by kernel_rfl) (by kernel_rfl) h1 (by kernel_rfl) (by kernel_rfl)
  exact Ev.isRow (a := a) (args' := [.c (.ptr 0 0), .c (.val (.int .i64 k)), .c (.val (.int .i64 n)), .c (.sl 3 0 a.length a.length 1)]) 3 [4] rfl rfl rfl (fun j hj => by match j with | 0 => rfl | 1 => rfl | 2 => rfl | 3 => exact absurd rfl hj | j + 4 => rfl) h2 (by kernel_rfl) (by kernel_rfl) (by kernel_rfl) (by kernel_rfl)
theorem mkN0_ev (L : List Nd) (N : Nat) (k n : Int) (hA : ArOk L) (hN : L.length = N) (hNl : N < 1000000) (hr : ∀ x ∈ [k, n], -9223372036854775808 ≤ x ∧ x ≤ 9223372036854775807) (he : mkErr N k n [] = 0) (hf : findN L ⟨k, n, []⟩ = none) :
    Ev Tryz.prog (.call 21 [.c (.ptr 0 0), .c (.val (.int .i64 k)), .c (.val (.int .i64 n)), .c .nsl] [.row true (.ac [.sl 1 0 N N 3, .mp 2]), .row true (.an L), .row true (.mp (arEnt L))])
      (.val (.tup [.c (.val (.int .i64 ((N : Nat) : Int))), .c (.val (.int .i64 ((0 : Nat) : Int)))]) [.row true (.ac [.sl 3 0 (N + 1) (N + 1) 3, .mp 2]), .dead, .row true (.mp (arEnt (L ++ [⟨k, n, []⟩]))), .row true (.an (L ++ [⟨k, n, []⟩]))]) :=
  Ev.weakA (.same (.same (.same (.nilZ .nil)))) (mkNI_ev L N k n [] hA hN hNl (by decide) hr he hf)
end Go.Proofs.YtmbepikkgkcgkaaGreatDoor
namespace Go.Proofs.YtmbepikkgkcgkaaGreatDoor
open Go.RowKit
def wL1 : List Nd := [⟨1, 1, []⟩]
def wL2 : List Nd := [⟨1, 1, []⟩, ⟨2, 2, []⟩]
def wL3 : List Nd := [⟨1, 1, []⟩, ⟨2, 2, []⟩, ⟨6, 0, [0, 1]⟩]
theorem wA1 : ArOk wL1 := ArOk.snoc .nil (by decide) (by decide) rfl
theorem wA2 : ArOk wL2 := ArOk.snoc (L := wL1) wA1 (by decide) (by decide) (by decide)
theorem wA3 : ArOk wL3 := ArOk.snoc (L := wL2) wA2 (by decide) (by decide) (by decide)
def noX : Nd → (Int → List (BitVec 8)) → List (BitVec 8) × Nat := fun _ _ => ([], 0)
theorem wH (i : Nat) (hi : i < 3) : ¬ hard wL3 (getn wL3 i) := by
  match i, hi with
  | 0, _ => unfold hard; decide
  | 1, _ => unfold hard; decide
  | 2, _ => unfold hard; decide
def wK : List (BitVec 8) := sha256 (kAtom ++ rlNum8 1)
def wM : List (BitVec 8) := sha256 (kWord ++ rlNum8 2)
def wS : List (BitVec 8) := adSeal0 (sha256 wK) (zer8 12) [] (jn [wM])
theorem wM_len : wM.length = 32 := sha256_len _
theorem wK_len : wK.length = 32 := sha256_len _
theorem w0 : bsOf noX wL3 0 = (wK, 0) := rfl
theorem w1 : bsOf noX wL3 1 = (wM, 0) := rfl
theorem wJ : jnR [wM] = (jn [wM], 0) := by
  unfold jnR
  rw [if_pos (by rw [jl_cons, wM_len]; decide)]
theorem w2run : bsRun noX wL3 (beneath wL3 2) [] = bsRun noX wL3 [2] [(0, wK), (1, wM)] := rfl
theorem w2btR : btR noX wL3 (dget [(0, wK), (1, wM)]) (getn wL3 (2 : Int).toNat) = btSeal (sha256 wK) (jnR [wM]) := rfl
theorem w2s : btSeal (sha256 wK) (jnR [wM]) = (wS, 0) := by rw [wJ]; rfl
theorem w2 : bsOf noX wL3 2 = (wS, 0) := by
  unfold bsOf
  rw [w2run, bsRun.eq_2, w2btR, w2s, if_pos rfl]
  rfl
theorem wS_len : wS.length = 52 := by
  unfold wS
  rw [adSeal0_len _ _ _ _ (sha256_len _) (zer8_length 12), jn_len, jl_cons, wM_len]
  rfl
theorem wO : opR (sha256 wK) wS = ([wM], 0) := by
  have hj : jl [wM] = 36 := by rw [jl_cons, wM_len]; rfl
  have e : adWork11 (sha256 wK) (zer8 12) [] (cut wS 0 (wS.length - 16)) = cut wS (wS.length - 16) 16 := sealOk (sha256 wK) (zer8 12) (jn [wM]) (sha256_len _) (zer8_length 12)
  have he : adErr (sha256 wK) wS = 0 := by
    unfold adErr
    rw [if_neg (by rw [wS_len]; decide), if_pos e]
  unfold opR
  rw [if_pos he, show adOpen0 (sha256 wK) (zer8 12) wS = jn [wM] from sealBack (sha256 wK) (zer8 12) (jn [wM]) (sha256_len _) (zer8_length 12)]
  exact spR_some (by rw [jn_len, hj]; decide) (sp_jn _ (by rw [hj]; decide))
theorem wB (i : Nat) (hi : i < 3) (v : List (BitVec 8)) (h : bsOf noX wL3 i = (v, 0)) : Ev Tryz.prog (.call 22 [.c (.ptr 0 0), .c (.val (.int .i64 (i : Int)))] [.row false (.ac [.sl 1 0 3 3 3, .mp 2]), .row false (.an wL3), .row false (.mp (arEnt wL3))]) (.val (.tup [.c (.bs v), .c (.val (.int .i64 ((0 : Nat) : Int)))]) [.row false (.ac [.sl 1 0 3 3 3, .mp 2]), .row false (.an wL3), .row false (.mp (arEnt wL3))]) := by
  have := rlBytes_ev noX wL3 (arEnt wL3) 3 i rfl (by decide) hi wA3 (fun D k hk _ _ hh => absurd hh (wH k (by have := (beneath_lt wL3 i _ hk).2; omega)))
  rw [h] at this
  exact this
attribute [irreducible] wK wM wS
set_option maxRecDepth 100000 in
set_option maxHeartbeats 2000000 in
theorem wakes_ev : Ev Tryz.prog (.call 19 [] []) (.val (.c (.val (.bool true))) []) := by
  have m1 := mkN0_ev [] 0 1 1 .nil rfl (by decide) (by decide) (by decide) rfl
  have m2 := mkN0_ev wL1 1 2 2 wA1 rfl (by decide) (by decide) (by decide) (by decide)
  have m3 := mkNI_ev wL2 2 6 0 [0, 1] wA2 rfl (by decide) (by decide) (by decide) (by decide) (by decide)
  have b0 := wB 0 (by decide) wK w0
  have b1 := wB 1 (by decide) wM w1
  have b2 := wB 2 (by decide) wS w2
  have hO := rlOpen_ev (sha256 wK) wS (sha256_len _) (by rw [wS_len]; decide)
  rw [wO] at hO
  dsimp only [List.length] at hO
  have hMl := wM_len
  have hKl := wK_len
  refine c_call Tryz.func19 rfl Tryz.ntmps19 rfl LEN_ ?_
  refine S_ ?_
  refine c_region ?_
  refine s_val (v_assignC rfl) rfl ?_
  refine s_nil ?_
  refine S_ ?_
  refine c_region ?_
  refine s_evN (e_callR (new_ev) ok_20 rfl rfl rfl VAL_) APP_ rfl ?_
  first
    | refine s_val (v_assignC rfl) rfl ?_
    | refine s_val (v_assignA rfl) rfl ?_
    | refine s_val (v_assignT rfl) rfl ?_
  refine s_nil ?_
  refine S_ ?_
  refine c_region ?_
  first
    | refine s_val (v_moveC rfl) rfl ?_
    | refine s_val (v_moveA rfl) rfl ?_
    | refine s_val (v_moveT rfl) rfl ?_
  refine s_ev (o_eqlP und42 rfl rfl) rfl ?_
  refine s_nil ?_
  refine S_ ?_
  refine c_region ?_
  first
    | refine s_val (v_moveC rfl) rfl ?_
    | refine s_val (v_moveA rfl) rfl ?_
    | refine s_val (v_moveT rfl) rfl ?_
  refine s_ev (e_callK (bs := [0,1,2]) (m1) ok_21 (by kernel_rfl) rfl rfl VAL_ APP_) rfl ?_
  first
    | refine s_val (v_moveC rfl) rfl ?_
    | refine s_val (v_moveA rfl) rfl ?_
    | refine s_val (v_moveT rfl) rfl ?_
  refine s_val (v_extract rfl rfl) rfl ?_
  refine s_val (v_extract rfl rfl) rfl ?_
  first
    | refine s_val (v_assignC rfl) rfl ?_
    | refine s_val (v_assignA rfl) rfl ?_
    | refine s_val (v_assignT rfl) rfl ?_
  first
    | refine s_val (v_assignC rfl) rfl ?_
    | refine s_val (v_assignA rfl) rfl ?_
    | refine s_val (v_assignT rfl) rfl ?_
  refine s_nil ?_
  refine S_ ?_
  refine c_region ?_
  first
    | refine s_val (v_moveC rfl) rfl ?_
    | refine s_val (v_moveA rfl) rfl ?_
    | refine s_val (v_moveT rfl) rfl ?_
  refine s_ev (e_callK (bs := [0,3,2]) (m2) ok_21 (by kernel_rfl) rfl rfl VAL_ APP_) rfl ?_
  first
    | refine s_val (v_moveC rfl) rfl ?_
    | refine s_val (v_moveA rfl) rfl ?_
    | refine s_val (v_moveT rfl) rfl ?_
  refine s_val (v_extract rfl rfl) rfl ?_
  refine s_val (v_extract rfl rfl) rfl ?_
  first
    | refine s_val (v_assignC rfl) rfl ?_
    | refine s_val (v_assignA rfl) rfl ?_
    | refine s_val (v_assignT rfl) rfl ?_
  first
    | refine s_val (v_assignC rfl) rfl ?_
    | refine s_val (v_assignA rfl) rfl ?_
    | refine s_val (v_assignT rfl) rfl ?_
  refine s_nil ?_
  refine S_ ?_
  refine c_region ?_
  first
    | refine s_val (v_moveC rfl) rfl ?_
    | refine s_val (v_moveA rfl) rfl ?_
    | refine s_val (v_moveT rfl) rfl ?_
  first
    | refine s_val (v_moveC rfl) rfl ?_
    | refine s_val (v_moveA rfl) rfl ?_
    | refine s_val (v_moveT rfl) rfl ?_
  first
    | refine s_val (v_moveC rfl) rfl ?_
    | refine s_val (v_moveA rfl) rfl ?_
    | refine s_val (v_moveT rfl) rfl ?_
  refine s_ev (o_quietI (Ev.mem (m_bsI (l := [_, _]) Tryz.underlying41 el_3 rfl rfl (by decide) (by decide) LEN_)) LEN_ LQ_ rfl) rfl ?_
  refine s_ev (e_callK (bs := [0,4,2]) (m3) ok_21 (by kernel_rfl) rfl rfl VAL_ APP_) rfl ?_
  first
    | refine s_val (v_moveC rfl) rfl ?_
    | refine s_val (v_moveA rfl) rfl ?_
    | refine s_val (v_moveT rfl) rfl ?_
  refine s_val (v_extract rfl rfl) rfl ?_
  refine s_val (v_extract rfl rfl) rfl ?_
  first
    | refine s_val (v_assignC rfl) rfl ?_
    | refine s_val (v_assignA rfl) rfl ?_
    | refine s_val (v_assignT rfl) rfl ?_
  first
    | refine s_val (v_assignC rfl) rfl ?_
    | refine s_val (v_assignA rfl) rfl ?_
    | refine s_val (v_assignT rfl) rfl ?_
  refine s_nil ?_
  refine S_ ?_
  refine c_region ?_
  first
    | refine s_val (v_moveC rfl) rfl ?_
    | refine s_val (v_moveA rfl) rfl ?_
    | refine s_val (v_moveT rfl) rfl ?_
  first
    | refine s_val (v_moveC rfl) rfl ?_
    | refine s_val (v_moveA rfl) rfl ?_
    | refine s_val (v_moveT rfl) rfl ?_
  refine s_evN (e_callR (bs := [0,5,2]) (b0) ok_22 (by kernel_rfl) (by kernel_rfl) rfl VAL_) APP_ rfl ?_
  first
    | refine s_val (v_moveC rfl) rfl ?_
    | refine s_val (v_moveA rfl) rfl ?_
    | refine s_val (v_moveT rfl) rfl ?_
  refine s_val (v_extract rfl rfl) rfl ?_
  refine s_val (v_extract rfl rfl) rfl ?_
  first
    | refine s_val (v_assignC rfl) rfl ?_
    | refine s_val (v_assignA rfl) rfl ?_
    | refine s_val (v_assignT rfl) rfl ?_
  first
    | refine s_val (v_assignC rfl) rfl ?_
    | refine s_val (v_assignA rfl) rfl ?_
    | refine s_val (v_assignT rfl) rfl ?_
  refine s_nil ?_
  refine S_ ?_
  refine c_region ?_
  first
    | refine s_val (v_moveC rfl) rfl ?_
    | refine s_val (v_moveA rfl) rfl ?_
    | refine s_val (v_moveT rfl) rfl ?_
  first
    | refine s_val (v_moveC rfl) rfl ?_
    | refine s_val (v_moveA rfl) rfl ?_
    | refine s_val (v_moveT rfl) rfl ?_
  refine s_evN (e_callR (bs := [0,5,2]) (b2) ok_22 (by kernel_rfl) (by kernel_rfl) rfl VAL_) APP_ rfl ?_
  first
    | refine s_val (v_moveC rfl) rfl ?_
    | refine s_val (v_moveA rfl) rfl ?_
    | refine s_val (v_moveT rfl) rfl ?_
  refine s_val (v_extract rfl rfl) rfl ?_
  refine s_val (v_extract rfl rfl) rfl ?_
  first
    | refine s_val (v_assignC rfl) rfl ?_
    | refine s_val (v_assignA rfl) rfl ?_
    | refine s_val (v_assignT rfl) rfl ?_
  first
    | refine s_val (v_assignC rfl) rfl ?_
    | refine s_val (v_assignA rfl) rfl ?_
    | refine s_val (v_assignT rfl) rfl ?_
  refine s_nil ?_
  refine S_ ?_
  refine c_region ?_
  first
    | refine s_val (v_moveC rfl) rfl ?_
    | refine s_val (v_moveA rfl) rfl ?_
    | refine s_val (v_moveT rfl) rfl ?_
  first
    | refine s_val (v_moveC rfl) rfl ?_
    | refine s_val (v_moveA rfl) rfl ?_
    | refine s_val (v_moveT rfl) rfl ?_
  refine s_evN (e_callR (bs := [0,5,2]) (b1) ok_22 (by kernel_rfl) (by kernel_rfl) rfl VAL_) APP_ rfl ?_
  first
    | refine s_val (v_moveC rfl) rfl ?_
    | refine s_val (v_moveA rfl) rfl ?_
    | refine s_val (v_moveT rfl) rfl ?_
  refine s_val (v_extract rfl rfl) rfl ?_
  refine s_val (v_extract rfl rfl) rfl ?_
  first
    | refine s_val (v_assignC rfl) rfl ?_
    | refine s_val (v_assignA rfl) rfl ?_
    | refine s_val (v_assignT rfl) rfl ?_
  first
    | refine s_val (v_assignC rfl) rfl ?_
    | refine s_val (v_assignA rfl) rfl ?_
    | refine s_val (v_assignT rfl) rfl ?_
  refine s_nil ?_
  refine S_ ?_
  refine c_region ?_
  first
    | refine s_val (v_moveC rfl) rfl ?_
    | refine s_val (v_moveA rfl) rfl ?_
    | refine s_val (v_moveT rfl) rfl ?_
  refine s_evN (e_callR (key_evB wK (by rw [hKl]; decide)) ok_17 rfl rfl rfl VAL_) APP_ rfl ?_
  first
    | refine s_val (v_moveC rfl) rfl ?_
    | refine s_val (v_moveA rfl) rfl ?_
    | refine s_val (v_moveT rfl) rfl ?_
  refine s_evN (e_callR (hO) ok_26 rfl rfl rfl VAL_) APP_ rfl ?_
  first
    | refine s_val (v_moveC rfl) rfl ?_
    | refine s_val (v_moveA rfl) rfl ?_
    | refine s_val (v_moveT rfl) rfl ?_
  refine s_val (v_extract rfl rfl) rfl ?_
  refine s_val (v_extract rfl rfl) rfl ?_
  first
    | refine s_val (v_assignC rfl) rfl ?_
    | refine s_val (v_assignA rfl) rfl ?_
    | refine s_val (v_assignT rfl) rfl ?_
  first
    | refine s_val (v_assignC rfl) rfl ?_
    | refine s_val (v_assignA rfl) rfl ?_
    | refine s_val (v_assignT rfl) rfl ?_
  refine s_nil ?_
  refine S_ ?_
  refine c_region ?_
  first
    | refine s_val (v_moveC rfl) rfl ?_
    | refine s_val (v_moveA rfl) rfl ?_
    | refine s_val (v_moveT rfl) rfl ?_
  first
    | refine s_val (v_eqlN (b := 0) rfl rfl) rfl ?_
    | refine s_val (v_eqlD rfl rfl) rfl ?_
  first
    | refine s_val (v_moveC rfl) rfl ?_
    | refine s_val (v_moveA rfl) rfl ?_
    | refine s_val (v_moveT rfl) rfl ?_
  first
    | refine s_go GOG_ ?_
      first
        | refine s_val (v_moveC rfl) rfl ?_
        | refine s_val (v_moveA rfl) rfl ?_
        | refine s_val (v_moveT rfl) rfl ?_
    | refine s_no GOG_ rfl ?_
  first
    | refine s_go GOG_ ?_
      first
        | refine s_val (v_eqlN (b := 0) rfl rfl) rfl ?_
        | refine s_val (v_eqlD rfl rfl) rfl ?_
    | refine s_no GOG_ rfl ?_
  first
    | refine s_val (v_pickT rfl PK_ rfl) rfl ?_
    | refine s_val (v_pickF rfl PK_ rfl) rfl ?_
    | refine s_val (v_pickOr rfl rfl rfl) rfl ?_
    | refine s_val (v_pickAnd rfl rfl rfl) rfl ?_
  first
    | refine s_val (v_moveC rfl) rfl ?_
    | refine s_val (v_moveA rfl) rfl ?_
    | refine s_val (v_moveT rfl) rfl ?_
  first
    | refine s_go GOG_ ?_
      first
        | refine s_val (v_moveC rfl) rfl ?_
        | refine s_val (v_moveA rfl) rfl ?_
        | refine s_val (v_moveT rfl) rfl ?_
    | refine s_no GOG_ rfl ?_
  first
    | refine s_go GOG_ ?_
      first
        | refine s_val (v_eqlN (b := 0) rfl rfl) rfl ?_
        | refine s_val (v_eqlD rfl rfl) rfl ?_
    | refine s_no GOG_ rfl ?_
  first
    | refine s_val (v_pickT rfl PK_ rfl) rfl ?_
    | refine s_val (v_pickF rfl PK_ rfl) rfl ?_
    | refine s_val (v_pickOr rfl rfl rfl) rfl ?_
    | refine s_val (v_pickAnd rfl rfl rfl) rfl ?_
  first
    | refine s_val (v_moveC rfl) rfl ?_
    | refine s_val (v_moveA rfl) rfl ?_
    | refine s_val (v_moveT rfl) rfl ?_
  first
    | refine s_go GOG_ ?_
      first
        | refine s_val (v_moveC rfl) rfl ?_
        | refine s_val (v_moveA rfl) rfl ?_
        | refine s_val (v_moveT rfl) rfl ?_
    | refine s_no GOG_ rfl ?_
  first
    | refine s_go GOG_ ?_
      first
        | refine s_val (v_eqlN (b := 0) rfl rfl) rfl ?_
        | refine s_val (v_eqlD rfl rfl) rfl ?_
    | refine s_no GOG_ rfl ?_
  first
    | refine s_val (v_pickT rfl PK_ rfl) rfl ?_
    | refine s_val (v_pickF rfl PK_ rfl) rfl ?_
    | refine s_val (v_pickOr rfl rfl rfl) rfl ?_
    | refine s_val (v_pickAnd rfl rfl rfl) rfl ?_
  first
    | refine s_val (v_moveC rfl) rfl ?_
    | refine s_val (v_moveA rfl) rfl ?_
    | refine s_val (v_moveT rfl) rfl ?_
  first
    | refine s_go GOG_ ?_
      first
        | refine s_val (v_moveC rfl) rfl ?_
        | refine s_val (v_moveA rfl) rfl ?_
        | refine s_val (v_moveT rfl) rfl ?_
    | refine s_no GOG_ rfl ?_
  first
    | refine s_go GOG_ ?_
      first
        | refine s_val (v_lenS rfl Tryz.underlying22) rfl ?_
        | refine s_val (v_lenN rfl Tryz.underlying22) rfl ?_
        | refine s_val (v_lenE rfl Tryz.underlying22) rfl ?_
        | refine s_val (v_lenB rfl Tryz.underlying22 rfl) rfl ?_
        | refine s_val (v_lenZ rfl Tryz.underlying22 rfl) rfl ?_
    | refine s_no GOG_ rfl ?_
  first
    | refine s_go GOG_ ?_
      first
        | refine s_val (v_eqlN (b := 1) rfl rfl) rfl ?_
        | refine s_val (v_eqlD rfl rfl) rfl ?_
    | refine s_no GOG_ rfl ?_
  first
    | refine s_val (v_pickT rfl PK_ rfl) rfl ?_
    | refine s_val (v_pickF rfl PK_ rfl) rfl ?_
    | refine s_val (v_pickOr rfl rfl rfl) rfl ?_
    | refine s_val (v_pickAnd rfl rfl rfl) rfl ?_
  first
    | refine s_val (v_moveC rfl) rfl ?_
    | refine s_val (v_moveA rfl) rfl ?_
    | refine s_val (v_moveT rfl) rfl ?_
  first
    | refine s_go GOG_ ?_
      first
        | refine s_val (v_moveC rfl) rfl ?_
        | refine s_val (v_moveA rfl) rfl ?_
        | refine s_val (v_moveT rfl) rfl ?_
    | refine s_no GOG_ rfl ?_
  first
    | refine s_go GOG_ ?_
      first
        | refine s_val (v_idxS1 (j := 0) rfl rfl Tryz.underlying22 sz_23 (by omega)) rfl ?_
        | refine s_val (v_idxSo (j := 0) rfl rfl Tryz.underlying22 sz_23 (by omega)) rfl ?_
        | refine s_val (v_idxS (j := 0) rfl rfl Tryz.underlying22 sz_23 (by omega)) rfl ?_
    | refine s_no GOG_ rfl ?_
  first
    | refine s_go GOG_ ?_
      first
        | refine s_val (v_loadB rfl rfl row_23 LT_) rfl ?_
        | refine s_val (v_load rfl rfl row_23 LT_ rfl) rfl ?_
    | refine s_no GOG_ rfl ?_
  first
    | refine s_go GOG_ ?_
      first
        | refine s_val (v_moveC rfl) rfl ?_
        | refine s_val (v_moveA rfl) rfl ?_
        | refine s_val (v_moveT rfl) rfl ?_
    | refine s_no GOG_ rfl ?_
  first
    | refine s_go GOG_ ?_
      refine s_evN (e_callR (keepB_ev wM (by rw [hMl]; decide)) ok_13 rfl rfl rfl VAL_) APP_ rfl ?_
    | refine s_no GOG_ rfl ?_
  first
    | refine s_val (v_pickT rfl PK_ rfl) rfl ?_
    | refine s_val (v_pickF rfl PK_ rfl) rfl ?_
    | refine s_val (v_pickOr rfl rfl rfl) rfl ?_
    | refine s_val (v_pickAnd rfl rfl rfl) rfl ?_
  first
    | refine s_val (v_moveC rfl) rfl ?_
    | refine s_val (v_moveA rfl) rfl ?_
    | refine s_val (v_moveT rfl) rfl ?_
  first
    | refine s_go GOG_ ?_
      first
        | refine s_val (v_moveC rfl) rfl ?_
        | refine s_val (v_moveA rfl) rfl ?_
        | refine s_val (v_moveT rfl) rfl ?_
    | refine s_no GOG_ rfl ?_
  first
    | refine s_go GOG_ ?_
      first
        | refine s_val (v_lenS rfl Tryz.underlying23) rfl ?_
        | refine s_val (v_lenN rfl Tryz.underlying23) rfl ?_
        | refine s_val (v_lenE rfl Tryz.underlying23) rfl ?_
        | refine s_val (v_lenB rfl Tryz.underlying23 rfl) rfl ?_
        | refine s_val (v_lenZ rfl Tryz.underlying23 rfl) rfl ?_
    | refine s_no GOG_ rfl ?_
  first
    | refine s_go GOG_ ?_
      first
        | refine s_val (v_eqlN (b := 32) rfl rfl) rfl ?_
        | refine s_val (v_eqlD rfl rfl) rfl ?_
    | refine s_no GOG_ rfl ?_
  first
    | refine s_val (v_pickT rfl PK_ rfl) rfl ?_
    | refine s_val (v_pickF rfl PK_ rfl) rfl ?_
    | refine s_val (v_pickOr rfl rfl rfl) rfl ?_
    | refine s_val (v_pickAnd rfl rfl rfl) rfl ?_
  first
    | refine s_val (v_assignC rfl) rfl ?_
    | refine s_val (v_assignA rfl) rfl ?_
    | refine s_val (v_assignT rfl) rfl ?_
  refine s_nil ?_
  refine S_ ?_
  exact k_1 (by first | exact r_tmpC rfl | exact r_tmpA rfl) (by first | kernel_rfl | rfl)
end Go.Proofs.YtmbepikkgkcgkaaGreatDoor
namespace Go.Proofs.YtmbepikkgkcgkaaGreatDoor
open Go.RowKit
set_option maxRecDepth 100000 in
set_option maxHeartbeats 2000000 in
theorem unboxS_ev (key box : List (BitVec 8)) (hkey : key.length = 32) (h : box.length < 48) : Ev Tryz.prog (.call 28 [.agg (.a8 key), .c (.bs box)] []) (.val (.tup [.c .nsl, .c (.val (.int .i64 ((2 : Nat) : Int)))]) []) := by
  have hkey := hkey
  refine c_call Tryz.func28 rfl Tryz.ntmps28 rfl LEN_ ?_
  refine S_ ?_
  refine c_region ?_
  refine s_memN (m_box BX_ LEN_) APP_ rfl ?_
  refine s_val (v_assignC rfl) rfl ?_
  refine s_val (v_assignC rfl) rfl ?_
  refine s_nil ?_
  refine S_ ?_
  refine c_region ?_
  first
    | refine s_val (v_moveC rfl) rfl ?_
    | refine s_val (v_moveA rfl) rfl ?_
    | refine s_val (v_moveT rfl) rfl ?_
  first
    | refine s_val (v_lenS rfl Tryz.underlying23) rfl ?_
    | refine s_val (v_lenN rfl Tryz.underlying23) rfl ?_
    | refine s_val (v_lenE rfl Tryz.underlying23) rfl ?_
    | refine s_val (v_lenB rfl Tryz.underlying23 rfl) rfl ?_
    | refine s_val (v_lenZ rfl Tryz.underlying23 rfl) rfl ?_
  first
    | refine s_val (v_lssN (b := 48) rfl rfl) rfl ?_
    | refine s_val (v_lssI rfl rfl) rfl ?_
  refine s_nil ?_
  refine S_ ?_
  refine c_region ?_
  refine s_val (v_assignC rfl) rfl ?_
  refine s_val (v_assignC rfl) rfl ?_
  refine s_nil ?_
  refine S_ ?_
  exact k_2 (by first | exact r_tmpC rfl | exact r_tmpA rfl) (by first | exact r_tmpC rfl | exact r_tmpA rfl) (by first | kernel_rfl | rfl)
set_option maxRecDepth 100000 in
set_option maxHeartbeats 2000000 in
theorem signedL_ev (pub sig : List (BitVec 8)) (h : ¬ pub.length = 64) : Ev Tryz.prog (.call 30 [.c (.bs pub), .c (.bs sig)] []) (.val (.tup [.c .nsl, .c (.val (.int .i64 ((2 : Nat) : Int)))]) []) := by
  refine c_call Tryz.func30 rfl Tryz.ntmps30 rfl LEN_ ?_
  refine S_ ?_
  refine c_region ?_
  refine s_val (v_assignC rfl) rfl ?_
  refine s_val (v_assignC rfl) rfl ?_
  refine s_nil ?_
  refine S_ ?_
  refine c_region ?_
  first
    | refine s_val (v_moveC rfl) rfl ?_
    | refine s_val (v_moveA rfl) rfl ?_
    | refine s_val (v_moveT rfl) rfl ?_
  first
    | refine s_val (v_lenS rfl Tryz.underlying23) rfl ?_
    | refine s_val (v_lenN rfl Tryz.underlying23) rfl ?_
    | refine s_val (v_lenE rfl Tryz.underlying23) rfl ?_
    | refine s_val (v_lenB rfl Tryz.underlying23 rfl) rfl ?_
    | refine s_val (v_lenZ rfl Tryz.underlying23 rfl) rfl ?_
  first
    | refine s_val (v_neqN (b := 64) rfl rfl) rfl ?_
    | refine s_val (v_neqD rfl rfl) rfl ?_
  first
    | refine s_val (v_moveC rfl) rfl ?_
    | refine s_val (v_moveA rfl) rfl ?_
    | refine s_val (v_moveT rfl) rfl ?_
  first
    | refine s_go GOG_ ?_
      first
        | refine s_val (v_moveC rfl) rfl ?_
        | refine s_val (v_moveA rfl) rfl ?_
        | refine s_val (v_moveT rfl) rfl ?_
    | refine s_no GOG_ rfl ?_
  first
    | refine s_go GOG_ ?_
      first
        | refine s_val (v_lenS rfl Tryz.underlying23) rfl ?_
        | refine s_val (v_lenN rfl Tryz.underlying23) rfl ?_
        | refine s_val (v_lenE rfl Tryz.underlying23) rfl ?_
        | refine s_val (v_lenB rfl Tryz.underlying23 rfl) rfl ?_
        | refine s_val (v_lenZ rfl Tryz.underlying23 rfl) rfl ?_
    | refine s_no GOG_ rfl ?_
  first
    | refine s_go GOG_ ?_
      first
        | refine s_val (v_lssN (b := 64) rfl rfl) rfl ?_
        | refine s_val (v_lssI rfl rfl) rfl ?_
    | refine s_no GOG_ rfl ?_
  first
    | refine s_val (v_pickT rfl PK_ rfl) rfl ?_
    | refine s_val (v_pickF rfl PK_ rfl) rfl ?_
    | refine s_val (v_pickOr rfl rfl rfl) rfl ?_
    | refine s_val (v_pickAnd rfl rfl rfl) rfl ?_
  first
    | refine s_val (v_assignC rfl) rfl ?_
    | refine s_val (v_assignA rfl) rfl ?_
    | refine s_val (v_assignT rfl) rfl ?_
  refine s_nil ?_
  refine S_ ?_
  refine c_region ?_
  refine s_val (v_assignC rfl) rfl ?_
  refine s_val (v_assignC rfl) rfl ?_
  refine s_nil ?_
  refine S_ ?_
  exact k_2 (by first | exact r_tmpC rfl | exact r_tmpA rfl) (by first | exact r_tmpC rfl | exact r_tmpA rfl) (by first | kernel_rfl | rfl)
set_option maxRecDepth 100000 in
set_option maxHeartbeats 2000000 in
theorem signedS_ev (pub sig : List (BitVec 8)) (h : pub.length = 64) (h2 : sig.length < 64) : Ev Tryz.prog (.call 30 [.c (.bs pub), .c (.bs sig)] []) (.val (.tup [.c .nsl, .c (.val (.int .i64 ((2 : Nat) : Int)))]) []) := by
  refine c_call Tryz.func30 rfl Tryz.ntmps30 rfl LEN_ ?_
  refine S_ ?_
  refine c_region ?_
  refine s_val (v_assignC rfl) rfl ?_
  refine s_val (v_assignC rfl) rfl ?_
  refine s_nil ?_
  refine S_ ?_
  refine c_region ?_
  first
    | refine s_val (v_moveC rfl) rfl ?_
    | refine s_val (v_moveA rfl) rfl ?_
    | refine s_val (v_moveT rfl) rfl ?_
  first
    | refine s_val (v_lenS rfl Tryz.underlying23) rfl ?_
    | refine s_val (v_lenN rfl Tryz.underlying23) rfl ?_
    | refine s_val (v_lenE rfl Tryz.underlying23) rfl ?_
    | refine s_val (v_lenB rfl Tryz.underlying23 rfl) rfl ?_
    | refine s_val (v_lenZ rfl Tryz.underlying23 rfl) rfl ?_
  first
    | refine s_val (v_neqN (b := 64) rfl rfl) rfl ?_
    | refine s_val (v_neqD rfl rfl) rfl ?_
  first
    | refine s_val (v_moveC rfl) rfl ?_
    | refine s_val (v_moveA rfl) rfl ?_
    | refine s_val (v_moveT rfl) rfl ?_
  first
    | refine s_go GOG_ ?_
      first
        | refine s_val (v_moveC rfl) rfl ?_
        | refine s_val (v_moveA rfl) rfl ?_
        | refine s_val (v_moveT rfl) rfl ?_
    | refine s_no GOG_ rfl ?_
  first
    | refine s_go GOG_ ?_
      first
        | refine s_val (v_lenS rfl Tryz.underlying23) rfl ?_
        | refine s_val (v_lenN rfl Tryz.underlying23) rfl ?_
        | refine s_val (v_lenE rfl Tryz.underlying23) rfl ?_
        | refine s_val (v_lenB rfl Tryz.underlying23 rfl) rfl ?_
        | refine s_val (v_lenZ rfl Tryz.underlying23 rfl) rfl ?_
    | refine s_no GOG_ rfl ?_
  first
    | refine s_go GOG_ ?_
      first
        | refine s_val (v_lssN (b := 64) rfl rfl) rfl ?_
        | refine s_val (v_lssI rfl rfl) rfl ?_
    | refine s_no GOG_ rfl ?_
  first
    | refine s_val (v_pickT rfl PK_ rfl) rfl ?_
    | refine s_val (v_pickF rfl PK_ rfl) rfl ?_
    | refine s_val (v_pickOr rfl rfl rfl) rfl ?_
    | refine s_val (v_pickAnd rfl rfl rfl) rfl ?_
  first
    | refine s_val (v_assignC rfl) rfl ?_
    | refine s_val (v_assignA rfl) rfl ?_
    | refine s_val (v_assignT rfl) rfl ?_
  refine s_nil ?_
  refine S_ ?_
  refine c_region ?_
  refine s_val (v_assignC rfl) rfl ?_
  refine s_val (v_assignC rfl) rfl ?_
  refine s_nil ?_
  refine S_ ?_
  exact k_2 (by first | exact r_tmpC rfl | exact r_tmpA rfl) (by first | exact r_tmpC rfl | exact r_tmpA rfl) (by first | kernel_rfl | rfl)
def kL1 (n : Nat) : List Nd := [⟨1, (n : Int), []⟩]
def kL2 (n : Nat) : List Nd := [⟨1, (n : Int), []⟩, ⟨7, 0, [0, 0, 0]⟩]
def kL3 (n : Nat) : List Nd := [⟨1, (n : Int), []⟩, ⟨7, 0, [0, 0, 0]⟩, ⟨9, 0, [1]⟩]
theorem mkErrA (m n : Nat) : mkErr m 1 (n : Int) [] = 0 := by
  unfold mkErr
  rw [if_neg (by decide), if_neg (by simp [numb]), if_neg (by decide), if_neg (by simp [hasB])]
theorem kA1 (n : Nat) (hn : n ≤ 9223372036854775807) : ArOk (kL1 n) := ArOk.snoc (L := []) .nil (mkErrA 0 n) (by omega) rfl
theorem kA2 (n : Nat) (hn : n ≤ 9223372036854775807) : ArOk (kL2 n) := ArOk.snoc (L := kL1 n) (kA1 n hn) rfl (by decide) rfl
theorem kA3 (n : Nat) (hn : n ≤ 9223372036854775807) : ArOk (kL3 n) := ArOk.snoc (L := kL2 n) (kA2 n hn) rfl (by decide) rfl
theorem kH (n i : Nat) (hi : i < 3) : ¬ hard (kL3 n) (getn (kL3 n) i) := by
  match i, hi with
  | 0, _ => unfold hard; rintro (h | h | ⟨h, _⟩) <;> exact absurd h (by show ¬ (1 : Int) = _; decide)
  | 1, _ => unfold hard; rintro (h | h | ⟨_, h⟩); exact absurd h (by show ¬ (7 : Int) = _; decide); exact absurd h (by show ¬ (7 : Int) = _; decide); exact absurd h (by show ¬ (1 : Int) = _; decide)
  | 2, _ => unfold hard; rintro (h | h | ⟨h, _⟩) <;> exact absurd h (by show ¬ (9 : Int) = _; decide)
theorem k0 (n : Nat) : bsOf noX (kL3 n) 0 = (sha256 (kAtom ++ rlNum8 n), 0) := rfl
theorem k1 (n : Nat) : bsOf noX (kL3 n) 1 = ([], 6) := rfl
theorem k2 (n : Nat) : bsOf noX (kL3 n) 2 = ([], 6) := rfl
theorem kB (n : Nat) (hn : n ≤ 9223372036854775807) (i : Nat) (hi : i < 3) (v : List (BitVec 8) × Nat) (h : bsOf noX (kL3 n) i = v) : Ev Tryz.prog (.call 22 [.c (.ptr 0 0), .c (.val (.int .i64 (i : Int)))] [.row false (.ac [.sl 1 0 3 3 3, .mp 2]), .row false (.an (kL3 n)), .row false (.mp (arEnt (kL3 n)))]) (.val (.tup [.c (.bs v.1), .c (.val (.int .i64 ((v.2 : Nat) : Int)))]) [.row false (.ac [.sl 1 0 3 3 3, .mp 2]), .row false (.an (kL3 n)), .row false (.mp (arEnt (kL3 n)))]) := by
  have := rlBytes_ev noX (kL3 n) (arEnt (kL3 n)) 3 i rfl (by decide) hi (kA3 n hn) (fun D k hk _ _ hh => absurd hh (kH n k (by have := (beneath_lt (kL3 n) i _ hk).2; omega)))
  rw [h] at this
  exact this
theorem adErr_short (key box : List (BitVec 8)) (h : box.length < 16) : opR key box = ([], 2) := by
  have he : adErr key box = 2 := by unfold adErr; rw [if_pos (.inl h)]
  unfold opR
  rw [he]
  rfl
set_option maxRecDepth 100000 in
set_option maxHeartbeats 8000000 in
theorem rKinds_ev (n : Nat) (hn : n ≤ 9223372036854775807) (key : List (BitVec 8)) (hkey : key.length = 32) (b : List (BitVec 8)) (hb : b.length ≤ 3000) : Ev Tryz.prog (.call 7 [.c (.val (.int .i64 (n : Int))), .agg (.a8 key), .c (.bs b)] []) (.val (.c (.val (.bool true))) []) := by
  have m1 := mkN0_ev [] 0 1 (n : Int) .nil rfl (by decide) (by intro x hx; simp at hx; omega) (mkErrA 0 n) rfl
  have m2 := mkNI_ev (kL1 n) 1 7 0 [0, 0, 0] (kA1 n hn) rfl (by decide) (by decide) (by decide) rfl rfl
  have m3 := mkNI_ev (kL2 n) 2 9 0 [1] (kA2 n hn) rfl (by decide) (by decide) (by decide) rfl rfl
  have b0 := kB n hn 0 (by decide) _ (k0 n)
  have b1 := kB n hn 1 (by decide) _ (k1 n)
  have b2 := kB n hn 2 (by decide) _ (k2 n)
  have l47 : (b.take (min b.length 47)).length < 48 := by rw [List.length_take]; omega
  have l63 : (b.take (min b.length 63)).length < 64 := by rw [List.length_take]; omega
  have l15 : (b.take (min b.length 15)).length < 16 := by rw [List.length_take]; omega
  have hU := unboxS_ev key (b.take (min b.length 47)) hkey l47
  have hS1 := signedL_ev (b.take (min b.length 63)) (zer8 64) (by omega)
  have hS2 := signedS_ev (zer8 64) (b.take (min b.length 63)) (zer8_length 64) l63
  have hO := rlOpen_ev key (b.take (min b.length 15)) hkey (by omega)
  rw [adErr_short _ _ l15] at hO
  dsimp only [List.length] at hO b0 b1 b2
  have hW := wakes_ev
  refine c_call Tryz.func7 rfl Tryz.ntmps7 rfl LEN_ ?_
  refine S_ ?_
  refine c_region ?_
  refine s_memN (m_box BX_ LEN_) APP_ rfl ?_
  refine s_val (v_assignC rfl) rfl ?_
  refine s_nil ?_
  refine S_ ?_
  refine c_region ?_
  first
    | refine s_val (v_moveC rfl) rfl ?_
    | refine s_val (v_moveA rfl) rfl ?_
    | refine s_val (v_moveT rfl) rfl ?_
  first
    | refine s_val (v_lssN (b := 0) rfl rfl) rfl ?_
    | refine s_val (v_lssI rfl rfl) rfl ?_
  first
    | refine s_val (v_moveC rfl) rfl ?_
    | refine s_val (v_moveA rfl) rfl ?_
    | refine s_val (v_moveT rfl) rfl ?_
  first
    | refine s_go GOG_ ?_
      first
        | refine s_val (v_moveC rfl) rfl ?_
        | refine s_val (v_moveA rfl) rfl ?_
        | refine s_val (v_moveT rfl) rfl ?_
    | refine s_no GOG_ rfl ?_
  first
    | refine s_go GOG_ ?_
      first
        | refine s_val (v_lenS rfl Tryz.underlying23) rfl ?_
        | refine s_val (v_lenN rfl Tryz.underlying23) rfl ?_
        | refine s_val (v_lenE rfl Tryz.underlying23) rfl ?_
        | refine s_val (v_lenB rfl Tryz.underlying23 rfl) rfl ?_
        | refine s_val (v_lenZ rfl Tryz.underlying23 rfl) rfl ?_
    | refine s_no GOG_ rfl ?_
  first
    | refine s_go GOG_ ?_
      first
        | refine s_val (v_gtrN (b := 3000) rfl rfl) rfl ?_
        | refine s_val (v_gtrI rfl rfl) rfl ?_
    | refine s_no GOG_ rfl ?_
  first
    | refine s_val (v_pickT rfl PK_ rfl) rfl ?_
    | refine s_val (v_pickF rfl PK_ rfl) rfl ?_
    | refine s_val (v_pickOr rfl rfl rfl) rfl ?_
    | refine s_val (v_pickAnd rfl rfl rfl) rfl ?_
  refine s_nil ?_
  refine S_ ?_
  refine c_region ?_
  refine s_evN (e_callR (new_ev) ok_20 rfl rfl rfl VAL_) APP_ rfl ?_
  first
    | refine s_val (v_assignC rfl) rfl ?_
    | refine s_val (v_assignA rfl) rfl ?_
    | refine s_val (v_assignT rfl) rfl ?_
  refine s_nil ?_
  refine S_ ?_
  refine c_region ?_
  first
    | refine s_val (v_moveC rfl) rfl ?_
    | refine s_val (v_moveA rfl) rfl ?_
    | refine s_val (v_moveT rfl) rfl ?_
  refine s_ev (o_eqlP und42 rfl rfl) rfl ?_
  refine s_nil ?_
  refine S_ ?_
  refine c_region ?_
  first
    | refine s_val (v_moveC rfl) rfl ?_
    | refine s_val (v_moveA rfl) rfl ?_
    | refine s_val (v_moveT rfl) rfl ?_
  first
    | refine s_val (v_moveC rfl) rfl ?_
    | refine s_val (v_moveA rfl) rfl ?_
    | refine s_val (v_moveT rfl) rfl ?_
  refine s_ev (e_callK (bs := [1,2,3]) (m1) ok_21 (by kernel_rfl) rfl rfl VAL_ APP_) rfl ?_
  first
    | refine s_val (v_moveC rfl) rfl ?_
    | refine s_val (v_moveA rfl) rfl ?_
    | refine s_val (v_moveT rfl) rfl ?_
  refine s_val (v_extract rfl rfl) rfl ?_
  refine s_val (v_extract rfl rfl) rfl ?_
  first
    | refine s_val (v_assignC rfl) rfl ?_
    | refine s_val (v_assignA rfl) rfl ?_
    | refine s_val (v_assignT rfl) rfl ?_
  first
    | refine s_val (v_assignC rfl) rfl ?_
    | refine s_val (v_assignA rfl) rfl ?_
    | refine s_val (v_assignT rfl) rfl ?_
  refine s_nil ?_
  refine S_ ?_
  refine c_region ?_
  first
    | refine s_val (v_moveC rfl) rfl ?_
    | refine s_val (v_moveA rfl) rfl ?_
    | refine s_val (v_moveT rfl) rfl ?_
  first
    | refine s_val (v_moveC rfl) rfl ?_
    | refine s_val (v_moveA rfl) rfl ?_
    | refine s_val (v_moveT rfl) rfl ?_
  first
    | refine s_val (v_moveC rfl) rfl ?_
    | refine s_val (v_moveA rfl) rfl ?_
    | refine s_val (v_moveT rfl) rfl ?_
  first
    | refine s_val (v_moveC rfl) rfl ?_
    | refine s_val (v_moveA rfl) rfl ?_
    | refine s_val (v_moveT rfl) rfl ?_
  refine s_ev (o_quietI (Ev.mem (m_bsI (l := [_, _, _]) Tryz.underlying41 el_3 rfl rfl (by decide) (by decide) LEN_)) LEN_ LQ_ rfl) rfl ?_
  refine s_ev (e_callK (bs := [1,4,3]) (m2) ok_21 (by kernel_rfl) rfl rfl VAL_ APP_) rfl ?_
  first
    | refine s_val (v_moveC rfl) rfl ?_
    | refine s_val (v_moveA rfl) rfl ?_
    | refine s_val (v_moveT rfl) rfl ?_
  refine s_val (v_extract rfl rfl) rfl ?_
  refine s_val (v_extract rfl rfl) rfl ?_
  first
    | refine s_val (v_assignC rfl) rfl ?_
    | refine s_val (v_assignA rfl) rfl ?_
    | refine s_val (v_assignT rfl) rfl ?_
  first
    | refine s_val (v_assignC rfl) rfl ?_
    | refine s_val (v_assignA rfl) rfl ?_
    | refine s_val (v_assignT rfl) rfl ?_
  refine s_nil ?_
  refine S_ ?_
  refine c_region ?_
  first
    | refine s_val (v_moveC rfl) rfl ?_
    | refine s_val (v_moveA rfl) rfl ?_
    | refine s_val (v_moveT rfl) rfl ?_
  first
    | refine s_val (v_moveC rfl) rfl ?_
    | refine s_val (v_moveA rfl) rfl ?_
    | refine s_val (v_moveT rfl) rfl ?_
  refine s_ev (o_quietI (Ev.mem (m_bsI (l := [_]) Tryz.underlying41 el_3 rfl rfl (by decide) (by decide) LEN_)) LEN_ LQ_ rfl) rfl ?_
  refine s_ev (e_callK (bs := [1,5,3]) (m3) ok_21 (by kernel_rfl) rfl rfl VAL_ APP_) rfl ?_
  first
    | refine s_val (v_moveC rfl) rfl ?_
    | refine s_val (v_moveA rfl) rfl ?_
    | refine s_val (v_moveT rfl) rfl ?_
  refine s_val (v_extract rfl rfl) rfl ?_
  refine s_val (v_extract rfl rfl) rfl ?_
  first
    | refine s_val (v_assignC rfl) rfl ?_
    | refine s_val (v_assignA rfl) rfl ?_
    | refine s_val (v_assignT rfl) rfl ?_
  first
    | refine s_val (v_assignC rfl) rfl ?_
    | refine s_val (v_assignA rfl) rfl ?_
    | refine s_val (v_assignT rfl) rfl ?_
  refine s_nil ?_
  refine S_ ?_
  refine c_region ?_
  first
    | refine s_val (v_moveC rfl) rfl ?_
    | refine s_val (v_moveA rfl) rfl ?_
    | refine s_val (v_moveT rfl) rfl ?_
  first
    | refine s_val (v_neqN (b := 0) rfl rfl) rfl ?_
    | refine s_val (v_neqD rfl rfl) rfl ?_
  first
    | refine s_val (v_moveC rfl) rfl ?_
    | refine s_val (v_moveA rfl) rfl ?_
    | refine s_val (v_moveT rfl) rfl ?_
  first
    | refine s_go GOG_ ?_
      first
        | refine s_val (v_moveC rfl) rfl ?_
        | refine s_val (v_moveA rfl) rfl ?_
        | refine s_val (v_moveT rfl) rfl ?_
    | refine s_no GOG_ rfl ?_
  first
    | refine s_go GOG_ ?_
      first
        | refine s_val (v_neqN (b := 0) rfl rfl) rfl ?_
        | refine s_val (v_neqD rfl rfl) rfl ?_
    | refine s_no GOG_ rfl ?_
  first
    | refine s_val (v_pickT rfl PK_ rfl) rfl ?_
    | refine s_val (v_pickF rfl PK_ rfl) rfl ?_
    | refine s_val (v_pickOr rfl rfl rfl) rfl ?_
    | refine s_val (v_pickAnd rfl rfl rfl) rfl ?_
  first
    | refine s_val (v_moveC rfl) rfl ?_
    | refine s_val (v_moveA rfl) rfl ?_
    | refine s_val (v_moveT rfl) rfl ?_
  first
    | refine s_go GOG_ ?_
      first
        | refine s_val (v_moveC rfl) rfl ?_
        | refine s_val (v_moveA rfl) rfl ?_
        | refine s_val (v_moveT rfl) rfl ?_
    | refine s_no GOG_ rfl ?_
  first
    | refine s_go GOG_ ?_
      first
        | refine s_val (v_neqN (b := 0) rfl rfl) rfl ?_
        | refine s_val (v_neqD rfl rfl) rfl ?_
    | refine s_no GOG_ rfl ?_
  first
    | refine s_val (v_pickT rfl PK_ rfl) rfl ?_
    | refine s_val (v_pickF rfl PK_ rfl) rfl ?_
    | refine s_val (v_pickOr rfl rfl rfl) rfl ?_
    | refine s_val (v_pickAnd rfl rfl rfl) rfl ?_
  refine s_nil ?_
  refine S_ ?_
  refine c_region ?_
  first
    | refine s_val (v_moveC rfl) rfl ?_
    | refine s_val (v_moveA rfl) rfl ?_
    | refine s_val (v_moveT rfl) rfl ?_
  first
    | refine s_val (v_moveC rfl) rfl ?_
    | refine s_val (v_moveA rfl) rfl ?_
    | refine s_val (v_moveT rfl) rfl ?_
  refine s_evN (e_callR (bs := [1,6,3]) (b1) ok_22 (by kernel_rfl) (by kernel_rfl) rfl VAL_) APP_ rfl ?_
  first
    | refine s_val (v_moveC rfl) rfl ?_
    | refine s_val (v_moveA rfl) rfl ?_
    | refine s_val (v_moveT rfl) rfl ?_
  refine s_val (v_extract rfl rfl) rfl ?_
  refine s_val (v_extract rfl rfl) rfl ?_
  first
    | refine s_val (v_assignC rfl) rfl ?_
    | refine s_val (v_assignA rfl) rfl ?_
    | refine s_val (v_assignT rfl) rfl ?_
  refine s_nil ?_
  refine S_ ?_
  refine c_region ?_
  first
    | refine s_val (v_moveC rfl) rfl ?_
    | refine s_val (v_moveA rfl) rfl ?_
    | refine s_val (v_moveT rfl) rfl ?_
  first
    | refine s_val (v_moveC rfl) rfl ?_
    | refine s_val (v_moveA rfl) rfl ?_
    | refine s_val (v_moveT rfl) rfl ?_
  refine s_evN (e_callR (bs := [1,6,3]) (b2) ok_22 (by kernel_rfl) (by kernel_rfl) rfl VAL_) APP_ rfl ?_
  first
    | refine s_val (v_moveC rfl) rfl ?_
    | refine s_val (v_moveA rfl) rfl ?_
    | refine s_val (v_moveT rfl) rfl ?_
  refine s_val (v_extract rfl rfl) rfl ?_
  refine s_val (v_extract rfl rfl) rfl ?_
  first
    | refine s_val (v_assignC rfl) rfl ?_
    | refine s_val (v_assignA rfl) rfl ?_
    | refine s_val (v_assignT rfl) rfl ?_
  refine s_nil ?_
  refine S_ ?_
  refine c_region ?_
  first
    | refine s_val (v_moveC rfl) rfl ?_
    | refine s_val (v_moveA rfl) rfl ?_
    | refine s_val (v_moveT rfl) rfl ?_
  first
    | refine s_val (v_moveC rfl) rfl ?_
    | refine s_val (v_moveA rfl) rfl ?_
    | refine s_val (v_moveT rfl) rfl ?_
  refine s_evN (e_callR (bs := [1,6,3]) (b0) ok_22 (by kernel_rfl) (by kernel_rfl) rfl VAL_) APP_ rfl ?_
  first
    | refine s_val (v_moveC rfl) rfl ?_
    | refine s_val (v_moveA rfl) rfl ?_
    | refine s_val (v_moveT rfl) rfl ?_
  refine s_val (v_extract rfl rfl) rfl ?_
  refine s_val (v_extract rfl rfl) rfl ?_
  first
    | refine s_val (v_assignC rfl) rfl ?_
    | refine s_val (v_assignA rfl) rfl ?_
    | refine s_val (v_assignT rfl) rfl ?_
  refine s_nil ?_
  refine S_ ?_
  refine c_region ?_
  first
    | refine s_val (v_moveC rfl) rfl ?_
    | refine s_val (v_moveA rfl) rfl ?_
    | refine s_val (v_moveT rfl) rfl ?_
  first
    | refine s_val (v_neqN (b := 6) rfl rfl) rfl ?_
    | refine s_val (v_neqD rfl rfl) rfl ?_
  first
    | refine s_val (v_moveC rfl) rfl ?_
    | refine s_val (v_moveA rfl) rfl ?_
    | refine s_val (v_moveT rfl) rfl ?_
  first
    | refine s_go GOG_ ?_
      first
        | refine s_val (v_moveC rfl) rfl ?_
        | refine s_val (v_moveA rfl) rfl ?_
        | refine s_val (v_moveT rfl) rfl ?_
    | refine s_no GOG_ rfl ?_
  first
    | refine s_go GOG_ ?_
      first
        | refine s_val (v_neqN (b := 6) rfl rfl) rfl ?_
        | refine s_val (v_neqD rfl rfl) rfl ?_
    | refine s_no GOG_ rfl ?_
  first
    | refine s_val (v_pickT rfl PK_ rfl) rfl ?_
    | refine s_val (v_pickF rfl PK_ rfl) rfl ?_
    | refine s_val (v_pickOr rfl rfl rfl) rfl ?_
    | refine s_val (v_pickAnd rfl rfl rfl) rfl ?_
  first
    | refine s_val (v_moveC rfl) rfl ?_
    | refine s_val (v_moveA rfl) rfl ?_
    | refine s_val (v_moveT rfl) rfl ?_
  first
    | refine s_go GOG_ ?_
      first
        | refine s_val (v_moveC rfl) rfl ?_
        | refine s_val (v_moveA rfl) rfl ?_
        | refine s_val (v_moveT rfl) rfl ?_
    | refine s_no GOG_ rfl ?_
  first
    | refine s_go GOG_ ?_
      first
        | refine s_val (v_neqN (b := 0) rfl rfl) rfl ?_
        | refine s_val (v_neqD rfl rfl) rfl ?_
    | refine s_no GOG_ rfl ?_
  first
    | refine s_val (v_pickT rfl PK_ rfl) rfl ?_
    | refine s_val (v_pickF rfl PK_ rfl) rfl ?_
    | refine s_val (v_pickOr rfl rfl rfl) rfl ?_
    | refine s_val (v_pickAnd rfl rfl rfl) rfl ?_
  refine s_nil ?_
  refine S_ ?_
  refine c_draw 11 mixed (by kernel_rfl) rfl rfl rfl ?_
  first
    | refine h_val (v_loadR rfl rfl row_37 sz_37 EQ_ (by decide)) rfl ?_
    | refine h_val (v_loadW8 rfl rfl row_37 sz_37 LE_ (by decide)) rfl ?_
    | refine h_val (v_loadW64 rfl rfl row_37 sz_37 LE_ (by decide)) rfl ?_
  first
    | refine h_val (v_moveC rfl) rfl ?_
    | refine h_val (v_moveA rfl) rfl ?_
    | refine h_val (v_moveT rfl) rfl ?_
  first
    | refine h_val (v_moveC rfl) rfl ?_
    | refine h_val (v_moveA rfl) rfl ?_
    | refine h_val (v_moveT rfl) rfl ?_
  first
    | refine h_val (v_lenS rfl Tryz.underlying23) rfl ?_
    | refine h_val (v_lenN rfl Tryz.underlying23) rfl ?_
    | refine h_val (v_lenE rfl Tryz.underlying23) rfl ?_
    | refine h_val (v_lenB rfl Tryz.underlying23 rfl) rfl ?_
    | refine h_val (v_lenZ rfl Tryz.underlying23 rfl) rfl ?_
  first
    | refine h_val (v_minN (b := 47) rfl rfl) rfl ?_
    | refine h_val (v_minL (b := 47) rfl rfl (by omega)) rfl ?_
    | refine h_val (v_minR (b := 47) rfl rfl (by omega)) rfl ?_
  first
    | refine h_val (v_slS0 rfl Tryz.underlying23 sz_5 rfl (by omega)) rfl ?_
    | refine h_val (v_slBt rfl rfl Tryz.underlying23 sz_5 LE_) rfl ?_
  refine h_evN (e_callR (bs := []) (hU) ok_28 (by kernel_rfl) (by kernel_rfl) rfl VAL_) APP_ rfl ?_
  first
    | refine h_val (v_moveC rfl) rfl ?_
    | refine h_val (v_moveA rfl) rfl ?_
    | refine h_val (v_moveT rfl) rfl ?_
  refine h_val (v_extract rfl rfl) rfl ?_
  refine h_val (v_extract rfl rfl) rfl ?_
  first
    | refine h_val (v_assignC rfl) rfl ?_
    | refine h_val (v_assignA rfl) rfl ?_
    | refine h_val (v_assignT rfl) rfl ?_
  refine h_nil ?_
  refine s_nil ?_
  refine S_ ?_
  refine c_draw 11 mixed (by kernel_rfl) rfl rfl rfl ?_
  first
    | refine h_val (v_moveC rfl) rfl ?_
    | refine h_val (v_moveA rfl) rfl ?_
    | refine h_val (v_moveT rfl) rfl ?_
  first
    | refine h_val (v_moveC rfl) rfl ?_
    | refine h_val (v_moveA rfl) rfl ?_
    | refine h_val (v_moveT rfl) rfl ?_
  first
    | refine h_val (v_lenS rfl Tryz.underlying23) rfl ?_
    | refine h_val (v_lenN rfl Tryz.underlying23) rfl ?_
    | refine h_val (v_lenE rfl Tryz.underlying23) rfl ?_
    | refine h_val (v_lenB rfl Tryz.underlying23 rfl) rfl ?_
    | refine h_val (v_lenZ rfl Tryz.underlying23 rfl) rfl ?_
  first
    | refine h_val (v_minN (b := 63) rfl rfl) rfl ?_
    | refine h_val (v_minL (b := 63) rfl rfl (by omega)) rfl ?_
    | refine h_val (v_minR (b := 63) rfl rfl (by omega)) rfl ?_
  first
    | refine h_val (v_slS0 rfl Tryz.underlying23 sz_5 rfl (by omega)) rfl ?_
    | refine h_val (v_slBt rfl rfl Tryz.underlying23 sz_5 LE_) rfl ?_
  refine h_evQ (o_quiet8 (Ev.mem (m_make8 (a := 64) (b := 64) Tryz.underlying23 rfl rfl el_5 rep_5 (by omega) (by omega) (by omega) LEN_)) LEN_ LQ_ rfl) rfl ?_
  refine h_evN (e_callR (bs := []) (hS1) ok_30 (by kernel_rfl) (by kernel_rfl) rfl VAL_) APP_ rfl ?_
  first
    | refine h_val (v_moveC rfl) rfl ?_
    | refine h_val (v_moveA rfl) rfl ?_
    | refine h_val (v_moveT rfl) rfl ?_
  refine h_val (v_extract rfl rfl) rfl ?_
  refine h_val (v_extract rfl rfl) rfl ?_
  first
    | refine h_val (v_assignC rfl) rfl ?_
    | refine h_val (v_assignA rfl) rfl ?_
    | refine h_val (v_assignT rfl) rfl ?_
  refine h_nil ?_
  refine s_nil ?_
  refine S_ ?_
  refine c_draw 11 mixed (by kernel_rfl) rfl rfl rfl ?_
  refine h_evQ (o_quiet8 (Ev.mem (m_make8 (a := 64) (b := 64) Tryz.underlying23 rfl rfl el_5 rep_5 (by omega) (by omega) (by omega) LEN_)) LEN_ LQ_ rfl) rfl ?_
  first
    | refine h_val (v_moveC rfl) rfl ?_
    | refine h_val (v_moveA rfl) rfl ?_
    | refine h_val (v_moveT rfl) rfl ?_
  first
    | refine h_val (v_moveC rfl) rfl ?_
    | refine h_val (v_moveA rfl) rfl ?_
    | refine h_val (v_moveT rfl) rfl ?_
  first
    | refine h_val (v_lenS rfl Tryz.underlying23) rfl ?_
    | refine h_val (v_lenN rfl Tryz.underlying23) rfl ?_
    | refine h_val (v_lenE rfl Tryz.underlying23) rfl ?_
    | refine h_val (v_lenB rfl Tryz.underlying23 rfl) rfl ?_
    | refine h_val (v_lenZ rfl Tryz.underlying23 rfl) rfl ?_
  first
    | refine h_val (v_minN (b := 63) rfl rfl) rfl ?_
    | refine h_val (v_minL (b := 63) rfl rfl (by omega)) rfl ?_
    | refine h_val (v_minR (b := 63) rfl rfl (by omega)) rfl ?_
  first
    | refine h_val (v_slS0 rfl Tryz.underlying23 sz_5 rfl (by omega)) rfl ?_
    | refine h_val (v_slBt rfl rfl Tryz.underlying23 sz_5 LE_) rfl ?_
  refine h_evN (e_callR (bs := []) (hS2) ok_30 (by kernel_rfl) (by kernel_rfl) rfl VAL_) APP_ rfl ?_
  first
    | refine h_val (v_moveC rfl) rfl ?_
    | refine h_val (v_moveA rfl) rfl ?_
    | refine h_val (v_moveT rfl) rfl ?_
  refine h_val (v_extract rfl rfl) rfl ?_
  refine h_val (v_extract rfl rfl) rfl ?_
  first
    | refine h_val (v_assignC rfl) rfl ?_
    | refine h_val (v_assignA rfl) rfl ?_
    | refine h_val (v_assignT rfl) rfl ?_
  refine h_nil ?_
  refine s_nil ?_
  refine S_ ?_
  refine c_draw 12 mixed (by kernel_rfl) rfl rfl rfl ?_
  first
    | refine h_val (v_loadR rfl rfl row_37 sz_37 EQ_ (by decide)) rfl ?_
    | refine h_val (v_loadW8 rfl rfl row_37 sz_37 LE_ (by decide)) rfl ?_
    | refine h_val (v_loadW64 rfl rfl row_37 sz_37 LE_ (by decide)) rfl ?_
  first
    | refine h_val (v_moveC rfl) rfl ?_
    | refine h_val (v_moveA rfl) rfl ?_
    | refine h_val (v_moveT rfl) rfl ?_
  first
    | refine h_val (v_moveC rfl) rfl ?_
    | refine h_val (v_moveA rfl) rfl ?_
    | refine h_val (v_moveT rfl) rfl ?_
  first
    | refine h_val (v_lenS rfl Tryz.underlying23) rfl ?_
    | refine h_val (v_lenN rfl Tryz.underlying23) rfl ?_
    | refine h_val (v_lenE rfl Tryz.underlying23) rfl ?_
    | refine h_val (v_lenB rfl Tryz.underlying23 rfl) rfl ?_
    | refine h_val (v_lenZ rfl Tryz.underlying23 rfl) rfl ?_
  first
    | refine h_val (v_minN (b := 15) rfl rfl) rfl ?_
    | refine h_val (v_minL (b := 15) rfl rfl (by omega)) rfl ?_
    | refine h_val (v_minR (b := 15) rfl rfl (by omega)) rfl ?_
  first
    | refine h_val (v_slS0 rfl Tryz.underlying23 sz_5 rfl (by omega)) rfl ?_
    | refine h_val (v_slBt rfl rfl Tryz.underlying23 sz_5 LE_) rfl ?_
  refine h_evN (e_callR (bs := []) (hO) ok_26 (by kernel_rfl) (by kernel_rfl) rfl VAL_) APP_ rfl ?_
  first
    | refine h_val (v_moveC rfl) rfl ?_
    | refine h_val (v_moveA rfl) rfl ?_
    | refine h_val (v_moveT rfl) rfl ?_
  refine h_val (v_extract rfl rfl) rfl ?_
  refine h_val (v_extract rfl rfl) rfl ?_
  first
    | refine h_val (v_assignC rfl) rfl ?_
    | refine h_val (v_assignA rfl) rfl ?_
    | refine h_val (v_assignT rfl) rfl ?_
  first
    | refine h_val (v_assignC rfl) rfl ?_
    | refine h_val (v_assignA rfl) rfl ?_
    | refine h_val (v_assignT rfl) rfl ?_
  refine h_nil ?_
  refine s_nil ?_
  refine S_ ?_
  refine c_region ?_
  first
    | refine s_val (v_moveC rfl) rfl ?_
    | refine s_val (v_moveA rfl) rfl ?_
    | refine s_val (v_moveT rfl) rfl ?_
  first
    | refine s_val (v_eqlN (b := 2) rfl rfl) rfl ?_
    | refine s_val (v_eqlD rfl rfl) rfl ?_
  first
    | refine s_val (v_moveC rfl) rfl ?_
    | refine s_val (v_moveA rfl) rfl ?_
    | refine s_val (v_moveT rfl) rfl ?_
  first
    | refine s_go GOG_ ?_
      first
        | refine s_val (v_moveC rfl) rfl ?_
        | refine s_val (v_moveA rfl) rfl ?_
        | refine s_val (v_moveT rfl) rfl ?_
    | refine s_no GOG_ rfl ?_
  first
    | refine s_go GOG_ ?_
      first
        | refine s_val (v_eqlN (b := 2) rfl rfl) rfl ?_
        | refine s_val (v_eqlD rfl rfl) rfl ?_
    | refine s_no GOG_ rfl ?_
  first
    | refine s_val (v_pickT rfl PK_ rfl) rfl ?_
    | refine s_val (v_pickF rfl PK_ rfl) rfl ?_
    | refine s_val (v_pickOr rfl rfl rfl) rfl ?_
    | refine s_val (v_pickAnd rfl rfl rfl) rfl ?_
  first
    | refine s_val (v_moveC rfl) rfl ?_
    | refine s_val (v_moveA rfl) rfl ?_
    | refine s_val (v_moveT rfl) rfl ?_
  first
    | refine s_go GOG_ ?_
      first
        | refine s_val (v_moveC rfl) rfl ?_
        | refine s_val (v_moveA rfl) rfl ?_
        | refine s_val (v_moveT rfl) rfl ?_
    | refine s_no GOG_ rfl ?_
  first
    | refine s_go GOG_ ?_
      first
        | refine s_val (v_eqlN (b := 2) rfl rfl) rfl ?_
        | refine s_val (v_eqlD rfl rfl) rfl ?_
    | refine s_no GOG_ rfl ?_
  first
    | refine s_val (v_pickT rfl PK_ rfl) rfl ?_
    | refine s_val (v_pickF rfl PK_ rfl) rfl ?_
    | refine s_val (v_pickOr rfl rfl rfl) rfl ?_
    | refine s_val (v_pickAnd rfl rfl rfl) rfl ?_
  first
    | refine s_val (v_moveC rfl) rfl ?_
    | refine s_val (v_moveA rfl) rfl ?_
    | refine s_val (v_moveT rfl) rfl ?_
  first
    | refine s_go GOG_ ?_
      first
        | refine s_val (v_moveC rfl) rfl ?_
        | refine s_val (v_moveA rfl) rfl ?_
        | refine s_val (v_moveT rfl) rfl ?_
    | refine s_no GOG_ rfl ?_
  first
    | refine s_go GOG_ ?_
      first
        | refine s_val (v_eqlN (b := 2) rfl rfl) rfl ?_
        | refine s_val (v_eqlD rfl rfl) rfl ?_
    | refine s_no GOG_ rfl ?_
  first
    | refine s_val (v_pickT rfl PK_ rfl) rfl ?_
    | refine s_val (v_pickF rfl PK_ rfl) rfl ?_
    | refine s_val (v_pickOr rfl rfl rfl) rfl ?_
    | refine s_val (v_pickAnd rfl rfl rfl) rfl ?_
  first
    | refine s_val (v_moveC rfl) rfl ?_
    | refine s_val (v_moveA rfl) rfl ?_
    | refine s_val (v_moveT rfl) rfl ?_
  first
    | refine s_go GOG_ ?_
      refine s_evN (e_callR (bs := []) (hW) ok_19 (by kernel_rfl) (by kernel_rfl) rfl VAL_) APP_ rfl ?_
    | refine s_no GOG_ rfl ?_
  first
    | refine s_val (v_pickT rfl PK_ rfl) rfl ?_
    | refine s_val (v_pickF rfl PK_ rfl) rfl ?_
    | refine s_val (v_pickOr rfl rfl rfl) rfl ?_
    | refine s_val (v_pickAnd rfl rfl rfl) rfl ?_
  first
    | refine s_val (v_assignC rfl) rfl ?_
    | refine s_val (v_assignA rfl) rfl ?_
    | refine s_val (v_assignT rfl) rfl ?_
  refine s_nil ?_
  refine S_ ?_
  exact k_1 (by first | exact r_tmpC rfl | exact r_tmpA rfl) (by first | kernel_rfl | rfl)
set_option maxRecDepth 100000 in
set_option maxHeartbeats 2000000 in
theorem realKinds_law (n : Int) (hn : -9223372036854775808 ≤ n ∧ n ≤ 9223372036854775807) (key : List (BitVec 8)) (hkey : key.length = 32) (b : List (BitVec 8)) (hb : b.length ≤ 9223372036854775807) : Ev Tryz.prog (.call 7 [.c (.val (.int .i64 n)), .agg (.a8 key), .c (.bs b)] []) (.val (.c (.val (.bool true))) []) := by
  by_cases h0 : n < 0
  · refine c_call Tryz.func7 rfl Tryz.ntmps7 rfl LEN_ ?_
    refine S_ ?_
    refine c_region ?_
    refine s_memN (m_box BX_ LEN_) APP_ rfl ?_
    refine s_val (v_assignC rfl) rfl ?_
    refine s_nil ?_
    refine S_ ?_
    refine c_region ?_
    first
      | refine s_val (v_moveC rfl) rfl ?_
      | refine s_val (v_moveA rfl) rfl ?_
      | refine s_val (v_moveT rfl) rfl ?_
    first
      | refine s_val (v_lssN (b := 0) rfl rfl) rfl ?_
      | refine s_val (v_lssI rfl rfl) rfl ?_
    first
      | refine s_val (v_moveC rfl) rfl ?_
      | refine s_val (v_moveA rfl) rfl ?_
      | refine s_val (v_moveT rfl) rfl ?_
    first
      | refine s_go GOG_ ?_
        first
          | refine s_val (v_moveC rfl) rfl ?_
          | refine s_val (v_moveA rfl) rfl ?_
          | refine s_val (v_moveT rfl) rfl ?_
      | refine s_no GOG_ rfl ?_
    first
      | refine s_go GOG_ ?_
        first
          | refine s_val (v_lenS rfl Tryz.underlying23) rfl ?_
          | refine s_val (v_lenN rfl Tryz.underlying23) rfl ?_
          | refine s_val (v_lenE rfl Tryz.underlying23) rfl ?_
          | refine s_val (v_lenB rfl Tryz.underlying23 rfl) rfl ?_
          | refine s_val (v_lenZ rfl Tryz.underlying23 rfl) rfl ?_
      | refine s_no GOG_ rfl ?_
    first
      | refine s_go GOG_ ?_
        first
          | refine s_val (v_gtrN (b := 3000) rfl rfl) rfl ?_
          | refine s_val (v_gtrI rfl rfl) rfl ?_
      | refine s_no GOG_ rfl ?_
    first
      | refine s_val (v_pickT rfl PK_ rfl) rfl ?_
      | refine s_val (v_pickF rfl PK_ rfl) rfl ?_
      | refine s_val (v_pickOr rfl rfl rfl) rfl ?_
      | refine s_val (v_pickAnd rfl rfl rfl) rfl ?_
    refine s_nil ?_
    refine S_ ?_
    refine c_region ?_
    refine s_val (v_assignC rfl) rfl ?_
    refine s_nil ?_
    refine S_ ?_
    exact k_1 (by first | exact r_tmpC rfl | exact r_tmpA rfl) (by first | kernel_rfl | rfl)
  by_cases h1 : 3000 < b.length
  · refine c_call Tryz.func7 rfl Tryz.ntmps7 rfl LEN_ ?_
    refine S_ ?_
    refine c_region ?_
    refine s_memN (m_box BX_ LEN_) APP_ rfl ?_
    refine s_val (v_assignC rfl) rfl ?_
    refine s_nil ?_
    refine S_ ?_
    refine c_region ?_
    first
      | refine s_val (v_moveC rfl) rfl ?_
      | refine s_val (v_moveA rfl) rfl ?_
      | refine s_val (v_moveT rfl) rfl ?_
    first
      | refine s_val (v_lssN (b := 0) rfl rfl) rfl ?_
      | refine s_val (v_lssI rfl rfl) rfl ?_
    first
      | refine s_val (v_moveC rfl) rfl ?_
      | refine s_val (v_moveA rfl) rfl ?_
      | refine s_val (v_moveT rfl) rfl ?_
    first
      | refine s_go GOG_ ?_
        first
          | refine s_val (v_moveC rfl) rfl ?_
          | refine s_val (v_moveA rfl) rfl ?_
          | refine s_val (v_moveT rfl) rfl ?_
      | refine s_no GOG_ rfl ?_
    first
      | refine s_go GOG_ ?_
        first
          | refine s_val (v_lenS rfl Tryz.underlying23) rfl ?_
          | refine s_val (v_lenN rfl Tryz.underlying23) rfl ?_
          | refine s_val (v_lenE rfl Tryz.underlying23) rfl ?_
          | refine s_val (v_lenB rfl Tryz.underlying23 rfl) rfl ?_
          | refine s_val (v_lenZ rfl Tryz.underlying23 rfl) rfl ?_
      | refine s_no GOG_ rfl ?_
    first
      | refine s_go GOG_ ?_
        first
          | refine s_val (v_gtrN (b := 3000) rfl rfl) rfl ?_
          | refine s_val (v_gtrI rfl rfl) rfl ?_
      | refine s_no GOG_ rfl ?_
    first
      | refine s_val (v_pickT rfl PK_ rfl) rfl ?_
      | refine s_val (v_pickF rfl PK_ rfl) rfl ?_
      | refine s_val (v_pickOr rfl rfl rfl) rfl ?_
      | refine s_val (v_pickAnd rfl rfl rfl) rfl ?_
    refine s_nil ?_
    refine S_ ?_
    refine c_region ?_
    refine s_val (v_assignC rfl) rfl ?_
    refine s_nil ?_
    refine S_ ?_
    exact k_1 (by first | exact r_tmpC rfl | exact r_tmpA rfl) (by first | kernel_rfl | rfl)
  obtain ⟨m, rfl⟩ : ∃ m : Nat, n = (m : Int) := ⟨n.toNat, by omega⟩
  exact rKinds_ev m (by omega) key hkey b (by omega)
end Go.Proofs.YtmbepikkgkcgkaaGreatDoor
namespace Go.Proofs.YtmbepikkgkcgkaaGreatDoor
open Go.RowKit
def Sl (w : World) (v : Value) (l : List (BitVec 8)) : Prop :=
  ∃ a cap, v = .slice a l.length cap ∧ l.length ≤ cap ∧ cap ≤ maxLen ∧ (a = none → cap = 0) ∧ ∀ i, i < l.length → ∃ b off, a = some ⟨b, off, none⟩ ∧ w.cell? ⟨b, off + i, none⟩ = some (U8 (nth l i))
def Own (B : Nat) (w : World) (v : Value) (l : List (BitVec 8)) : Prop := w.ownsRow B 5 1 v l.length (l.map U8)
theorem Sl.nil (w : World) : Sl w (.slice none 0 0) [] := ⟨none, 0, rfl, Nat.le_refl _, by unfold maxLen; omega, fun _ => rfl, fun i h => absurd h (by simp)⟩
theorem addr_mid (b o j : Nat) : (⟨b, o, none⟩ : Addr).add j = ⟨b, o + j, none⟩ := Addr.add_mid b o j
theorem Own.sl {B : Nat} {w : World} {v : Value} {l : List (BitVec 8)} (h : Own B w v l) : Sl w v l := by
  obtain ⟨h1, h2⟩ := h
  rcases h2 with ⟨rfl, hn⟩ | ⟨g, cap, cur, rfl, hg, hh, hc, hm, hs, ht⟩
  · obtain rfl : l = [] := List.length_eq_zero_iff.1 hn
    exact Sl.nil w
  · refine ⟨some ⟨g, 0, none⟩, cap, rfl, hc, hm, (fun h => by cases h), fun i hi => ⟨g, 0, rfl, ?_⟩⟩
    rw [cell_of_row w g (0 + i) cur _ _ hh]
    have := congrArg (fun x => x[i]?) ht
    simp only [List.getElem?_take, Nat.mul_one, hi, if_true, List.getElem?_map] at this
    rw [Nat.zero_add, ← Array.getElem?_toList, this]
    simp [nth, hi]
theorem Own.nil (B : Nat) (w : World) : Own B w (.slice none 0 0) [] := World.ownsRow_nil w B _ 1
theorem Sl.shape {w : World} {v : Value} {l : List (BitVec 8)} (h : Sl w v l) (hl : l ≠ []) : ∃ b off cap, v = .slice (some ⟨b, off, none⟩) l.length cap ∧ l.length ≤ cap ∧ cap ≤ maxLen ∧ ∀ i, i < l.length → w.cell? ⟨b, off + i, none⟩ = some (U8 (nth l i)) := by
  obtain ⟨a, cap, rfl, hc, hm, _, hi⟩ := h
  have hp : 0 < l.length := List.length_pos_iff.2 hl
  obtain ⟨b, off, rfl, _⟩ := hi 0 hp
  refine ⟨b, off, cap, rfl, hc, hm, fun i h => ?_⟩
  obtain ⟨b', off', e, hcell⟩ := hi i h
  simp only [Option.some.injEq, Addr.mk.injEq] at e
  obtain ⟨rfl, rfl, _⟩ := e
  exact hcell
theorem Sl.len {w : World} {v : Value} {l : List (BitVec 8)} (h : Sl w v l) : ∃ a cap, v = .slice a l.length cap := by obtain ⟨a, cap, h, _⟩ := h; exact ⟨a, cap, h⟩
theorem Sl.mk {w : World} {b off len cap : Nat} {l : List (BitVec 8)} (hl : l.length = len) (hc : len ≤ cap) (hm : cap ≤ maxLen) (h : ∀ i, i < len → w.cell? ⟨b, off + i, none⟩ = some (U8 (nth l i))) : Sl w (.slice (some ⟨b, off, none⟩) len cap) l := by
  subst hl
  exact ⟨_, cap, rfl, hc, hm, fun h => (by cases h), fun i hi => ⟨b, off, rfl, h i hi⟩⟩
theorem Sl.below {w w' : World} {v : Value} {l : List (BitVec 8)} (h : Sl w v l) (hb : Below w.heap.size w w') : Sl w' v l := by
  obtain ⟨a, cap, rfl, hc, hm, hn, hi⟩ := h
  refine ⟨a, cap, rfl, hc, hm, hn, fun i h => ?_⟩
  obtain ⟨b, off, e, hcell⟩ := hi i h
  refine ⟨b, off, e, ?_⟩
  rw [hb.cell (World.block_lt_of_cell? w _ hcell)]; exact hcell
theorem Sl.same {w w' : World} {v : Value} {l : List (BitVec 8)} (h : Sl w v l) (hb : ∀ k, (l ≠ [] → v.ownBlock = some k) → w'.heap[k]? = w.heap[k]?) : Sl w' v l := by
  obtain ⟨a, cap, rfl, hc, hm, hn, hi⟩ := h
  refine ⟨a, cap, rfl, hc, hm, hn, fun i h => ?_⟩
  obtain ⟨b, off, rfl, hcell⟩ := hi i h
  refine ⟨b, off, rfl, ?_⟩
  rw [World.cell?_of_block (w := w) (w' := w') (hb b fun _ => rfl)]; exact hcell
theorem Sl.upto {w : World} {v : Value} {l : List (BitVec 8)} (h : Sl w v l) (hl : l ≠ []) : ∃ k, v.ownBlock = some k ∧ k < w.heap.size := by
  obtain ⟨b, off, cap, rfl, _, _, hi⟩ := h.shape hl
  exact ⟨b, rfl, World.block_lt_of_cell? w _ (hi 0 (List.length_pos_iff.2 hl))⟩
theorem Own.below {B : Nat} {w w' : World} {v : Value} {l : List (BitVec 8)} (h : Own B w v l) (hb : Below w.heap.size w w') : Own B w' v l := by
  obtain ⟨h1, h2⟩ := h
  refine ⟨h1, ?_⟩
  rcases h2 with h2 | ⟨g, cap, cur, rfl, hg, hh, r⟩
  · exact Or.inl h2
  · exact Or.inr ⟨g, cap, cur, rfl, hg, by rw [hb.block g (Array.getElem?_eq_some_iff.1 hh).1]; exact hh, r⟩
theorem Own.mono {B B' : Nat} {w : World} {v : Value} {l : List (BitVec 8)} (h : Own B w v l) (hB : B' ≤ B) : Own B' w v l := by
  obtain ⟨h1, h2⟩ := h
  refine ⟨h1, ?_⟩
  rcases h2 with h2 | ⟨g, cap, cur, rfl, hg, hh, r⟩
  · exact Or.inl h2
  · exact Or.inr ⟨g, cap, cur, rfl, Nat.le_trans hB hg, hh, r⟩
theorem Has.grown {w w' : World} {b : Nat} {cs : Array Value} {t : TypeId} {row : Option Nat} (h : Has w b cs t) (hg : w.grownBy w' row) (hb : some b ≠ row) : Has w' b cs t := by
  have := h.lt; unfold Has at *; rw [hg.block b this hb]; exact h
theorem Sl.grown {w w' : World} {v : Value} {l : List (BitVec 8)} {row : Option Nat} (h : Sl w v l) (hg : w.grownBy w' row) (hb : l ≠ [] → v.ownBlock ≠ row) : Sl w' v l := by
  by_cases hl : l = []
  · subst hl
    obtain ⟨a, cap, rfl, hc, hm, hn, hi⟩ := h
    exact ⟨a, cap, rfl, hc, hm, hn, fun i h => absurd h (by simp)⟩
  · obtain ⟨k, hk, hk2⟩ := h.upto hl
    refine h.same fun j hj => ?_
    have : j = k := by have := hj hl; rw [hk] at this; simpa using this.symm
    subst this
    exact hg.block j hk2 (by rw [← hk]; exact hb hl)
theorem Own.apart {B : Nat} {w : World} {v : Value} {l : List (BitVec 8)} (h : Own B w v l) {b : Nat} {cs : Array Value} {t : TypeId} (hb : Has w b cs t) (ht : t ≠ 5) : some b ≠ v.ownBlock := by
  obtain ⟨_, h2⟩ := h
  rcases h2 with ⟨rfl, _⟩ | ⟨g, cap, cur, rfl, hg, hh, _⟩
  · simp [Value.ownBlock]
  · intro e
    simp only [Value.ownBlock, Option.some.injEq] at e
    subst e
    unfold Has at hb
    rw [hb] at hh
    simp only [Option.some.injEq, Obj.cells.injEq] at hh
    exact ht hh.2.1
theorem Own.from {B : Nat} {w : World} {v : Value} {l : List (BitVec 8)} (h : Own B w v l) : ∀ k, v.ownBlock = some k → B ≤ k := fun k hk => (World.ownsRow.lt h k hk).1
theorem Has.own {B : Nat} {w w' : World} {v : Value} {l : List (BitVec 8)} (h : Own B w v l) (hg : w.grownBy w' v.ownBlock) {b : Nat} {cs : Array Value} {t : TypeId} (hb : Has w b cs t) (ht : t ≠ 5) : Has w' b cs t := hb.grown hg (h.apart hb ht)
theorem Sl.one {w : World} {g : Nat} {x : BitVec 8} {t : TypeId} (h : Has w g #[U8 x] t) : Sl w (.slice (some ⟨g, 0, none⟩) 1 1) [x] :=
  Sl.mk (l := [x]) rfl (Nat.le_refl _) (by unfold maxLen; omega) fun i hi => by
    obtain rfl : i = 0 := by omega
    rw [h.cell]; rfl
def cellsT (l : List (BitVec 8)) (T : List Value) : Array Value := (l.map U8 ++ T).toArray
@[go_sem] theorem cellsT_get (l : List (BitVec 8)) (T : List Value) (i : Nat) (h : i < l.length) : (cellsT l T)[i]? = some (U8 (nth l i)) := by
  simp only [cellsT, List.getElem?_toArray]
  rw [List.getElem?_append_left (by simpa using h)]
  simp [nth, h]
@[go_sem] theorem cellsT_set (l : List (BitVec 8)) (T : List Value) (i : Nat) (v : BitVec 8) (h : i < l.length) : (cellsT l T).setIfInBounds i (U8 v) = cellsT (put l i v) T := by
  simp [cellsT, put, List.map_set, h]
theorem Own.shape {B : Nat} {w : World} {v : Value} {l : List (BitVec 8)} (h : Own B w v l) (hl : l ≠ []) : ∃ g cap T, v = .slice (some ⟨g, 0, none⟩) l.length cap ∧ B ≤ g ∧ Has w g (cellsT l T) 5 ∧ l.length ≤ cap ∧ cap ≤ maxLen ∧ l.length + T.length = cap := by
  obtain ⟨h1, h2⟩ := h
  rcases h2 with ⟨rfl, hn⟩ | ⟨g, cap, cur, rfl, hg, hh, hc, hm, hs, ht⟩
  · exact absurd (List.length_eq_zero_iff.1 hn) hl
  · refine ⟨g, cap, cur.toList.drop l.length, rfl, hg, ?_, hc, hm, ?_⟩
    · have e : cellsT l (cur.toList.drop l.length) = cur := by
        unfold cellsT
        rw [Nat.mul_one] at ht
        rw [← ht, List.take_append_drop]
      unfold Has; rw [e]; exact hh
    · have : cur.toList.length = cap := by simpa using hs
      rw [List.length_drop, this]; omega
theorem Own.mk {B : Nat} {w : World} {g cap : Nat} {l : List (BitVec 8)} {T : List Value} (hg : B ≤ g) (h : Has w g (cellsT l T) 5) (hm : cap ≤ maxLen) (hc : l.length + T.length = cap) : Own B w (.slice (some ⟨g, 0, none⟩) l.length cap) l := by
  refine ⟨by simp, .inr ⟨g, cap, cellsT l T, rfl, hg, h, by omega, hm, by simp [cellsT]; omega, ?_⟩⟩
  simp [cellsT]
end Go.Proofs.YtmbepikkgkcgkaaGreatDoor
namespace Go.Proofs.YtmbepikkgkcgkaaGreatDoor
open Go.ChangeShapes Go.WideShapes Go.ChangeAt Go.RowKit
theorem int_u8 {n : Int} (h : (Lit.int .u8 n).wf = true) : (.int .u8 n : Value) = U8 (BitVec.ofInt 8 n) := by
  simp only [Lit.wf, Bool.and_eq_true, decide_eq_true_eq] at h
  have h1 : (0 : Int) ≤ n := h.1
  have h2 : n ≤ 255 := h.2
  show Value.int .u8 n = Value.int .u8 (tn (BitVec.ofInt 8 n))
  congr 1
  unfold tn
  rw [BitVec.toNat_ofInt]
  omega
def byteOf : Value → BitVec 8
  | .int _ n => BitVec.ofInt 8 n
  | _ => 0
section
variable {H : Type} {enc : TypeId × Value → H} {P : Program} {w : World} {base : Nat} {spare : Nat → Bool} {held : Bool}
theorem okWide_array {r : Reach} {b0 : Nat} {t e : TypeId} {n : Nat} {v : Value} (ht : P.underlying t = some (.array n e)) (h : Value.okWide P w r b0 t v) : ∃ cs, v = .agg cs ∧ cs.size = P.cellsOf t := by
  simp only [Value.okWide, ht] at h
  obtain ⟨cs, h1, h2, _⟩ := h
  exact ⟨cs, h1, h2⟩
theorem open_bytes {r : Reach} {b0 : Nat} {t e : TypeId} {n : Nat} {v : Value} {d : DataW H} {ps : List MemPlace} (ht : P.underlying t = some (.array n e)) (he : P.underlying e = some (.int .u8)) (hc : P.cellsOf e = 1) (hct : P.cellsOf t = n)
    (hval : Value.okWide P w r b0 t v) (hd : DataW.Trod enc P w base spare held t v d ps) : ∃ l : List (BitVec 8), v = .agg (cells U8 l) ∧ l.length = n := by
  obtain ⟨cs, rfl, hs⟩ := okWide_array ht hval
  obtain ⟨fuel, hf⟩ := hd
  obtain ⟨xs, m, _, _, _, hx, hi⟩ := DataW.trod_array ht hf
  refine ⟨cs.toList.map byteOf, ?_, by simp [hs, hct]⟩
  congr 1
  apply Array.ext
  · simp [cells]
  · intro i h1 h2
    have hin : i < n := by omega
    have h := hi i hin
    rw [List.getElem?_eq_getElem (by omega)] at h
    obtain ⟨z, hz, _, hw⟩ := DataW.trod_int he h
    have hv : cs[i] = .int .u8 z := by
      rw [hc, Nat.mul_one] at hz
      have : ((cs.toList.drop i).take 1)[0]? = some (.int .u8 z) := by
        have hz' : ((cs.toList.drop i).take 1) = [.int .u8 z] := hz
        rw [hz']; rfl
      simp [List.getElem?_drop] at this
      have h3 := Array.getElem?_eq_some_iff.1 this
      exact h3.2
    simp only [cells, List.getElem_toArray, List.getElem_map, Array.getElem_toList]
    rw [hv]
    exact int_u8 hw
theorem open_i64 {r : Reach} {b0 : Nat} {t : TypeId} {v : Value} {d : DataW H} {ps : List MemPlace} (ht : P.underlying t = some (.int .i64)) (hval : Value.okWide P w r b0 t v) (hd : DataW.Trod enc P w base spare held t v d ps) :
    ∃ n : Int, v = .int .i64 n ∧ (Lit.int .i64 n).wf = true := by
  obtain ⟨n, rfl, _, _, hw⟩ := open_int ht hval hd
  exact ⟨n, rfl, hw⟩
end
end Go.Proofs.YtmbepikkgkcgkaaGreatDoor
namespace Go.Proofs.YtmbepikkgkcgkaaGreatDoor
open Go.ChangeShapes Go.WideShapes Go.ChangeAt Go.RowKit
def SlR (w : World) (v : Value) (l : List (BitVec 8)) : Prop :=
  ∃ a cap, v = .slice a l.length cap ∧ l.length ≤ cap ∧ cap ≤ maxLen ∧ (cap = 0 ∨ ∃ b off cs t fr, a = some ⟨b, off, none⟩ ∧ w.heap[b]? = some (.cells cs t fr) ∧ 0 < cs.size ∧ ∀ i, i < l.length → cs[off + i]? = some (U8 (nth l i)))
section
variable {H : Type} {enc : TypeId × Value → H} {P : Program} {w : World} {base : Nat} {held : Bool}
theorem open_slR {r : Reach} {b0 : Nat} {t e : TypeId} {v : Value} {d : DataW H} {ps : List MemPlace} (ht : P.underlying t = some (.slice e)) (he : P.underlying e = some (.int .u8)) (hc : P.cellsOf e = 1)
    (hval : Value.okWide P w r b0 t v) (hd : DataW.Trod enc P w base (fun _ => true) held t v d ps) : ∃ l : List (BitVec 8), SlR w v l := by
  obtain ⟨a0, len0, cap0, rfl⟩ := okWide_slice ht hval
  obtain ⟨fuel, hf⟩ := hd
  rcases open_ints ht he hc hf with ⟨hcs, _⟩ | ⟨x, len, c, zs, hcs, _, hl, hm, hz, _, hcell, hwz⟩
  · simp [Value.cells] at hcs
    obtain ⟨rfl, rfl, rfl⟩ := hcs
    exact ⟨[], none, 0, rfl, Nat.le_refl _, by unfold maxLen; omega, .inl rfl⟩
  · simp [Value.cells] at hcs
    obtain ⟨rfl, rfl, rfl⟩ := hcs
    rw [if_pos rfl] at hz
    have hlen : ((zs.take len0).map (BitVec.ofInt 8)).length = len0 := by simp; omega
    refine ⟨(zs.take len0).map (BitVec.ofInt 8), some x, cap0, by rw [hlen], by rw [hlen]; exact hl, hm, ?_⟩
    rcases Nat.eq_zero_or_pos cap0 with h0 | h0
    · exact .inl h0
    · right
      obtain ⟨b, off, spot⟩ := x
      have hspot : spot = none := by
        have h1 := hcell 0 (by omega)
        simpa [Addr.add] using World.cell?_spot h1
      subst hspot
      have at_ : ∀ i, i < cap0 → w.cell? ⟨b, off + i, none⟩ = some (.int .u8 (zs.getD i 0)) := fun i hi => by
        have h1 := hcell i (by omega)
        rwa [show (⟨b, off, none⟩ : Addr).add i = ⟨b, off + i, none⟩ from addr_mid b off i] at h1
      have h1 := at_ 0 h0
      unfold World.cell? at h1
      split at h1
      · rename_i cs t fr hh
        refine ⟨b, off, cs, t, fr, rfl, hh, ?_, fun i hi => ?_⟩
        · have h3 : cs[off + 0]? = _ := h1
          have := (Array.getElem?_eq_some_iff.1 h3).1
          omega
        rw [hlen] at hi
        have h2 := at_ i (by omega)
        unfold World.cell? at h2
        simp only [hh] at h2
        rw [show cs[off + i]? = some (.int .u8 (zs.getD i 0)) by simpa using h2, int_u8 (hwz _ (by rw [List.getD_eq_getElem?_getD, List.getElem?_eq_getElem (by omega)]; exact List.getElem_mem _))]
        congr 2
        rw [nth_eq _ _ (by rw [hlen]; exact hi)]
        have hi2 : i < zs.length := by omega
        simp [hi2]
      · cases h1
end
def locOf (sz : Nat) : Value → Option Loc
  | .slice (some a) _ cap => if cap = 0 then none else some ⟨a.block, a.off, cap * sz⟩
  | _ => none
def AllTx (w : World) : Nat → Nat → Value → Prop := fun c o v => ∃ cs t fr, w.heap[c]? = some (.cells cs t fr) ∧ cs[o]? = some v
def RowR (w : World) (sz : Nat) (v : Value) (x : Arr) : Prop := x.isMap = false ∧ ∃ a len cap, v = .slice a len cap ∧ len ≤ cap ∧ x.size = len * sz ∧ (cap = 0 ∨ ∃ b off cs t fr, a = some ⟨b, off, none⟩ ∧ w.heap[b]? = some (.cells cs t fr) ∧ ∀ i, i < x.size → ∃ u, cs[off + i]? = some u ∧ ∀ ι : Emb, ι.tx = AllTx w → (x.get i).rel ι u)
theorem SlR.row {w : World} {v : Value} {l : List (BitVec 8)} (h : SlR w v l) : RowR w 1 v (.a8 l) := by
  obtain ⟨a, cap, rfl, h1, _, h2⟩ := h
  refine ⟨rfl, a, l.length, cap, rfl, h1, (Nat.mul_one _).symm, h2.imp id ?_⟩
  rintro ⟨b, off, cs, t, fr, rfl, hh, _, hc⟩
  exact ⟨b, off, cs, t, fr, rfl, hh, fun i hi => ⟨_, hc i hi, fun _ _ => rfl⟩⟩
theorem SlR.stay {w : World} {v : Value} {l : List (BitVec 8)} (h : SlR w v l) {ι : Emb} (hι : ι.tx = AllTx w) : (AV.c (.bs l)).rel ι v := by
  obtain ⟨a, cap, rfl, h1, _, h2⟩ := h
  refine ⟨a, cap, rfl, h1, h2.imp id ?_⟩
  rintro ⟨b, off, cs, t, fr, rfl, hh, h0, hc⟩
  exact ⟨b, off, rfl, ⟨0, cs[0], by rw [hι]; exact ⟨cs, t, fr, hh, by simp [h0]⟩⟩, fun i hi => by rw [hι]; exact ⟨cs, t, fr, hh, hc i hi⟩⟩
def openEmb (w : World) (us : List (Value × Nat × Arr)) : Emb := ⟨fun i => (us[i]?).bind fun p => locOf p.2.1 p.1, AllTx w⟩
def openMem (us : List (Value × Nat × Arr)) : Mem := us.map fun p => .row false p.2.2
theorem open_R {us : List (Value × Nat × Arr)} {w : World} (hb : ∀ c Φ, baseObj c = some Φ → ∃ ob, w.heap[c]? = some ob ∧ Φ ob) (h : ∀ p ∈ us, RowR w p.2.1 p.1 p.2.2) : R (openEmb w us) (openMem us) w := by
  have row : ∀ {b : Nat} {own : Bool} {x : Arr}, (openMem us)[b]? = some (.row own x) → ∃ p, us[b]? = some p ∧ own = false ∧ x = p.2.2 := fun {b own x} hb => by
    unfold openMem at hb
    rw [List.getElem?_map] at hb
    obtain ⟨p, hp, e⟩ := Option.map_eq_some_iff.1 hb
    cases e
    exact ⟨p, hp, rfl, rfl⟩
  refine ⟨fun b hb => ?_, fun b l own x h1 h2 => ?_, fun b b' l l' own own' x x' _ _ _ k1 k2 ho => ?_, fun c Φ hc => ⟨?_, fun b l x _ k => ?_⟩⟩
  · unfold openEmb
    dsimp only
    rw [List.getElem?_eq_none (by simpa [openMem] using hb)]; rfl
  · obtain ⟨p, hp, rfl, rfl⟩ := row h2
    obtain ⟨hmp, a, len, cap, hv, hl, hsz, hs⟩ := h p (List.mem_of_getElem? hp)
    unfold openEmb at h1
    dsimp only at h1
    rw [hp] at h1
    simp only [Option.bind_some, hv] at h1
    cases a with
    | none => cases h1
    | some a =>
      simp only [locOf] at h1
      split at h1
      · cases h1
      · rename_i hc
        cases h1
        rcases hs with hs | ⟨b1, off, cs, t, fr, ha, hh, hcell⟩
        · exact absurd hs hc
        · cases ha
          refine .of hmp ⟨cs, t, fr, hh, by rw [hsz]; exact Nat.mul_le_mul_right _ hl, fun i hi => ?_, fun h => by cases h⟩
          obtain ⟨u, e1, e2⟩ := hcell i hi
          exact ⟨u, e1, e2 _ rfl⟩
  · obtain ⟨_, _, rfl, _⟩ := row k1
    obtain ⟨_, _, rfl, _⟩ := row k2
    rcases ho with h | h <;> cases h
  · cases hc with
    | tx k => obtain ⟨cs, t, fr, h1, h2⟩ := k; exact ⟨_, h1, cs, t, fr, rfl, h2⟩
    | base k => exact hb _ _ k
  · obtain ⟨_, _, e, _⟩ := row k
    cases e
theorem open_row {us : List (Value × Nat × Arr)} {w : World} {i sz len : Nat} {u : Value} {x : Arr} (hi : us[i]? = some (u, sz, x)) (h : RowR w sz u x) (hl : x.size = len * sz) (h0 : 0 < sz) : (AV.c (.sl i 0 len len sz)).rel (openEmb w us) u := by
  obtain ⟨_, a, ln, cap, rfl, h1, h2, hs⟩ := h
  obtain rfl : ln = len := Nat.eq_of_mul_eq_mul_right h0 (h2.symm.trans hl)
  refine ⟨a, cap, rfl, h1, h1, ?_⟩
  rcases hs with hs | ⟨b1, off, cs, t, fr, rfl, hh, hcell⟩
  · exact .inl hs
  · by_cases hc : cap = 0
    · exact .inl hc
    · refine .inr ⟨⟨b1, off, cap * sz⟩, ?_, rfl, by simp⟩
      unfold openEmb
      dsimp only
      rw [hi]
      simp [locOf, hc]
theorem rel_bytes (ι : Emb) (l : List (BitVec 8)) : (AV.agg (.a8 l)).rel ι (.agg (cells U8 l)) := by
  refine ⟨cells U8 l, rfl, by simp [cells, Arr.size], fun i hi => ⟨U8 (nth l i), ?_, rfl⟩⟩
  have hi' : i < l.length := hi
  rw [Nat.zero_add, nth_eq l i hi']
  simp [cells, hi']
theorem law_calls {P : Program} {f : FuncId} {args : List AV} {m m' : Mem} {ι : Emb} {w : World} {vs : Array Value} (h : Ev P (.call f args m) (.val (.c (.val (.bool true))) m')) (hR : R ι m w) (ha : ArgsRel ι args vs.toList) (hro : ∀ c, ¬ Owned ι m c) :
    Calls P f vs w fun e w' => e = .returned (.bool true) ∧ Below w.heap.size w w' := by
  refine (sound h ι w vs hR ha).mono fun e w' hq => ?_
  obtain ⟨u, ι', rfl, hv, hs⟩ := hq
  have hu : u = .bool true := hv
  subst hu
  exact ⟨rfl, hs.trans.os, hs.trans.tape, hs.trans.output, hs.trans.size, fun c hc => hs.trans.keep c hc (hro c)⟩
theorem open_none {us : List (Value × Nat × Arr)} {w : World} {c : Nat} : ¬ Owned (openEmb w us) (openMem us) c := by
  rintro ⟨b, l, x, _, h, _⟩
  unfold openMem at h
  rw [List.getElem?_map] at h
  obtain ⟨p, _, e⟩ := Option.map_eq_some_iff.1 h
  cases e
end Go.Proofs.YtmbepikkgkcgkaaGreatDoor
namespace Go.Proofs.YtmbepikkgkcgkaaGreatDoor
open Go.ChangeShapes Go.WideShapes Go.ChangeAt Go.RowKit
section
variable {H : Type} {enc : TypeId × Value → H} {P : Program} {w : World} {base : Nat} {held : Bool}
theorem open_intsR {r : Reach} {b0 : Nat} {t e : TypeId} {v : Value} {d : DataW H} {ps : List MemPlace} (ht : P.underlying t = some (.slice e)) (he : P.underlying e = some (.int .i64)) (hc : P.cellsOf e = 1)
    (hval : Value.okWide P w r b0 t v) (hd : DataW.Trod enc P w base (fun _ => true) held t v d ps) : ∃ l : List Int, RowR w 1 v (.ai l) ∧ l.length ≤ maxLen ∧ ∀ x ∈ l, -9223372036854775808 ≤ x ∧ x ≤ 9223372036854775807 := by
  obtain ⟨a0, len0, cap0, rfl⟩ := okWide_slice ht hval
  obtain ⟨fuel, hf⟩ := hd
  rcases open_ints ht he hc hf with ⟨hcs, _⟩ | ⟨x, len, c, zs, hcs, _, hl, hm, hz, _, hcell, hwz⟩
  · simp [Value.cells] at hcs
    obtain ⟨rfl, rfl, rfl⟩ := hcs
    exact ⟨[], ⟨rfl, none, 0, 0, rfl, Nat.le_refl _, rfl, .inl rfl⟩, Nat.zero_le _, fun x hx => by cases hx⟩
  · simp [Value.cells] at hcs
    obtain ⟨rfl, rfl, rfl⟩ := hcs
    rw [if_pos rfl] at hz
    have hlen : (zs.take len0).length = len0 := by simp; omega
    refine ⟨zs.take len0, ⟨rfl, some x, len0, cap0, rfl, hl, by show (zs.take len0).length = _; rw [hlen, Nat.mul_one], ?_⟩, by rw [hlen]; omega, fun y hy => ?_⟩
    · rcases Nat.eq_zero_or_pos cap0 with h0 | h0
      · exact .inl h0
      · right
        obtain ⟨b, off, spot⟩ := x
        have hspot : spot = none := by
          have h1 := hcell 0 (by omega)
          simpa [Addr.add] using World.cell?_spot h1
        subst hspot
        have at_ : ∀ i, i < cap0 → w.cell? ⟨b, off + i, none⟩ = some (.int .i64 (zs.getD i 0)) := fun i hi => by
          have h1 := hcell i (by omega)
          rwa [show (⟨b, off, none⟩ : Addr).add i = ⟨b, off + i, none⟩ from addr_mid b off i] at h1
        have h1 := at_ 0 h0
        unfold World.cell? at h1
        split at h1
        · rename_i cs t fr hh
          refine ⟨b, off, cs, t, fr, rfl, hh, fun i hi => ?_⟩
          have hi : i < len0 := by have hi : i < (zs.take len0).length := hi; omega
          have h2 := at_ i (by omega)
          unfold World.cell? at h2
          simp only [hh] at h2
          refine ⟨_, by simpa using h2, fun ι _ => ?_⟩
          show Value.int .i64 (zs.getD i 0) = .int .i64 (geti (zs.take len0) i)
          simp [geti, hi]
        · cases h1
    · have := hwz y (List.mem_of_mem_take hy)
      simp only [Lit.wf, Bool.and_eq_true, decide_eq_true_eq] at this
      rw [show IntKind.i64.min = -9223372036854775808 from rfl, show IntKind.i64.max = 9223372036854775807 from rfl] at this
      exact this
end
def laid3 : List (String × DataW Unit) := [("math/bits.deBruijn32tab", Rows.laid_math_bits_deBruijn32tab), ("math/bits.deBruijn64tab", Rows.laid_math_bits_deBruijn64tab), ("internal/strconv.uint64pow10", Rows.laid_internal_strconv_uint64pow10)]
theorem gPow : Tryz.prog.globalNamed "internal/strconv.uint64pow10" = some 0 := by kernel_rfl
theorem tPow : (Tryz.prog.globals[0]?).map (·.type) = some 222 := by kernel_rfl
theorem uPow : Tryz.prog.underlying 222 = some (.array 20 70) := by kernel_rfl
theorem uPow70 : Tryz.prog.underlying 70 = some (.int .u64) := by kernel_rfl
theorem door_met (os : Os) (args : Array Value) : laidMetH Tryz.prog laid3 ((World.doorLaid Tryz.prog 400 os).forCall (fun _ _ => 0) ⟨#[], args, []⟩).memory :=
  laidMetH_of_parts3 (fuel := 8) (laidMet_of_run' 8 (by kernel_rfl) (by kernel_rfl)) (by kernel_rfl) (by kernel_rfl)
theorem base_of {W : World} (h : laidMetH Tryz.prog laid3 W) : ∀ c Φ, baseObj c = some Φ → ∃ ob, W.heap[c]? = some ob ∧ Φ ob := by
  rw [MakeChecks.laidMetH_plain _ _ _ (by kernel_rfl)] at h
  obtain ⟨ps, ⟨g0, t0, cs0, f0, p0, q0, hg0, ht0, hv0, hd0, ⟨g1, t1, cs1, f1, p1, q1, hg1, ht1, hv1, hd1, ⟨g2, t2, cs2, f2, p2, q2, hg2, ht2, hv2, hd2, _⟩, _⟩, _⟩, _, _⟩ := h
  obtain rfl := Option.some.inj (gPow.symm.trans hg2)
  obtain rfl := Option.some.inj (tPow.symm.trans ht2)
  have hd : DataW.trod _ Tryz.prog _ _ _ _ f2 222 cs2.toList = some (Lib.tabData .u64 Lib.pow10Tab, p2) := hd2
  have hcs := Lib.cells_of_tab uPow uPow70 (by kernel_rfl) (by kernel_rfl) hd
  intro c Φ hc
  unfold baseObj at hc
  split at hc
  · rename_i h0
    subst h0
    cases hc
    simp only [World.var?, gPow, Option.bind_some] at hv2
    split at hv2
    · rename_i cs t fr hh
      cases hv2
      exact ⟨_, hh, t, fr, by rw [← hcs]⟩
    · cases hv2
  · cases hc
end Go.Proofs.YtmbepikkgkcgkaaGreatDoor
namespace Go.Proofs.YtmbepikkgkcgkaaGreatDoor
open Go.RowKit
section
variable (X : Nd → (Int → List (BitVec 8)) → List (BitVec 8) × Nat) (L : List Nd)
def tb : Nat → List (List (BitVec 8))
  | 0 => []
  | i + 1 => tb i ++ [(btR X L (fun x => getb (tb i) x.toNat) (getn L i)).1]
def bt (i : Nat) : List (BitVec 8) × Nat := btR X L (fun x => getb (tb X L i) x.toNat) (getn L i)
def gB (x : Int) : List (BitVec 8) := (bt X L x.toNat).1
end
variable {X : Nd → (Int → List (BitVec 8)) → List (BitVec 8) × Nat} {L : List Nd}
theorem tb_length : ∀ i, (tb X L i).length = i
  | 0 => rfl
  | i + 1 => by simp [tb, tb_length i]
theorem tb_get : ∀ (i j : Nat), j < i → getb (tb X L i) j = (bt X L j).1
  | 0, j, h => by omega
  | i + 1, j, h => by
    rw [tb]
    by_cases e : j = i
    · subst e
      simp only [getb, List.getD_eq_getElem?_getD]
      rw [List.getElem?_append_right (by rw [tb_length]; exact Nat.le_refl _), tb_length, Nat.sub_self]
      rfl
    · have := tb_get i j (by omega)
      simp only [getb, List.getD_eq_getElem?_getD] at this ⊢
      rw [List.getElem?_append_left (by rw [tb_length]; omega)]
      exact this
def Cong (X : Nd → (Int → List (BitVec 8)) → List (BitVec 8) × Nat) : Prop := ∀ y g g', (leastK y.k ≤ y.a.length) → (∀ x ∈ y.a, g x = g' x) → X y g = X y g'
theorem noX_cong : Cong (fun _ _ => ([], 0)) := fun _ _ _ _ _ => rfl
theorem btR_cong (hX : Cong X) {y : Nd} {g g' : Int → List (BitVec 8)} (hl : leastK y.k ≤ y.a.length) (h : ∀ x ∈ y.a, g x = g' x) : btR X L g y = btR X L g' y := by
  have h1 : y.a.map g = y.a.map g' := List.map_congr_left h
  have h2 : (y.a.drop 1).map g = (y.a.drop 1).map g' := List.map_congr_left fun x hx => h x (List.mem_of_mem_drop hx)
  have first : 1 ≤ y.a.length → g (geti y.a 0) = g' (geti y.a 0) := fun hl => h _ (by simp [geti, show 0 < y.a.length by omega])
  unfold btR
  rw [h1, h2, hX y g g' hl h]
  by_cases e4 : y.k = 4
  · rw [first (by rw [e4] at hl; exact hl)]
  · by_cases e6 : y.k = 6
    · rw [first (by rw [e6] at hl; exact hl)]
    · rw [if_neg e4, if_neg e4, if_neg e6, if_neg e6]
theorem bt_eq (hX : Cong X) (hA : ArOk L) {i : Nat} (hi : i < L.length) : bt X L i = btR X L (gB X L) (getn L i) := by
  have hnd := hA.nd hi
  unfold bt
  refine btR_cong hX hnd.len.1 fun x hx => ?_
  have := hnd.args x hx
  unfold gB
  rw [tb_get _ _ (by omega)]
theorem dget_new {D : Dn} {x : Int} {b : List (BitVec 8)} (h : ¬ dhas D x) : dget (D ++ [(x, b)]) x = b := by
  unfold dget
  rw [List.find?_append]
  cases hf : D.find? (fun p => p.1 == x) with
  | some p =>
    have h1 := List.mem_of_find?_eq_some hf
    have h2 := List.find?_some hf
    simp only [beq_iff_eq] at h2
    exact absurd ⟨p, h1, h2⟩ h
  | none => simp
theorem dget_old {D : Dn} {x y : Int} {b : List (BitVec 8)} (h : x ≠ y) : dget (D ++ [(y, b)]) x = dget D x := by
  unfold dget
  rw [List.find?_append]
  cases hf : D.find? (fun p => p.1 == x) with
  | some p => rfl
  | none => simp [Ne.symm h]
theorem bsRun_all (hX : Cong X) (hA : ArOk L) : ∀ (l : List Int) (D : Dn), l.Pairwise (· < ·) → (∀ k ∈ l, 0 ≤ k ∧ k < (L.length : Int)) → (∀ k ∈ l, ¬ dhas D k) → (∀ k ∈ l, ∀ x ∈ (getn L k.toNat).a, dhas D x ∨ x ∈ l) → (∀ x, dhas D x → dget D x = gB X L x) → (∀ k ∈ l, ∀ x, dhas D x → x < k) →
    ((∀ k ∈ l, (bt X L k.toNat).2 = 0) ∧ (bsRun X L l D).2 = 0 ∧ (∀ x, dhas D x ∨ x ∈ l → dget (bsRun X L l D).1 x = gB X L x)) ∨ (∃ k ∈ l, ¬ (bt X L k.toNat).2 = 0 ∧ (bsRun X L l D).2 = (bt X L k.toNat).2)
  | [], D, _, _, _, _, hD, _ => .inl ⟨fun k hk => (by cases hk), rfl, fun x hx => hD x (by rcases hx with h | h; exact h; cases h)⟩
  | k :: l, D, hp, hr, hn, ha, hD, hlt => by
    obtain ⟨hp1, hp2⟩ := List.pairwise_cons.1 hp
    have hk := hr k List.mem_cons_self
    have hkL : k.toNat < L.length := by omega
    have hnd := hA.nd hkL
    have hargs : ∀ x ∈ (getn L k.toNat).a, dhas D x := fun x hx => by
      have h1 := hnd.args x hx
      rcases ha k List.mem_cons_self x hx with h | h
      · exact h
      · rcases List.mem_cons.1 h with rfl | h
        · omega
        · have := hp1 x h; omega
    have hv : btR X L (dget D) (getn L k.toNat) = bt X L k.toNat := by
      rw [bt_eq hX hA hkL]
      exact btR_cong hX hnd.len.1 fun x hx => hD x (hargs x hx)
    rw [bsRun.eq_2, hv]
    by_cases he : (bt X L k.toNat).2 = 0
    · rw [if_pos he]
      have hnk := hn k List.mem_cons_self
      have hd : ∀ x, dhas (D ++ [(k, (bt X L k.toNat).1)]) x → dhas D x ∨ x = k := fun x ⟨p, hp, e⟩ => by
        rcases List.mem_append.1 hp with hp | hp
        · exact .inl ⟨p, hp, e⟩
        · obtain rfl := List.mem_singleton.1 hp
          exact .inr e.symm
      rcases bsRun_all hX hA l (D ++ [(k, (bt X L k.toNat).1)]) hp2 (fun x hx => hr x (List.mem_cons_of_mem _ hx)) (fun x hx h => by
          rcases hd x h with h | h
          · exact hn x (List.mem_cons_of_mem _ hx) h
          · have := hp1 x hx; omega) (fun y hy x hx => by
          rcases ha y (List.mem_cons_of_mem _ hy) x hx with h | h
          · exact .inl (dhas_app h _)
          · rcases List.mem_cons.1 h with rfl | h
            · exact .inl (dhas_last _ _ _)
            · exact .inr h) (fun x h => by
          by_cases e : x = k
          · subst e
            rw [dget_new hnk]
            rfl
          · rw [dget_old e]
            rcases hd x h with h | h
            · exact hD x h
            · exact absurd h e) (fun y hy x h => by
          have h1 := hp1 y hy
          rcases hd x h with h | h
          · have := hlt k List.mem_cons_self x h; omega
          · omega) with ⟨h1, h2, h3⟩ | ⟨y, hy, h1, h2⟩
      · refine .inl ⟨fun y hy => ?_, h2, fun x hx => h3 x ?_⟩
        · rcases List.mem_cons.1 hy with rfl | hy
          · exact he
          · exact h1 y hy
        · rcases hx with h | h
          · exact .inl (dhas_app h _)
          · rcases List.mem_cons.1 h with rfl | h
            · exact .inl (dhas_last _ _ _)
            · exact .inr h
      · exact .inr ⟨y, List.mem_cons_of_mem _ hy, h1, h2⟩
    · rw [if_neg he]
      exact .inr ⟨k, List.mem_cons_self, he, rfl⟩
theorem bsOf_cases (hX : Cong X) (hA : ArOk L) {i : Nat} (hi : i < L.length) : ((∀ k ∈ beneath L i, (bt X L k.toNat).2 = 0) ∧ bsOf X L i = ((bt X L i).1, 0)) ∨ (∃ k ∈ beneath L i, ¬ (bt X L k.toNat).2 = 0 ∧ bsOf X L i = ([], (bt X L k.toNat).2)) := by
  have hlt := beneath_lt L i
  rcases bsRun_all hX hA (beneath L i) [] (beneath_asc L i) (fun k hk => by have := hlt k hk; omega) (fun k _ ⟨p, hp, _⟩ => by cases hp) (fun k hk x hx => .inr (by
      have h1 := hlt k hk
      have h2 := beneath_args hA hi (k := k.toNat) (by rwa [Int.toNat_of_nonneg h1.1]) x hx
      exact h2)) (fun x ⟨p, hp, _⟩ => by cases hp) (fun k _ x ⟨p, hp, _⟩ => by cases hp) with ⟨h1, h2, h3⟩ | ⟨k, hk, h1, h2⟩
  · refine .inl ⟨h1, ?_⟩
    unfold bsOf
    rw [if_pos h2, h3 _ (.inr (beneath_top L i))]
    rfl
  · refine .inr ⟨k, hk, h1, ?_⟩
    unfold bsOf
    rw [if_neg (by rw [h2]; exact h1), h2]
theorem bsOf_ok (hX : Cong X) (hA : ArOk L) {i : Nat} (hi : i < L.length) (h : ∀ k : Nat, k ≤ i → (bt X L k).2 = 0) : bsOf X L i = ((bt X L i).1, 0) := by
  rcases bsOf_cases hX hA hi with ⟨_, h1⟩ | ⟨k, hk, h1, _⟩
  · exact h1
  · exact absurd (h _ (by have := (beneath_lt L i k hk).2; omega)) h1
end Go.Proofs.YtmbepikkgkcgkaaGreatDoor
namespace Go.Proofs.YtmbepikkgkcgkaaGreatDoor
open Go.RowKit
theorem btR_app (X : Nd → (Int → List (BitVec 8)) → List (BitVec 8) × Nat) (L t : List Nd) (g : Int → List (BitVec 8)) (y : Nd) (h : y.k = 7 → (geti y.a 0).toNat < L.length) : btR X (L ++ t) g y = btR X L g y := by
  unfold btR
  by_cases e : y.k = 7
  · have : getn (L ++ t) (geti y.a 0).toNat = getn L (geti y.a 0).toNat := by
      simp only [getn, List.getD_eq_getElem?_getD]
      rw [List.getElem?_append_left (h e)]
    rw [this]
  · simp only [e, false_and, if_false]
theorem getnA {L t : List Nd} {i : Nat} (h : i < L.length) : getn (L ++ t) i = getn L i := by
  simp only [getn, List.getD_eq_getElem?_getD]
  rw [List.getElem?_append_left h]
theorem bt_app {X : Nd → (Int → List (BitVec 8)) → List (BitVec 8) × Nat} {L t : List Nd} (hA : ArOk L) : ∀ i, i ≤ L.length → tb X (L ++ t) i = tb X L i := by
  intro i
  induction i with
  | zero => intro _; rfl
  | succ i ih =>
    intro h
    have hnd := hA.nd (i := i) (by omega)
    rw [tb, tb, ih (by omega), getnA (by omega), btR_app _ _ _ _ _ fun e => by
      have hl : leastK (getn L i).k ≤ (getn L i).a.length := hnd.len.1
      rw [e] at hl
      have hl : 2 ≤ (getn L i).a.length := hl
      have := hnd.args (geti (getn L i).a 0) (by simp [geti, show 0 < (getn L i).a.length by omega])
      omega]
theorem bt_appI {X : Nd → (Int → List (BitVec 8)) → List (BitVec 8) × Nat} {L t : List Nd} (hA : ArOk L) {i : Nat} (h : i < L.length) : bt X (L ++ t) i = bt X L i := by
  have hnd := hA.nd h
  unfold bt
  rw [bt_app hA i (by omega), getnA h, btR_app _ _ _ _ _ fun e => by
    have hl : leastK (getn L i).k ≤ (getn L i).a.length := hnd.len.1
    rw [e] at hl
    have hl : 2 ≤ (getn L i).a.length := hl
    have := hnd.args (geti (getn L i).a 0) (by simp [geti, show 0 < (getn L i).a.length by omega])
    omega]
structure Good (S : List Nd) : Prop where
  ok : ArOk S
  kind : ∀ i, i < S.length → (getn S i).k ≤ 4
  none : ∀ i, i < S.length → (bt noX S i).2 = 0
  len : ∀ i, i < S.length → (bt noX S i).1.length = 32
theorem Good.nil : Good [] := ⟨.nil, fun i h => by simp at h, fun i h => by simp at h, fun i h => by simp at h⟩
theorem Good.hard {S : List Nd} (h : Good S) {i : Nat} (hi : i < S.length) : ¬ hard S (getn S i) := by
  have := h.kind i hi
  unfold Proofs.YtmbepikkgkcgkaaGreatDoor.hard
  omega
theorem Good.bytes {S : List Nd} (h : Good S) {i : Nat} (hi : i < S.length) : bsOf noX S i = ((bt noX S i).1, 0) :=
  bsOf_ok noX_cong h.ok hi fun k hk => h.none k (by omega)
theorem bt_last (S : List Nd) (y : Nd) : bt noX (S ++ [y]) S.length = btR noX (S ++ [y]) (fun x => getb (tb noX (S ++ [y]) S.length) x.toNat) y := by
  unfold bt
  rw [show getn (S ++ [y]) S.length = y by simp [getn]]
theorem Good.snoc {S : List Nd} (h : Good S) {k n : Int} {a : List Int} (he : mkErr S.length k n a = 0) (hn : n ≤ 9223372036854775807) (hf : findN S ⟨k, n, a⟩ = .none) (hk : k ≤ 4) (h0 : (bt noX (S ++ [⟨k, n, a⟩]) S.length).2 = 0) (h1 : (bt noX (S ++ [⟨k, n, a⟩]) S.length).1.length = 32) : Good (S ++ [⟨k, n, a⟩]) := by
  have last : ∀ i, i < (S ++ [(⟨k, n, a⟩ : Nd)]).length → i = S.length ∨ i < S.length := fun i hi => by simp at hi; omega
  refine ⟨h.ok.snoc he hn hf, fun i hi => ?_, fun i hi => ?_, fun i hi => ?_⟩
  · rcases last i hi with rfl | hi
    · rw [getn_last]; exact hk
    · rw [getnA hi]; exact h.kind i hi
  · rcases last i hi with rfl | hi
    · exact h0
    · rw [bt_appI h.ok hi]; exact h.none i hi
  · rcases last i hi with rfl | hi
    · exact h1
    · rw [bt_appI h.ok hi]; exact h.len i hi
theorem bt_atom (S : List Nd) (n : Nat) : bt noX (S ++ [⟨1, (n : Int), []⟩]) S.length = (sha256 (kAtom ++ rlNum8 n), 0) := by rw [bt_last]; rfl
theorem bt_word (S : List Nd) (n : Nat) : bt noX (S ++ [⟨2, (n : Int), []⟩]) S.length = (sha256 (kWord ++ rlNum8 n), 0) := by rw [bt_last]; rfl
theorem tb_at {S : List Nd} (h : Good S) (y : Nd) {x : Nat} (hx : x < S.length) : getb (tb noX (S ++ [y]) S.length) ((x : Nat) : Int).toNat = (bt noX S x).1 := by
  rw [bt_app h.ok _ (Nat.le_refl _), Int.toNat_natCast, tb_get _ _ hx]
theorem bt_kdf {S : List Nd} (h : Good S) (m x : Nat) (hx : x < S.length) : bt noX (S ++ [⟨4, (m : Int), [(x : Int)]⟩]) S.length = btKdf (sha256 (bt noX S x).1) m := by
  rw [bt_last, ← tb_at h ⟨4, (m : Int), [(x : Int)]⟩ hx]
  rfl
theorem bt_hash {S : List Nd} (h : Good S) (x : Nat) (hx : x < S.length) : bt noX (S ++ [⟨3, 0, [(x : Int), (x : Int)]⟩]) S.length = btHash (jnR [(bt noX S x).1, (bt noX S x).1]) := by
  rw [bt_last, ← tb_at h ⟨3, 0, [(x : Int), (x : Int)]⟩ hx]
  rfl
theorem jn_two (v : List (BitVec 8)) (h : v.length = 32) : jnR [v, v] = (jn [v, v], 0) := by
  unfold jnR
  rw [if_pos (by rw [jl_cons, jl_cons, h]; decide)]
theorem Good.atom {S : List Nd} (h : Good S) (n : Nat) (hn : n ≤ 9223372036854775807) (he : mkErr S.length 1 (n : Int) [] = 0) (hf : findN S ⟨1, (n : Int), []⟩ = .none) : Good (S ++ [⟨1, (n : Int), []⟩]) :=
  h.snoc he (by omega) hf (by decide) (by rw [bt_atom]) (by rw [bt_atom]; exact sha256_len _)
theorem Good.word {S : List Nd} (h : Good S) (n : Nat) (hn : n ≤ 9223372036854775807) (he : mkErr S.length 2 (n : Int) [] = 0) (hf : findN S ⟨2, (n : Int), []⟩ = .none) : Good (S ++ [⟨2, (n : Int), []⟩]) :=
  h.snoc he (by omega) hf (by decide) (by rw [bt_word]) (by rw [bt_word]; exact sha256_len _)
theorem Good.kdf {S : List Nd} (h : Good S) (m x : Nat) (hm : m ≤ 9223372036854775807) (hx : x < S.length) (he : mkErr S.length 4 (m : Int) [(x : Int)] = 0) (hf : findN S ⟨4, (m : Int), [(x : Int)]⟩ = .none) : Good (S ++ [⟨4, (m : Int), [(x : Int)]⟩]) :=
  h.snoc he (by omega) hf (by decide) (by rw [bt_kdf h m x hx]; rfl) (by rw [bt_kdf h m x hx]; exact macExp0_len _ _ _)
theorem Good.hash {S : List Nd} (h : Good S) (x : Nat) (hx : x < S.length) (he : mkErr S.length 3 0 [(x : Int), (x : Int)] = 0) (hf : findN S ⟨3, 0, [(x : Int), (x : Int)]⟩ = .none) : Good (S ++ [⟨3, 0, [(x : Int), (x : Int)]⟩]) :=
  h.snoc he (by decide) hf (by decide) (by rw [bt_hash h x hx, jn_two _ (h.len x hx)]; rfl) (by rw [bt_hash h x hx, jn_two _ (h.len x hx)]; exact sha256_len _)
theorem find_last {S : List Nd} (hA : ArOk S) {k n : Int} {a : List Int} {x : Nat} (hx : x + 1 = S.length) (ha : (x : Int) ∈ a) : findN S ⟨k, n, a⟩ = none := by
  cases hf : findN S ⟨k, n, a⟩ with
  | none => rfl
  | some i =>
    obtain ⟨h1, h2⟩ := findN_some hf
    have := (hA.nd h1).args (x : Int) (by rw [h2]; exact ha)
    omega
theorem find_kind {S : List Nd} {k n : Int} {a : List Int} (h : ∀ i, i < S.length → (getn S i).k ≠ k) : findN S ⟨k, n, a⟩ = none := by
  cases hf : findN S ⟨k, n, a⟩ with
  | none => rfl
  | some i =>
    obtain ⟨h1, h2⟩ := findN_some hf
    exact absurd (by rw [h2]) (h i h1)
theorem mkErr_atom (m n : Nat) : mkErr m 1 (n : Int) [] = 0 := by
  unfold mkErr
  rw [if_neg (by decide), if_neg (by simp [numb]), if_neg (by decide), if_neg (by simp [hasB])]
theorem mkErr_word (m n : Nat) : mkErr m 2 (n : Int) [] = 0 := by
  unfold mkErr
  rw [if_neg (by decide), if_neg (by simp [numb]), if_neg (by decide), if_neg (by simp [hasB])]
theorem mkErr_kdf (N m x : Nat) (h : x < N) : mkErr N 4 (m : Int) [(x : Int)] = 0 := by
  unfold mkErr
  rw [if_neg (by decide), if_neg (by simp [numb]), if_neg (by show ¬ (1 < leastK 4 ∨ mostK 4 < 1); decide), if_neg (by simp [hasB]; omega)]
theorem mkErr_hash (N x : Nat) (h : x < N) : mkErr N 3 0 [(x : Int), (x : Int)] = 0 := by
  unfold mkErr
  rw [if_neg (by decide), if_neg (by decide), if_neg (by show ¬ (2 < leastK 3 ∨ mostK 3 < 2); decide), if_neg (by simp [hasB]; omega)]
def bStr (y : List (BitVec 8)) : ByteArray := strOfNums (y.map fun b => (b.toNat : Int))
theorem o_strB {P : Program} {e : Operand → AV} {M : Mem} {s d el : TypeId} {x : Operand} {y : List (BitVec 8)} (hs : P.underlying s = some (.slice el)) (he : P.underlying el = some (.int .u8)) (hd : P.underlying d = some .string) (hx : e x = .c (.bs y)) : Ev P (.op (.convert s d x) e M) (.val (.c (.val (.string (bStr y)))) M) :=
  Ev.sem fun O ι w ρ hO hR hρ => by
    obtain ⟨dst, op, ty, pos, af, gd⟩ := O
    subst hO
    have h1 := hρ x (by simp [Op.operands])
    rw [hx] at h1
    obtain ⟨p, cap, hv, h2, h3⟩ := h1
    have hrun : (convert s d (.slice p y.length cap)).run P w = .ok (.string (bStr y)) w := by
      rcases h3 with h3 | ⟨c, o, rfl, _, hr⟩
      · obtain rfl : y = [] := List.eq_nil_of_length_eq_zero (by omega)
        rw [List.length_nil, run_convert_bytes_string w s d el p 0 cap hs he hd]
        cases p with
        | none =>
          simp [Conv.bytesToString, bStr, strOfNums, ByteArray.empty, ByteArray.emptyWithCapacity]
          rfl
        | some a =>
          have := run_bytesToString (P := P) w a 0 cap [] (by simpa using run_loadCells_list (P := P) w a [] (fun j v hj => by simp at hj))
          rw [this]
          simp [bStr, strOfNums, ByteArray.empty, ByteArray.emptyWithCapacity]
          rfl
      · refine run_convert_bytes_arg w s el hs he c o y.length cap (y.map fun b => (b.toNat : Int)) (by simp) (fun i hi => ?_) d hd
        obtain ⟨⟨cs, t, fr, g1, g2⟩, _⟩ := hR.txt _ _ _ (hr i hi)
        rw [cell_of g1, g2]
        show some (U8 (nth y i)) = _
        rw [nth_eq y i hi]
        simp [U8, List.getD_eq_getElem?_getD, hi]
        rfl
    refine .inl ⟨.string (bStr y), w, ι, .inl ?_, rfl, Step.refl hR (Nat.le_refl _)⟩
    simp [execOp, hv, hrun]
theorem o_eqlS {P : Program} {e : Operand → AV} {M : Mem} {t t2 : TypeId} {x y : Operand} {a : ByteArray} (hx : e x = .c (.val (.string a))) (hy : e y = .c (.val (.string a))) : Ev P (.op (.binOp .eql t x y t2) e M) (.val (.c (.val (.bool true))) M) :=
  Ev.sem fun O ι w ρ hO hR hρ => by
    obtain ⟨dst, op, ty, pos, af, gd⟩ := O
    subst hO
    have h1 := hρ x (by simp [Op.operands])
    have h2 := hρ y (by simp [Op.operands])
    rw [hx] at h1; rw [hy] at h2
    have h1 : ρ x = .string a := h1
    have h2 : ρ y = .string a := h2
    refine .inl ⟨.bool true, w, ι, .inl ?_, rfl, Step.refl hR (Nat.le_refl _)⟩
    simp [execOp, h1, h2, eqGuard, binOp_string_eql]
end Go.Proofs.YtmbepikkgkcgkaaGreatDoor
namespace Go.Proofs.YtmbepikkgkcgkaaGreatDoor
open Go.RowKit
theorem v_maxI {P : Program} {T : Nat → AV} {M : Mem} {x y : Operand} {t t' : TypeId} {a b : Int} (hx : opnd T x = .c (.val (.int .i64 a))) (hy : opnd T y = .c (.val (.int .i64 b))) : evVal P (opnd T) M (.call { callee := .builtin .max, args := #[x, y], argTypes := #[t, t'] }) = some (.c (.val (.int .i64 (if a < b then b else a)))) := by
  show evMax [opnd T x, opnd T y] = _
  rw [hx, hy]
  simp [evMax]
set_option maxRecDepth 100000 in
theorem mkFI_ev (L : List Nd) (N : Nat) (k n : Int) (a : List Int) (hA : ArOk L) (hN : L.length = N) (hNl : N < 1000000) (hml : a.length ≤ 1000) (hr : ∀ x ∈ k :: n :: a, -9223372036854775808 ≤ x ∧ x ≤ 9223372036854775807) (he : mkErr N k n a = 0) (i : Nat) (hf : findN L ⟨k, n, a⟩ = some i) :
    Ev Tryz.prog (.call 21 [.c (.ptr 0 0), .c (.val (.int .i64 k)), .c (.val (.int .i64 n)), .c (.is a)] [.row true (.ac [.sl 1 0 N N 3, .mp 2]), .row true (.an L), .row true (.mp (arEnt L))])
      (.val (.tup [.c (.val (.int .i64 ((i : Nat) : Int))), .c (.val (.int .i64 ((0 : Nat) : Int)))]) [.row true (.ac [.sl 1 0 N N 3, .mp 2]), .row true (.an L), .row true (.mp (arEnt L))]) := by
  have h1 := mkF_ev L N k n a a.length a.length hA hN (by omega) rfl hml hr he i hf
  have h2 : Ev Tryz.prog (.call 21 [.c (.ptr 0 0), .c (.val (.int .i64 k)), .c (.val (.int .i64 n)), .c (.sl 3 0 a.length a.length 1)] [.row true (.ac [.sl 1 0 N N 3, .mp 2]), .row true (.an L), .row true (.mp (arEnt L)), .row false (.ai a)])
      (.val (.tup [.c (.val (.int .i64 ((i : Nat) : Int))), .c (.val (.int .i64 ((0 : Nat) : Int)))]) [.row true (.ac [.sl 1 0 N N 3, .mp 2]), .row true (.an L), .row true (.mp (arEnt L)), .row false (.ai a)]) :=
    Ev.relink [0, 3, 1, 2] (by kernel_rfl) (by kernel_rfl) (by kernel_rfl) h1 (by kernel_rfl) (by kernel_rfl)
  exact Ev.isRow (a := a) (args' := [.c (.ptr 0 0), .c (.val (.int .i64 k)), .c (.val (.int .i64 n)), .c (.sl 3 0 a.length a.length 1)]) 3 [] rfl rfl rfl (fun j hj => by match j with | 0 => rfl | 1 => rfl | 2 => rfl | 3 => exact absurd rfl hj | j + 4 => rfl) h2 (by kernel_rfl) (by kernel_rfl) (by kernel_rfl) (by kernel_rfl)
theorem mkF0_ev (L : List Nd) (N : Nat) (k n : Int) (hA : ArOk L) (hN : L.length = N) (hNl : N < 1000000) (hr : ∀ x ∈ [k, n], -9223372036854775808 ≤ x ∧ x ≤ 9223372036854775807) (he : mkErr N k n [] = 0) (i : Nat) (hf : findN L ⟨k, n, []⟩ = some i) :
    Ev Tryz.prog (.call 21 [.c (.ptr 0 0), .c (.val (.int .i64 k)), .c (.val (.int .i64 n)), .c .nsl] [.row true (.ac [.sl 1 0 N N 3, .mp 2]), .row true (.an L), .row true (.mp (arEnt L))])
      (.val (.tup [.c (.val (.int .i64 ((i : Nat) : Int))), .c (.val (.int .i64 ((0 : Nat) : Int)))]) [.row true (.ac [.sl 1 0 N N 3, .mp 2]), .row true (.an L), .row true (.mp (arEnt L))]) :=
  Ev.weakA (.same (.same (.same (.nilZ .nil)))) (mkFI_ev L N k n [] hA hN hNl (by decide) hr he i hf)
theorem gBytes {S : List Nd} (h : Good S) (N i : Nat) (hN : S.length = N) (hNl : N ≤ 1000) (hi : i < N) : Ev Tryz.prog (.call 22 [.c (.ptr 0 0), .c (.val (.int .i64 (i : Int)))] [.row false (.ac [.sl 1 0 N N 3, .mp 2]), .row false (.an S), .row false (.mp (arEnt S))]) (.val (.tup [.c (.bs (bt noX S i).1), .c (.val (.int .i64 ((0 : Nat) : Int)))]) [.row false (.ac [.sl 1 0 N N 3, .mp 2]), .row false (.an S), .row false (.mp (arEnt S))]) := by
  have := rlBytes_ev noX S (arEnt S) N i hN (by omega) hi h.ok (fun D k hk _ _ hh => absurd hh (h.hard (by have := (beneath_lt S i _ hk).2; omega)))
  rw [h.bytes (by omega)] at this
  exact this
set_option maxRecDepth 100000 in
set_option maxHeartbeats 8000000 in
theorem rAlike_ev (n m : Nat) (hn : n ≤ 9223372036854775807) (hm : m ≤ 9223372036854775807) (w : List Int) (c q : Nat) (hc : w.length = c) (hc10 : c ≤ 10) (hw : ∀ x ∈ w, -9223372036854775808 ≤ x ∧ x ≤ 9223372036854775807) : Ev Tryz.prog (.call 4 [.c (.val (.int .i64 (n : Int))), .c (.val (.int .i64 (m : Int))), .c (.sl 0 0 c q 1)] [.row false (.ai w)]) (.val (.c (.val (.bool true))) [.row false (.ai w)]) := by
  have hW := wakes_ev
  refine c_call Tryz.func4 rfl Tryz.ntmps4 rfl LEN_ ?_
  refine S_ ?_
  refine c_region ?_
  refine s_val (v_assignC rfl) rfl ?_
  refine s_nil ?_
  refine S_ ?_
  refine c_region ?_
  first
    | refine s_val (v_moveC rfl) rfl ?_
    | refine s_val (v_moveA rfl) rfl ?_
    | refine s_val (v_moveT rfl) rfl ?_
  first
    | refine s_val (v_lssN (b := 0) rfl rfl) rfl ?_
    | refine s_val (v_lssI rfl rfl) rfl ?_
  first
    | refine s_val (v_moveC rfl) rfl ?_
    | refine s_val (v_moveA rfl) rfl ?_
    | refine s_val (v_moveT rfl) rfl ?_
  first
    | refine s_go GOG_ ?_
      first
        | refine s_val (v_moveC rfl) rfl ?_
        | refine s_val (v_moveA rfl) rfl ?_
        | refine s_val (v_moveT rfl) rfl ?_
    | refine s_no GOG_ rfl ?_
  first
    | refine s_go GOG_ ?_
      first
        | refine s_val (v_lssN (b := 0) rfl rfl) rfl ?_
        | refine s_val (v_lssI rfl rfl) rfl ?_
    | refine s_no GOG_ rfl ?_
  first
    | refine s_val (v_pickT rfl PK_ rfl) rfl ?_
    | refine s_val (v_pickF rfl PK_ rfl) rfl ?_
    | refine s_val (v_pickOr rfl rfl rfl) rfl ?_
    | refine s_val (v_pickAnd rfl rfl rfl) rfl ?_
  first
    | refine s_val (v_moveC rfl) rfl ?_
    | refine s_val (v_moveA rfl) rfl ?_
    | refine s_val (v_moveT rfl) rfl ?_
  first
    | refine s_go GOG_ ?_
      first
        | refine s_val (v_moveC rfl) rfl ?_
        | refine s_val (v_moveA rfl) rfl ?_
        | refine s_val (v_moveT rfl) rfl ?_
    | refine s_no GOG_ rfl ?_
  first
    | refine s_go GOG_ ?_
      first
        | refine s_val (v_lenS rfl Tryz.underlying41) rfl ?_
        | refine s_val (v_lenN rfl Tryz.underlying41) rfl ?_
        | refine s_val (v_lenE rfl Tryz.underlying41) rfl ?_
        | refine s_val (v_lenB rfl Tryz.underlying41 rfl) rfl ?_
        | refine s_val (v_lenZ rfl Tryz.underlying41 rfl) rfl ?_
    | refine s_no GOG_ rfl ?_
  first
    | refine s_go GOG_ ?_
      first
        | refine s_val (v_gtrN (b := 10) rfl rfl) rfl ?_
        | refine s_val (v_gtrI rfl rfl) rfl ?_
    | refine s_no GOG_ rfl ?_
  first
    | refine s_val (v_pickT rfl PK_ rfl) rfl ?_
    | refine s_val (v_pickF rfl PK_ rfl) rfl ?_
    | refine s_val (v_pickOr rfl rfl rfl) rfl ?_
    | refine s_val (v_pickAnd rfl rfl rfl) rfl ?_
  refine s_nil ?_
  refine S_ ?_
  refine c_region ?_
  refine s_evN (e_callR (bs := []) (new_ev) ok_20 (by kernel_rfl) (by kernel_rfl) rfl VAL_) APP_ rfl ?_
  refine s_evN (e_callR (bs := []) (new_ev) ok_20 (by kernel_rfl) (by kernel_rfl) rfl VAL_) APP_ rfl ?_
  first
    | refine s_val (v_assignC rfl) rfl ?_
    | refine s_val (v_assignA rfl) rfl ?_
    | refine s_val (v_assignT rfl) rfl ?_
  first
    | refine s_val (v_assignC rfl) rfl ?_
    | refine s_val (v_assignA rfl) rfl ?_
    | refine s_val (v_assignT rfl) rfl ?_
  refine s_nil ?_
  refine S_ ?_
  refine c_region ?_
  first
    | refine s_val (v_moveC rfl) rfl ?_
    | refine s_val (v_moveA rfl) rfl ?_
    | refine s_val (v_moveT rfl) rfl ?_
  refine s_ev (o_eqlP und42 rfl rfl) rfl ?_
  first
    | refine s_val (v_moveC rfl) rfl ?_
    | refine s_val (v_moveA rfl) rfl ?_
    | refine s_val (v_moveT rfl) rfl ?_
  first
    | refine s_go GOG_ ?_
      first
        | refine s_val (v_moveC rfl) rfl ?_
        | refine s_val (v_moveA rfl) rfl ?_
        | refine s_val (v_moveT rfl) rfl ?_
    | refine s_no GOG_ rfl ?_
  first
    | refine s_go GOG_ ?_
      refine s_ev (o_eqlP und42 rfl rfl) rfl ?_
    | refine s_no GOG_ rfl ?_
  first
    | refine s_val (v_pickT rfl PK_ rfl) rfl ?_
    | refine s_val (v_pickF rfl PK_ rfl) rfl ?_
    | refine s_val (v_pickOr rfl rfl rfl) rfl ?_
    | refine s_val (v_pickAnd rfl rfl rfl) rfl ?_
  refine s_nil ?_
  refine S_ ?_
  refine c_region ?_
  refine s_val (v_assignC rfl) rfl ?_
  refine s_nil ?_
  refine S_ ?_
  refine c_while [0, 1, 2, 7, 8, 9] (fun (zz : Nat × List Nd × Nat) => ⟨151, keepT [0, 1, 2, 7, 8, 9] [.c (.val (.int .i64 (n : Int))), .c (.val (.int .i64 (m : Int))), .c (.sl 0 0 c q 1), .c (.ptr 1 0), .c (.ptr 2 0), .c (.val (.int .i64 (zz.1 : Int)))], [.row false (.ai w), .row true (.ac [.sl 3 0 0 0 3, .mp 4]), .row true (.ac [.sl 5 0 zz.2.2 zz.2.2 3, .mp 6]), .row true (.an []), .row true (.mp (arEnt [])), .row true (.an zz.2.1), .row true (.mp (arEnt zz.2.1))]⟩) (fun zz => c - zz.1) (fun zz => zz.1 ≤ c ∧ Good zz.2.1 ∧ zz.2.1.length = zz.2.2 ∧ zz.2.2 ≤ zz.1 ∧ ∀ i, i < zz.2.2 → (getn zz.2.1 i).k = 2) (0, [], 0) (by kernel_rfl) ⟨Nat.zero_le _, .nil, rfl, Nat.le_refl _, fun i h => by simp at h⟩ ?_
  rintro ⟨j, S, N⟩ ⟨hj, hG, hN, hNj, hK⟩
  dsimp only at hj hG hN hNj hK ⊢
  by_cases hlt : j < c
  · obtain ⟨u, hu, hu2⟩ : ∃ u : Nat, (if geti w j < 0 then 0 else geti w j) = (u : Int) ∧ u ≤ 9223372036854775807 := by
      have := hw (geti w j) (by simp [geti, show j < w.length by omega])
      exact ⟨(geti w j).toNat, by split <;> omega, by omega⟩
    cases hf : findN S ⟨2, (u : Int), []⟩ with
    | some i =>
      have hM := mkF0_ev S N 2 (u : Int) hG.ok hN (by omega) (by intro x hx; simp at hx; omega) (mkErr_word N u) i hf
      rw [← hu] at hM
      refine S_ ?_
      refine c_region ?_
      first
        | refine s_val (v_moveC rfl) rfl ?_
        | refine s_val (v_moveA rfl) rfl ?_
        | refine s_val (v_moveT rfl) rfl ?_
      first
        | refine s_val (v_moveC rfl) rfl ?_
        | refine s_val (v_moveA rfl) rfl ?_
        | refine s_val (v_moveT rfl) rfl ?_
      first
        | refine s_val (v_lenS rfl Tryz.underlying41) rfl ?_
        | refine s_val (v_lenN rfl Tryz.underlying41) rfl ?_
        | refine s_val (v_lenE rfl Tryz.underlying41) rfl ?_
        | refine s_val (v_lenB rfl Tryz.underlying41 rfl) rfl ?_
        | refine s_val (v_lenZ rfl Tryz.underlying41 rfl) rfl ?_
      first
        | refine s_val (v_lssN rfl rfl) rfl ?_
        | refine s_val (v_lssI rfl rfl) rfl ?_
      refine s_nil ?_
      refine S_ ?_
      refine c_region ?_
      first
        | refine s_val (v_moveC rfl) rfl ?_
        | refine s_val (v_moveA rfl) rfl ?_
        | refine s_val (v_moveT rfl) rfl ?_
      first
        | refine s_val (v_moveC rfl) rfl ?_
        | refine s_val (v_moveA rfl) rfl ?_
        | refine s_val (v_moveT rfl) rfl ?_
      first
        | refine s_val (v_moveC rfl) rfl ?_
        | refine s_val (v_moveA rfl) rfl ?_
        | refine s_val (v_moveT rfl) rfl ?_
      first
        | refine s_val (v_idxS1 rfl rfl Tryz.underlying41 sz_3 (by omega)) rfl ?_
        | refine s_val (v_idxSo rfl rfl Tryz.underlying41 sz_3 (by omega)) rfl ?_
        | refine s_val (v_idxS rfl rfl Tryz.underlying41 sz_3 (by omega)) rfl ?_
        | refine s_val (v_idxZ rfl rfl Tryz.underlying41 sz_3 LT_) rfl ?_
      first
        | refine s_val (v_loadN rfl rfl row_3 LT_) rfl ?_
        | refine s_val (v_loadI rfl rfl row_3 LT_) rfl ?_
        | refine s_val (v_loadZ rfl row_3 LT_) rfl ?_
        | refine s_val (v_ndK rfl rfl rfl row_3 LT_) rfl ?_
        | refine s_val (v_load rfl rfl row_3 LT_ rfl) rfl ?_
      refine s_val (v_maxI rfl rfl) rfl ?_
      refine s_ev (e_callK (bs := [2,5,6]) (hM) ok_21 (by kernel_rfl) rfl rfl VAL_ APP_) rfl ?_
      refine s_nil ?_
      refine S_ ?_
      refine c_region ?_
      first
        | refine s_val (v_moveC rfl) rfl ?_
        | refine s_val (v_moveA rfl) rfl ?_
        | refine s_val (v_moveT rfl) rfl ?_
      first
        | refine s_val (v_addN (b := 1) rfl rfl (by omega)) rfl ?_
        | refine s_val (v_addI rfl rfl (by omega)) rfl ?_
      first
        | refine s_val (v_assignC rfl) rfl ?_
        | refine s_val (v_assignA rfl) rfl ?_
        | refine s_val (v_assignT rfl) rfl ?_
      refine s_nil ?_
      exact ⟨(j + 1, S, N), by kernel_rfl, by show c - (j + 1) < c - j; omega, hlt, hG, hN, by show N ≤ j + 1; omega, hK⟩
    | none =>
      have hM := mkN0_ev S N 2 (u : Int) hG.ok hN (by omega) (by intro x hx; simp at hx; omega) (mkErr_word N u) hf
      have hG2 := hG.word u hu2 (mkErr_word _ u) hf
      have hK2 : ∀ i, i < N + 1 → (getn (S ++ [⟨2, (u : Int), []⟩]) i).k = 2 := fun i hi => by
        by_cases e : i < N
        · rw [getnA (by omega)]; exact hK i e
        · obtain rfl : i = S.length := by omega
          rw [getn_last]
      rw [← hu] at hM
      refine S_ ?_
      refine c_region ?_
      first
        | refine s_val (v_moveC rfl) rfl ?_
        | refine s_val (v_moveA rfl) rfl ?_
        | refine s_val (v_moveT rfl) rfl ?_
      first
        | refine s_val (v_moveC rfl) rfl ?_
        | refine s_val (v_moveA rfl) rfl ?_
        | refine s_val (v_moveT rfl) rfl ?_
      first
        | refine s_val (v_lenS rfl Tryz.underlying41) rfl ?_
        | refine s_val (v_lenN rfl Tryz.underlying41) rfl ?_
        | refine s_val (v_lenE rfl Tryz.underlying41) rfl ?_
        | refine s_val (v_lenB rfl Tryz.underlying41 rfl) rfl ?_
        | refine s_val (v_lenZ rfl Tryz.underlying41 rfl) rfl ?_
      first
        | refine s_val (v_lssN rfl rfl) rfl ?_
        | refine s_val (v_lssI rfl rfl) rfl ?_
      refine s_nil ?_
      refine S_ ?_
      refine c_region ?_
      first
        | refine s_val (v_moveC rfl) rfl ?_
        | refine s_val (v_moveA rfl) rfl ?_
        | refine s_val (v_moveT rfl) rfl ?_
      first
        | refine s_val (v_moveC rfl) rfl ?_
        | refine s_val (v_moveA rfl) rfl ?_
        | refine s_val (v_moveT rfl) rfl ?_
      first
        | refine s_val (v_moveC rfl) rfl ?_
        | refine s_val (v_moveA rfl) rfl ?_
        | refine s_val (v_moveT rfl) rfl ?_
      first
        | refine s_val (v_idxS1 rfl rfl Tryz.underlying41 sz_3 (by omega)) rfl ?_
        | refine s_val (v_idxSo rfl rfl Tryz.underlying41 sz_3 (by omega)) rfl ?_
        | refine s_val (v_idxS rfl rfl Tryz.underlying41 sz_3 (by omega)) rfl ?_
        | refine s_val (v_idxZ rfl rfl Tryz.underlying41 sz_3 LT_) rfl ?_
      first
        | refine s_val (v_loadN rfl rfl row_3 LT_) rfl ?_
        | refine s_val (v_loadI rfl rfl row_3 LT_) rfl ?_
        | refine s_val (v_loadZ rfl row_3 LT_) rfl ?_
        | refine s_val (v_ndK rfl rfl rfl row_3 LT_) rfl ?_
        | refine s_val (v_load rfl rfl row_3 LT_ rfl) rfl ?_
      refine s_val (v_maxI rfl rfl) rfl ?_
      refine s_ev (e_callK (bs := [2,5,6]) (hM) ok_21 (by kernel_rfl) rfl rfl VAL_ APP_) rfl ?_
      refine s_nil ?_
      rw [hu]
      refine S_ ?_
      refine c_region ?_
      first
        | refine s_val (v_moveC rfl) rfl ?_
        | refine s_val (v_moveA rfl) rfl ?_
        | refine s_val (v_moveT rfl) rfl ?_
      first
        | refine s_val (v_addN (b := 1) rfl rfl (by omega)) rfl ?_
        | refine s_val (v_addI rfl rfl (by omega)) rfl ?_
      first
        | refine s_val (v_assignC rfl) rfl ?_
        | refine s_val (v_assignA rfl) rfl ?_
        | refine s_val (v_assignT rfl) rfl ?_
      refine s_nil ?_
      exact ⟨(j + 1, S ++ [⟨2, (u : Int), []⟩], N + 1), by kernel_rfl, by show c - (j + 1) < c - j; omega, hlt, hG2, by simp [hN], by show N + 1 ≤ j + 1; omega, hK2⟩
  · have hf1 : findN S ⟨1, (n : Int), []⟩ = none := find_kind fun i hi => by rw [hK i (by omega)]; decide
    have ma := mkN0_ev [] 0 1 (n : Int) .nil rfl (by decide) (by intro x hx; simp at hx; omega) (mkErr_atom 0 n) rfl
    have mb := mkN0_ev S N 1 (n : Int) hG.ok hN (by omega) (by intro x hx; simp at hx; omega) (mkErr_atom N n) hf1
    have gA := Good.nil.atom n hn (mkErr_atom _ n) rfl
    have gB := hG.atom n hn (mkErr_atom _ n) hf1
    have vA : (bt noX ([] ++ [⟨1, (n : Int), []⟩]) 0).1 = sha256 (kAtom ++ rlNum8 n) := by rw [show (0 : Nat) = ([] : List Nd).length from rfl, bt_atom]
    have vB : (bt noX (S ++ [⟨1, (n : Int), []⟩]) N).1 = sha256 (kAtom ++ rlNum8 n) := by rw [← hN, bt_atom]
    refine S_ ?_
    refine c_region ?_
    first
      | refine s_val (v_moveC rfl) rfl ?_
      | refine s_val (v_moveA rfl) rfl ?_
      | refine s_val (v_moveT rfl) rfl ?_
    first
      | refine s_val (v_moveC rfl) rfl ?_
      | refine s_val (v_moveA rfl) rfl ?_
      | refine s_val (v_moveT rfl) rfl ?_
    first
      | refine s_val (v_lenS rfl Tryz.underlying41) rfl ?_
      | refine s_val (v_lenN rfl Tryz.underlying41) rfl ?_
      | refine s_val (v_lenE rfl Tryz.underlying41) rfl ?_
      | refine s_val (v_lenB rfl Tryz.underlying41 rfl) rfl ?_
      | refine s_val (v_lenZ rfl Tryz.underlying41 rfl) rfl ?_
    first
      | refine s_val (v_lssN rfl rfl) rfl ?_
      | refine s_val (v_lssI rfl rfl) rfl ?_
    refine s_nil ?_
    refine S_ ?_
    refine c_region ?_
    first
      | refine s_val (v_moveC rfl) rfl ?_
      | refine s_val (v_moveA rfl) rfl ?_
      | refine s_val (v_moveT rfl) rfl ?_
    first
      | refine s_val (v_moveC rfl) rfl ?_
      | refine s_val (v_moveA rfl) rfl ?_
      | refine s_val (v_moveT rfl) rfl ?_
    refine s_ev (e_callK (bs := [1,3,4]) (ma) ok_21 (by kernel_rfl) rfl rfl VAL_ APP_) rfl ?_
    first
      | refine s_val (v_moveC rfl) rfl ?_
      | refine s_val (v_moveA rfl) rfl ?_
      | refine s_val (v_moveT rfl) rfl ?_
    refine s_val (v_extract rfl rfl) rfl ?_
    refine s_val (v_extract rfl rfl) rfl ?_
    first
      | refine s_val (v_assignC rfl) rfl ?_
      | refine s_val (v_assignA rfl) rfl ?_
      | refine s_val (v_assignT rfl) rfl ?_
    first
      | refine s_val (v_assignC rfl) rfl ?_
      | refine s_val (v_assignA rfl) rfl ?_
      | refine s_val (v_assignT rfl) rfl ?_
    refine s_nil ?_
    refine S_ ?_
    refine c_region ?_
    first
      | refine s_val (v_moveC rfl) rfl ?_
      | refine s_val (v_moveA rfl) rfl ?_
      | refine s_val (v_moveT rfl) rfl ?_
    first
      | refine s_val (v_moveC rfl) rfl ?_
      | refine s_val (v_moveA rfl) rfl ?_
      | refine s_val (v_moveT rfl) rfl ?_
    refine s_ev (e_callK (bs := [2,5,6]) (mb) ok_21 (by kernel_rfl) rfl rfl VAL_ APP_) rfl ?_
    first
      | refine s_val (v_moveC rfl) rfl ?_
      | refine s_val (v_moveA rfl) rfl ?_
      | refine s_val (v_moveT rfl) rfl ?_
    refine s_val (v_extract rfl rfl) rfl ?_
    refine s_val (v_extract rfl rfl) rfl ?_
    first
      | refine s_val (v_assignC rfl) rfl ?_
      | refine s_val (v_assignA rfl) rfl ?_
      | refine s_val (v_assignT rfl) rfl ?_
    first
      | refine s_val (v_assignC rfl) rfl ?_
      | refine s_val (v_assignA rfl) rfl ?_
      | refine s_val (v_assignT rfl) rfl ?_
    refine s_nil ?_
    refine S_ ?_
    refine c_region ?_
    first
      | refine s_val (v_moveC rfl) rfl ?_
      | refine s_val (v_moveA rfl) rfl ?_
      | refine s_val (v_moveT rfl) rfl ?_
    first
      | refine s_val (v_neqN (b := 0) rfl rfl) rfl ?_
      | refine s_val (v_neqD rfl rfl) rfl ?_
    first
      | refine s_val (v_moveC rfl) rfl ?_
      | refine s_val (v_moveA rfl) rfl ?_
      | refine s_val (v_moveT rfl) rfl ?_
    first
      | refine s_go GOG_ ?_
        first
          | refine s_val (v_moveC rfl) rfl ?_
          | refine s_val (v_moveA rfl) rfl ?_
          | refine s_val (v_moveT rfl) rfl ?_
      | refine s_no GOG_ rfl ?_
    first
      | refine s_go GOG_ ?_
        first
          | refine s_val (v_neqN (b := 0) rfl rfl) rfl ?_
          | refine s_val (v_neqD rfl rfl) rfl ?_
      | refine s_no GOG_ rfl ?_
    first
      | refine s_val (v_pickT rfl PK_ rfl) rfl ?_
      | refine s_val (v_pickF rfl PK_ rfl) rfl ?_
      | refine s_val (v_pickOr rfl rfl rfl) rfl ?_
      | refine s_val (v_pickAnd rfl rfl rfl) rfl ?_
    refine s_nil ?_
    refine S_ ?_
    refine c_region ?_
    refine s_val (v_assignC rfl) rfl ?_
    refine s_nil ?_
    refine S_ ?_
    refine c_while [1, 7, 8, 10, 12, 14] (fun (zz : Nat × (List Nd × Nat) × (List Nd × Nat)) => ⟨151, keepT [1, 7, 8, 10, 12, 14] [.c (.val (.int .i64 (m : Int))), .c (.ptr 1 0), .c (.ptr 2 0), .c (.val (.int .i64 (zz.2.1.2 : Int))), .c (.val (.int .i64 (zz.2.2.2 : Int))), .c (.val (.int .i64 (zz.1 : Int)))], [.row false (.ai w), .row true (.ac [.sl 3 0 (zz.2.1.2 + 1) (zz.2.1.2 + 1) 3, .mp 4]), .row true (.ac [.sl 5 0 (zz.2.2.2 + 1) (zz.2.2.2 + 1) 3, .mp 6]), .row true (.an zz.2.1.1), .row true (.mp (arEnt zz.2.1.1)), .row true (.an zz.2.2.1), .row true (.mp (arEnt zz.2.2.1))]⟩) (fun zz => 4 - zz.1) (fun zz => zz.1 ≤ 4 ∧ (Good zz.2.1.1 ∧ zz.2.1.1.length = zz.2.1.2 + 1 ∧ zz.2.1.2 ≤ 2 * zz.1) ∧ (Good zz.2.2.1 ∧ zz.2.2.1.length = zz.2.2.2 + 1 ∧ zz.2.2.2 ≤ 10 + 2 * zz.1) ∧ (bt noX zz.2.1.1 zz.2.1.2).1 = (bt noX zz.2.2.1 zz.2.2.2).1) (0, ([] ++ [⟨1, (n : Int), []⟩], 0), (S ++ [⟨1, (n : Int), []⟩], N)) (by kernel_rfl) ⟨Nat.zero_le _, ⟨gA, rfl, Nat.le_refl _⟩, ⟨gB, by simp [hN], by show N ≤ 10 + 0; omega⟩, by dsimp only; rw [vA, vB]⟩ ?_
    clear ma mb gA gB vA vB hf1 hK hNj hN hG hlt hj
    rintro ⟨j, ⟨A, x⟩, ⟨B, y⟩⟩ ⟨hj, ⟨gA, lA, xA⟩, ⟨gB, lB, xB⟩, hv⟩
    dsimp only at hj gA lA xA gB lB xB hv ⊢
    by_cases hlt : j < 4
    · have fA : findN A ⟨4, (m : Int), [(x : Int)]⟩ = none := find_last gA.ok (x := x) (by omega) (by simp)
      have fB : findN B ⟨4, (m : Int), [(y : Int)]⟩ = none := find_last gB.ok (x := y) (by omega) (by simp)
      have mA := mkNI_ev A (x + 1) 4 (m : Int) [(x : Int)] gA.ok lA (by omega) (by simp) (by intro z hz; simp at hz; omega) (mkErr_kdf _ m x (by omega)) fA
      have mB := mkNI_ev B (y + 1) 4 (m : Int) [(y : Int)] gB.ok lB (by omega) (by simp) (by intro z hz; simp at hz; omega) (mkErr_kdf _ m y (by omega)) fB
      have gA2 := gA.kdf m x hm (by omega) (mkErr_kdf _ m x (by omega)) fA
      have gB2 := gB.kdf m y hm (by omega) (mkErr_kdf _ m y (by omega)) fB
      by_cases hodd : j % 2 = 1
      · have lA2 : (A ++ [(⟨4, (m : Int), [(x : Int)]⟩ : Nd)]).length = x + 1 + 1 := by simp [lA]
        have lB2 : (B ++ [(⟨4, (m : Int), [(y : Int)]⟩ : Nd)]).length = y + 1 + 1 := by simp [lB]
        have vA : (bt noX (A ++ [⟨4, (m : Int), [(x : Int)]⟩]) x).1 = (bt noX A x).1 := by rw [bt_appI gA.ok (by omega)]
        have vB : (bt noX (B ++ [⟨4, (m : Int), [(y : Int)]⟩]) y).1 = (bt noX B y).1 := by rw [bt_appI gB.ok (by omega)]
        generalize hA2 : A ++ [(⟨4, (m : Int), [(x : Int)]⟩ : Nd)] = A2 at *
        generalize hB2 : B ++ [(⟨4, (m : Int), [(y : Int)]⟩ : Nd)] = B2 at *
        have fA2 : findN A2 ⟨3, 0, [(x : Int), (x : Int)]⟩ = none := by
          cases hf : findN A2 ⟨3, 0, [(x : Int), (x : Int)]⟩ with
          | none => rfl
          | some i =>
            obtain ⟨h1, h2⟩ := findN_some hf
            have h3 := (gA2.ok.nd h1).args (x : Int) (by rw [h2]; simp)
            obtain rfl : i = A.length := by omega
            rw [← hA2, getn_last] at h2
            have := congrArg Nd.k h2
            exact absurd this (by show ¬ (4 : Int) = 3; decide)
        have fB2 : findN B2 ⟨3, 0, [(y : Int), (y : Int)]⟩ = none := by
          cases hf : findN B2 ⟨3, 0, [(y : Int), (y : Int)]⟩ with
          | none => rfl
          | some i =>
            obtain ⟨h1, h2⟩ := findN_some hf
            have h3 := (gB2.ok.nd h1).args (y : Int) (by rw [h2]; simp)
            obtain rfl : i = B.length := by omega
            rw [← hB2, getn_last] at h2
            have := congrArg Nd.k h2
            exact absurd this (by show ¬ (4 : Int) = 3; decide)
        have nA := mkNI_ev A2 (x + 1 + 1) 3 0 [(x : Int), (x : Int)] gA2.ok lA2 (by omega) (by simp) (by intro z hz; simp at hz; omega) (mkErr_hash _ x (by omega)) fA2
        have nB := mkNI_ev B2 (y + 1 + 1) 3 0 [(y : Int), (y : Int)] gB2.ok lB2 (by omega) (by simp) (by intro z hz; simp at hz; omega) (mkErr_hash _ y (by omega)) fB2
        have gA3 := gA2.hash x (by omega) (mkErr_hash _ x (by omega)) fA2
        have gB3 := gB2.hash y (by omega) (mkErr_hash _ y (by omega)) fB2
        have hv3 : (bt noX (A2 ++ [⟨3, 0, [(x : Int), (x : Int)]⟩]) (x + 2)).1 = (bt noX (B2 ++ [⟨3, 0, [(y : Int), (y : Int)]⟩]) (y + 2)).1 := by
          rw [show x + 2 = A2.length by omega, show y + 2 = B2.length by omega, bt_hash gA2 x (by omega), bt_hash gB2 y (by omega), vA, vB, hv]
        refine S_ ?_
        refine c_region ?_
        first
          | refine s_val (v_moveC rfl) rfl ?_
          | refine s_val (v_moveA rfl) rfl ?_
          | refine s_val (v_moveT rfl) rfl ?_
        first
          | refine s_val (v_lssN (b := 4) rfl rfl) rfl ?_
          | refine s_val (v_lssI rfl rfl) rfl ?_
        refine s_nil ?_
        refine S_ ?_
        refine c_region ?_
        first
          | refine s_val (v_moveC rfl) rfl ?_
          | refine s_val (v_moveA rfl) rfl ?_
          | refine s_val (v_moveT rfl) rfl ?_
        first
          | refine s_val (v_moveC rfl) rfl ?_
          | refine s_val (v_moveA rfl) rfl ?_
          | refine s_val (v_moveT rfl) rfl ?_
        first
          | refine s_val (v_moveC rfl) rfl ?_
          | refine s_val (v_moveA rfl) rfl ?_
          | refine s_val (v_moveT rfl) rfl ?_
        refine s_ev (o_quietI (Ev.mem (m_bsI (l := [_]) Tryz.underlying41 el_3 rfl rfl (by decide) (by decide) LEN_)) LEN_ LQ_ rfl) rfl ?_
        refine s_ev (e_callK (bs := [1,3,4]) (mA) ok_21 (by kernel_rfl) rfl rfl VAL_ APP_) rfl ?_
        first
          | refine s_val (v_moveC rfl) rfl ?_
          | refine s_val (v_moveA rfl) rfl ?_
          | refine s_val (v_moveT rfl) rfl ?_
        refine s_val (v_extract rfl rfl) rfl ?_
        refine s_val (v_extract rfl rfl) rfl ?_
        first
          | refine s_val (v_assignC rfl) rfl ?_
          | refine s_val (v_assignA rfl) rfl ?_
          | refine s_val (v_assignT rfl) rfl ?_
        first
          | refine s_val (v_assignC rfl) rfl ?_
          | refine s_val (v_assignA rfl) rfl ?_
          | refine s_val (v_assignT rfl) rfl ?_
        refine s_nil ?_
        refine S_ ?_
        refine c_region ?_
        first
          | refine s_val (v_moveC rfl) rfl ?_
          | refine s_val (v_moveA rfl) rfl ?_
          | refine s_val (v_moveT rfl) rfl ?_
        first
          | refine s_val (v_moveC rfl) rfl ?_
          | refine s_val (v_moveA rfl) rfl ?_
          | refine s_val (v_moveT rfl) rfl ?_
        first
          | refine s_val (v_moveC rfl) rfl ?_
          | refine s_val (v_moveA rfl) rfl ?_
          | refine s_val (v_moveT rfl) rfl ?_
        refine s_ev (o_quietI (Ev.mem (m_bsI (l := [_]) Tryz.underlying41 el_3 rfl rfl (by decide) (by decide) LEN_)) LEN_ LQ_ rfl) rfl ?_
        refine s_ev (e_callK (bs := [2,5,6]) (mB) ok_21 (by kernel_rfl) rfl rfl VAL_ APP_) rfl ?_
        first
          | refine s_val (v_moveC rfl) rfl ?_
          | refine s_val (v_moveA rfl) rfl ?_
          | refine s_val (v_moveT rfl) rfl ?_
        refine s_val (v_extract rfl rfl) rfl ?_
        refine s_val (v_extract rfl rfl) rfl ?_
        first
          | refine s_val (v_assignC rfl) rfl ?_
          | refine s_val (v_assignA rfl) rfl ?_
          | refine s_val (v_assignT rfl) rfl ?_
        first
          | refine s_val (v_assignC rfl) rfl ?_
          | refine s_val (v_assignA rfl) rfl ?_
          | refine s_val (v_assignT rfl) rfl ?_
        refine s_nil ?_
        refine S_ ?_
        refine c_region ?_
        first
          | refine s_val (v_moveC rfl) rfl ?_
          | refine s_val (v_moveA rfl) rfl ?_
          | refine s_val (v_moveT rfl) rfl ?_
        refine s_val (v_remN (b := 2) rfl rfl (by omega) (by omega)) rfl ?_
        first
          | refine s_val (v_eqlN (b := 1) rfl rfl) rfl ?_
          | refine s_val (v_eqlD rfl rfl) rfl ?_
        refine s_nil ?_
        refine S_ ?_
        refine c_region ?_
        first
          | refine s_val (v_moveC rfl) rfl ?_
          | refine s_val (v_moveA rfl) rfl ?_
          | refine s_val (v_moveT rfl) rfl ?_
        first
          | refine s_val (v_moveC rfl) rfl ?_
          | refine s_val (v_moveA rfl) rfl ?_
          | refine s_val (v_moveT rfl) rfl ?_
        first
          | refine s_val (v_moveC rfl) rfl ?_
          | refine s_val (v_moveA rfl) rfl ?_
          | refine s_val (v_moveT rfl) rfl ?_
        refine s_ev (o_quietI (Ev.mem (m_bsI (l := [_, _]) Tryz.underlying41 el_3 rfl rfl (by decide) (by decide) LEN_)) LEN_ LQ_ rfl) rfl ?_
        refine s_ev (e_callK (bs := [1,7,4]) (nA) ok_21 (by kernel_rfl) rfl rfl VAL_ APP_) rfl ?_
        first
          | refine s_val (v_moveC rfl) rfl ?_
          | refine s_val (v_moveA rfl) rfl ?_
          | refine s_val (v_moveT rfl) rfl ?_
        refine s_val (v_extract rfl rfl) rfl ?_
        refine s_val (v_extract rfl rfl) rfl ?_
        first
          | refine s_val (v_assignC rfl) rfl ?_
          | refine s_val (v_assignA rfl) rfl ?_
          | refine s_val (v_assignT rfl) rfl ?_
        first
          | refine s_val (v_assignC rfl) rfl ?_
          | refine s_val (v_assignA rfl) rfl ?_
          | refine s_val (v_assignT rfl) rfl ?_
        refine s_nil ?_
        refine S_ ?_
        refine c_region ?_
        first
          | refine s_val (v_moveC rfl) rfl ?_
          | refine s_val (v_moveA rfl) rfl ?_
          | refine s_val (v_moveT rfl) rfl ?_
        first
          | refine s_val (v_moveC rfl) rfl ?_
          | refine s_val (v_moveA rfl) rfl ?_
          | refine s_val (v_moveT rfl) rfl ?_
        first
          | refine s_val (v_moveC rfl) rfl ?_
          | refine s_val (v_moveA rfl) rfl ?_
          | refine s_val (v_moveT rfl) rfl ?_
        refine s_ev (o_quietI (Ev.mem (m_bsI (l := [_, _]) Tryz.underlying41 el_3 rfl rfl (by decide) (by decide) LEN_)) LEN_ LQ_ rfl) rfl ?_
        refine s_ev (e_callK (bs := [2,8,6]) (nB) ok_21 (by kernel_rfl) rfl rfl VAL_ APP_) rfl ?_
        first
          | refine s_val (v_moveC rfl) rfl ?_
          | refine s_val (v_moveA rfl) rfl ?_
          | refine s_val (v_moveT rfl) rfl ?_
        refine s_val (v_extract rfl rfl) rfl ?_
        refine s_val (v_extract rfl rfl) rfl ?_
        first
          | refine s_val (v_assignC rfl) rfl ?_
          | refine s_val (v_assignA rfl) rfl ?_
          | refine s_val (v_assignT rfl) rfl ?_
        first
          | refine s_val (v_assignC rfl) rfl ?_
          | refine s_val (v_assignA rfl) rfl ?_
          | refine s_val (v_assignT rfl) rfl ?_
        refine s_nil ?_
        refine S_ ?_
        refine c_region ?_
        first
          | refine s_val (v_moveC rfl) rfl ?_
          | refine s_val (v_moveA rfl) rfl ?_
          | refine s_val (v_moveT rfl) rfl ?_
        first
          | refine s_val (v_neqN (b := 0) rfl rfl) rfl ?_
          | refine s_val (v_neqD rfl rfl) rfl ?_
        first
          | refine s_val (v_moveC rfl) rfl ?_
          | refine s_val (v_moveA rfl) rfl ?_
          | refine s_val (v_moveT rfl) rfl ?_
        first
          | refine s_go GOG_ ?_
            first
              | refine s_val (v_moveC rfl) rfl ?_
              | refine s_val (v_moveA rfl) rfl ?_
              | refine s_val (v_moveT rfl) rfl ?_
          | refine s_no GOG_ rfl ?_
        first
          | refine s_go GOG_ ?_
            first
              | refine s_val (v_neqN (b := 0) rfl rfl) rfl ?_
              | refine s_val (v_neqD rfl rfl) rfl ?_
          | refine s_no GOG_ rfl ?_
        first
          | refine s_val (v_pickT rfl PK_ rfl) rfl ?_
          | refine s_val (v_pickF rfl PK_ rfl) rfl ?_
          | refine s_val (v_pickOr rfl rfl rfl) rfl ?_
          | refine s_val (v_pickAnd rfl rfl rfl) rfl ?_
        refine s_nil ?_
        refine S_ ?_
        refine c_region ?_
        first
          | refine s_val (v_moveC rfl) rfl ?_
          | refine s_val (v_moveA rfl) rfl ?_
          | refine s_val (v_moveT rfl) rfl ?_
        first
          | refine s_val (v_moveC rfl) rfl ?_
          | refine s_val (v_moveA rfl) rfl ?_
          | refine s_val (v_moveT rfl) rfl ?_
        first
          | refine s_val (v_assignC rfl) rfl ?_
          | refine s_val (v_assignA rfl) rfl ?_
          | refine s_val (v_assignT rfl) rfl ?_
        first
          | refine s_val (v_assignC rfl) rfl ?_
          | refine s_val (v_assignA rfl) rfl ?_
          | refine s_val (v_assignT rfl) rfl ?_
        refine s_nil ?_
        refine S_ ?_
        refine c_region ?_
        first
          | refine s_val (v_moveC rfl) rfl ?_
          | refine s_val (v_moveA rfl) rfl ?_
          | refine s_val (v_moveT rfl) rfl ?_
        first
          | refine s_val (v_addN (b := 1) rfl rfl (by omega)) rfl ?_
          | refine s_val (v_addI rfl rfl (by omega)) rfl ?_
        first
          | refine s_val (v_assignC rfl) rfl ?_
          | refine s_val (v_assignA rfl) rfl ?_
          | refine s_val (v_assignT rfl) rfl ?_
        refine s_nil ?_
        refine ⟨(j + 1, (A2 ++ [⟨3, 0, [(x : Int), (x : Int)]⟩], x + 2), (B2 ++ [⟨3, 0, [(y : Int), (y : Int)]⟩], y + 2)), by kernel_rfl, by show 4 - (j + 1) < 4 - j; omega, hlt, ⟨gA3, by simp [lA2], by show x + 2 ≤ 2 * (j + 1); omega⟩, ⟨gB3, by simp [lB2], by show y + 2 ≤ 10 + 2 * (j + 1); omega⟩, hv3⟩
      · have hv2 : (bt noX (A ++ [⟨4, (m : Int), [(x : Int)]⟩]) (x + 1)).1 = (bt noX (B ++ [⟨4, (m : Int), [(y : Int)]⟩]) (y + 1)).1 := by
          rw [← lA, ← lB, bt_kdf gA m x (by omega), bt_kdf gB m y (by omega), hv]
        refine S_ ?_
        refine c_region ?_
        first
          | refine s_val (v_moveC rfl) rfl ?_
          | refine s_val (v_moveA rfl) rfl ?_
          | refine s_val (v_moveT rfl) rfl ?_
        first
          | refine s_val (v_lssN (b := 4) rfl rfl) rfl ?_
          | refine s_val (v_lssI rfl rfl) rfl ?_
        refine s_nil ?_
        refine S_ ?_
        refine c_region ?_
        first
          | refine s_val (v_moveC rfl) rfl ?_
          | refine s_val (v_moveA rfl) rfl ?_
          | refine s_val (v_moveT rfl) rfl ?_
        first
          | refine s_val (v_moveC rfl) rfl ?_
          | refine s_val (v_moveA rfl) rfl ?_
          | refine s_val (v_moveT rfl) rfl ?_
        first
          | refine s_val (v_moveC rfl) rfl ?_
          | refine s_val (v_moveA rfl) rfl ?_
          | refine s_val (v_moveT rfl) rfl ?_
        refine s_ev (o_quietI (Ev.mem (m_bsI (l := [_]) Tryz.underlying41 el_3 rfl rfl (by decide) (by decide) LEN_)) LEN_ LQ_ rfl) rfl ?_
        refine s_ev (e_callK (bs := [1,3,4]) (mA) ok_21 (by kernel_rfl) rfl rfl VAL_ APP_) rfl ?_
        first
          | refine s_val (v_moveC rfl) rfl ?_
          | refine s_val (v_moveA rfl) rfl ?_
          | refine s_val (v_moveT rfl) rfl ?_
        refine s_val (v_extract rfl rfl) rfl ?_
        refine s_val (v_extract rfl rfl) rfl ?_
        first
          | refine s_val (v_assignC rfl) rfl ?_
          | refine s_val (v_assignA rfl) rfl ?_
          | refine s_val (v_assignT rfl) rfl ?_
        first
          | refine s_val (v_assignC rfl) rfl ?_
          | refine s_val (v_assignA rfl) rfl ?_
          | refine s_val (v_assignT rfl) rfl ?_
        refine s_nil ?_
        refine S_ ?_
        refine c_region ?_
        first
          | refine s_val (v_moveC rfl) rfl ?_
          | refine s_val (v_moveA rfl) rfl ?_
          | refine s_val (v_moveT rfl) rfl ?_
        first
          | refine s_val (v_moveC rfl) rfl ?_
          | refine s_val (v_moveA rfl) rfl ?_
          | refine s_val (v_moveT rfl) rfl ?_
        first
          | refine s_val (v_moveC rfl) rfl ?_
          | refine s_val (v_moveA rfl) rfl ?_
          | refine s_val (v_moveT rfl) rfl ?_
        refine s_ev (o_quietI (Ev.mem (m_bsI (l := [_]) Tryz.underlying41 el_3 rfl rfl (by decide) (by decide) LEN_)) LEN_ LQ_ rfl) rfl ?_
        refine s_ev (e_callK (bs := [2,5,6]) (mB) ok_21 (by kernel_rfl) rfl rfl VAL_ APP_) rfl ?_
        first
          | refine s_val (v_moveC rfl) rfl ?_
          | refine s_val (v_moveA rfl) rfl ?_
          | refine s_val (v_moveT rfl) rfl ?_
        refine s_val (v_extract rfl rfl) rfl ?_
        refine s_val (v_extract rfl rfl) rfl ?_
        first
          | refine s_val (v_assignC rfl) rfl ?_
          | refine s_val (v_assignA rfl) rfl ?_
          | refine s_val (v_assignT rfl) rfl ?_
        first
          | refine s_val (v_assignC rfl) rfl ?_
          | refine s_val (v_assignA rfl) rfl ?_
          | refine s_val (v_assignT rfl) rfl ?_
        refine s_nil ?_
        refine S_ ?_
        refine c_region ?_
        first
          | refine s_val (v_moveC rfl) rfl ?_
          | refine s_val (v_moveA rfl) rfl ?_
          | refine s_val (v_moveT rfl) rfl ?_
        refine s_val (v_remN (b := 2) rfl rfl (by omega) (by omega)) rfl ?_
        first
          | refine s_val (v_eqlN (b := 1) rfl rfl) rfl ?_
          | refine s_val (v_eqlD rfl rfl) rfl ?_
        refine s_nil ?_
        refine S_ ?_
        refine c_region ?_
        first
          | refine s_val (v_moveC rfl) rfl ?_
          | refine s_val (v_moveA rfl) rfl ?_
          | refine s_val (v_moveT rfl) rfl ?_
        first
          | refine s_val (v_neqN (b := 0) rfl rfl) rfl ?_
          | refine s_val (v_neqD rfl rfl) rfl ?_
        first
          | refine s_val (v_moveC rfl) rfl ?_
          | refine s_val (v_moveA rfl) rfl ?_
          | refine s_val (v_moveT rfl) rfl ?_
        first
          | refine s_go GOG_ ?_
            first
              | refine s_val (v_moveC rfl) rfl ?_
              | refine s_val (v_moveA rfl) rfl ?_
              | refine s_val (v_moveT rfl) rfl ?_
          | refine s_no GOG_ rfl ?_
        first
          | refine s_go GOG_ ?_
            first
              | refine s_val (v_neqN (b := 0) rfl rfl) rfl ?_
              | refine s_val (v_neqD rfl rfl) rfl ?_
          | refine s_no GOG_ rfl ?_
        first
          | refine s_val (v_pickT rfl PK_ rfl) rfl ?_
          | refine s_val (v_pickF rfl PK_ rfl) rfl ?_
          | refine s_val (v_pickOr rfl rfl rfl) rfl ?_
          | refine s_val (v_pickAnd rfl rfl rfl) rfl ?_
        refine s_nil ?_
        refine S_ ?_
        refine c_region ?_
        first
          | refine s_val (v_moveC rfl) rfl ?_
          | refine s_val (v_moveA rfl) rfl ?_
          | refine s_val (v_moveT rfl) rfl ?_
        first
          | refine s_val (v_moveC rfl) rfl ?_
          | refine s_val (v_moveA rfl) rfl ?_
          | refine s_val (v_moveT rfl) rfl ?_
        first
          | refine s_val (v_assignC rfl) rfl ?_
          | refine s_val (v_assignA rfl) rfl ?_
          | refine s_val (v_assignT rfl) rfl ?_
        first
          | refine s_val (v_assignC rfl) rfl ?_
          | refine s_val (v_assignA rfl) rfl ?_
          | refine s_val (v_assignT rfl) rfl ?_
        refine s_nil ?_
        refine S_ ?_
        refine c_region ?_
        first
          | refine s_val (v_moveC rfl) rfl ?_
          | refine s_val (v_moveA rfl) rfl ?_
          | refine s_val (v_moveT rfl) rfl ?_
        first
          | refine s_val (v_addN (b := 1) rfl rfl (by omega)) rfl ?_
          | refine s_val (v_addI rfl rfl (by omega)) rfl ?_
        first
          | refine s_val (v_assignC rfl) rfl ?_
          | refine s_val (v_assignA rfl) rfl ?_
          | refine s_val (v_assignT rfl) rfl ?_
        refine s_nil ?_
        refine ⟨(j + 1, (A ++ [⟨4, (m : Int), [(x : Int)]⟩], x + 1), (B ++ [⟨4, (m : Int), [(y : Int)]⟩], y + 1)), by kernel_rfl, by show 4 - (j + 1) < 4 - j; omega, hlt, ⟨gA2, by simp [lA], by show x + 1 ≤ 2 * (j + 1); omega⟩, ⟨gB2, by simp [lB], by show y + 1 ≤ 10 + 2 * (j + 1); omega⟩, hv2⟩
    · have bA := gBytes gA (x + 1) x lA (by omega) (by omega)
      have bB := gBytes gB (y + 1) y lB (by omega) (by omega)
      have hl := gA.len x (by omega)
      rw [← hv] at bB
      generalize (bt noX A x).1 = v at *
      refine S_ ?_
      refine c_region ?_
      first
        | refine s_val (v_moveC rfl) rfl ?_
        | refine s_val (v_moveA rfl) rfl ?_
        | refine s_val (v_moveT rfl) rfl ?_
      first
        | refine s_val (v_lssN (b := 4) rfl rfl) rfl ?_
        | refine s_val (v_lssI rfl rfl) rfl ?_
      refine s_nil ?_
      refine S_ ?_
      refine c_region ?_
      first
        | refine s_val (v_moveC rfl) rfl ?_
        | refine s_val (v_moveA rfl) rfl ?_
        | refine s_val (v_moveT rfl) rfl ?_
      first
        | refine s_val (v_moveC rfl) rfl ?_
        | refine s_val (v_moveA rfl) rfl ?_
        | refine s_val (v_moveT rfl) rfl ?_
      refine s_evN (e_callR (bs := [1,3,4]) (bA) ok_22 (by kernel_rfl) (by kernel_rfl) rfl VAL_) APP_ rfl ?_
      first
        | refine s_val (v_moveC rfl) rfl ?_
        | refine s_val (v_moveA rfl) rfl ?_
        | refine s_val (v_moveT rfl) rfl ?_
      refine s_val (v_extract rfl rfl) rfl ?_
      refine s_val (v_extract rfl rfl) rfl ?_
      first
        | refine s_val (v_assignC rfl) rfl ?_
        | refine s_val (v_assignA rfl) rfl ?_
        | refine s_val (v_assignT rfl) rfl ?_
      first
        | refine s_val (v_assignC rfl) rfl ?_
        | refine s_val (v_assignA rfl) rfl ?_
        | refine s_val (v_assignT rfl) rfl ?_
      refine s_nil ?_
      refine S_ ?_
      refine c_region ?_
      first
        | refine s_val (v_moveC rfl) rfl ?_
        | refine s_val (v_moveA rfl) rfl ?_
        | refine s_val (v_moveT rfl) rfl ?_
      first
        | refine s_val (v_moveC rfl) rfl ?_
        | refine s_val (v_moveA rfl) rfl ?_
        | refine s_val (v_moveT rfl) rfl ?_
      refine s_evN (e_callR (bs := [2,5,6]) (bB) ok_22 (by kernel_rfl) (by kernel_rfl) rfl VAL_) APP_ rfl ?_
      first
        | refine s_val (v_moveC rfl) rfl ?_
        | refine s_val (v_moveA rfl) rfl ?_
        | refine s_val (v_moveT rfl) rfl ?_
      refine s_val (v_extract rfl rfl) rfl ?_
      refine s_val (v_extract rfl rfl) rfl ?_
      first
        | refine s_val (v_assignC rfl) rfl ?_
        | refine s_val (v_assignA rfl) rfl ?_
        | refine s_val (v_assignT rfl) rfl ?_
      first
        | refine s_val (v_assignC rfl) rfl ?_
        | refine s_val (v_assignA rfl) rfl ?_
        | refine s_val (v_assignT rfl) rfl ?_
      refine s_nil ?_
      refine S_ ?_
      refine c_region ?_
      first
        | refine s_val (v_moveC rfl) rfl ?_
        | refine s_val (v_moveA rfl) rfl ?_
        | refine s_val (v_moveT rfl) rfl ?_
      first
        | refine s_val (v_eqlN (b := 0) rfl rfl) rfl ?_
        | refine s_val (v_eqlD rfl rfl) rfl ?_
      first
        | refine s_val (v_moveC rfl) rfl ?_
        | refine s_val (v_moveA rfl) rfl ?_
        | refine s_val (v_moveT rfl) rfl ?_
      first
        | refine s_go GOG_ ?_
          first
            | refine s_val (v_moveC rfl) rfl ?_
            | refine s_val (v_moveA rfl) rfl ?_
            | refine s_val (v_moveT rfl) rfl ?_
        | refine s_no GOG_ rfl ?_
      first
        | refine s_go GOG_ ?_
          first
            | refine s_val (v_eqlN (b := 0) rfl rfl) rfl ?_
            | refine s_val (v_eqlD rfl rfl) rfl ?_
        | refine s_no GOG_ rfl ?_
      first
        | refine s_val (v_pickT rfl PK_ rfl) rfl ?_
        | refine s_val (v_pickF rfl PK_ rfl) rfl ?_
        | refine s_val (v_pickOr rfl rfl rfl) rfl ?_
        | refine s_val (v_pickAnd rfl rfl rfl) rfl ?_
      first
        | refine s_val (v_moveC rfl) rfl ?_
        | refine s_val (v_moveA rfl) rfl ?_
        | refine s_val (v_moveT rfl) rfl ?_
      first
        | refine s_go GOG_ ?_
          first
            | refine s_val (v_moveC rfl) rfl ?_
            | refine s_val (v_moveA rfl) rfl ?_
            | refine s_val (v_moveT rfl) rfl ?_
        | refine s_no GOG_ rfl ?_
      first
        | refine s_go GOG_ ?_
          refine s_ev (o_strB Tryz.underlying23 Tryz.underlying5 Tryz.underlying9 rfl) rfl ?_
        | refine s_no GOG_ rfl ?_
      first
        | refine s_go GOG_ ?_
          first
            | refine s_val (v_moveC rfl) rfl ?_
            | refine s_val (v_moveA rfl) rfl ?_
            | refine s_val (v_moveT rfl) rfl ?_
        | refine s_no GOG_ rfl ?_
      first
        | refine s_go GOG_ ?_
          refine s_ev (o_strB Tryz.underlying23 Tryz.underlying5 Tryz.underlying9 rfl) rfl ?_
        | refine s_no GOG_ rfl ?_
      first
        | refine s_go GOG_ ?_
          refine s_ev (o_eqlS rfl rfl) rfl ?_
        | refine s_no GOG_ rfl ?_
      first
        | refine s_val (v_pickT rfl PK_ rfl) rfl ?_
        | refine s_val (v_pickF rfl PK_ rfl) rfl ?_
        | refine s_val (v_pickOr rfl rfl rfl) rfl ?_
        | refine s_val (v_pickAnd rfl rfl rfl) rfl ?_
      first
        | refine s_val (v_moveC rfl) rfl ?_
        | refine s_val (v_moveA rfl) rfl ?_
        | refine s_val (v_moveT rfl) rfl ?_
      first
        | refine s_go GOG_ ?_
          first
            | refine s_val (v_moveC rfl) rfl ?_
            | refine s_val (v_moveA rfl) rfl ?_
            | refine s_val (v_moveT rfl) rfl ?_
        | refine s_no GOG_ rfl ?_
      first
        | refine s_go GOG_ ?_
          first
            | refine s_val (v_lenS rfl Tryz.underlying23) rfl ?_
            | refine s_val (v_lenN rfl Tryz.underlying23) rfl ?_
            | refine s_val (v_lenE rfl Tryz.underlying23) rfl ?_
            | refine s_val (v_lenB rfl Tryz.underlying23 rfl) rfl ?_
            | refine s_val (v_lenZ rfl Tryz.underlying23 rfl) rfl ?_
        | refine s_no GOG_ rfl ?_
      first
        | refine s_go GOG_ ?_
          first
            | refine s_val (v_eqlN (b := 32) rfl rfl) rfl ?_
            | refine s_val (v_eqlD rfl rfl) rfl ?_
        | refine s_no GOG_ rfl ?_
      first
        | refine s_val (v_pickT rfl PK_ rfl) rfl ?_
        | refine s_val (v_pickF rfl PK_ rfl) rfl ?_
        | refine s_val (v_pickOr rfl rfl rfl) rfl ?_
        | refine s_val (v_pickAnd rfl rfl rfl) rfl ?_
      first
        | refine s_val (v_moveC rfl) rfl ?_
        | refine s_val (v_moveA rfl) rfl ?_
        | refine s_val (v_moveT rfl) rfl ?_
      first
        | refine s_go GOG_ ?_
          refine s_evN (e_callR (bs := []) (hW) ok_19 (by kernel_rfl) (by kernel_rfl) rfl VAL_) APP_ rfl ?_
        | refine s_no GOG_ rfl ?_
      first
        | refine s_val (v_pickT rfl PK_ rfl) rfl ?_
        | refine s_val (v_pickF rfl PK_ rfl) rfl ?_
        | refine s_val (v_pickOr rfl rfl rfl) rfl ?_
        | refine s_val (v_pickAnd rfl rfl rfl) rfl ?_
      first
        | refine s_val (v_assignC rfl) rfl ?_
        | refine s_val (v_assignA rfl) rfl ?_
        | refine s_val (v_assignT rfl) rfl ?_
      refine s_nil ?_
      refine S_ ?_
      exact k_1 (by first | exact r_tmpC rfl | exact r_tmpA rfl) (by first | kernel_rfl | rfl)
set_option maxRecDepth 100000 in
set_option maxHeartbeats 2000000 in
theorem realAlike_law (n : Int) (hn : -9223372036854775808 ≤ n ∧ n ≤ 9223372036854775807) (m : Int) (hm : -9223372036854775808 ≤ m ∧ m ≤ 9223372036854775807) (w : List Int) (hl : w.length ≤ 9223372036854775807) (hw : ∀ x ∈ w, -9223372036854775808 ≤ x ∧ x ≤ 9223372036854775807) : Ev Tryz.prog (.call 4 [.c (.val (.int .i64 n)), .c (.val (.int .i64 m)), .c (.sl 0 0 w.length w.length 1)] [.row false (.ai w)]) (.val (.c (.val (.bool true))) [.row false (.ai w)]) := by
  by_cases h0 : n < 0
  · refine c_call Tryz.func4 rfl Tryz.ntmps4 rfl LEN_ ?_
    refine S_ ?_
    refine c_region ?_
    refine s_val (v_assignC rfl) rfl ?_
    refine s_nil ?_
    refine S_ ?_
    refine c_region ?_
    first
      | refine s_val (v_moveC rfl) rfl ?_
      | refine s_val (v_moveA rfl) rfl ?_
      | refine s_val (v_moveT rfl) rfl ?_
    first
      | refine s_val (v_lssN (b := 0) rfl rfl) rfl ?_
      | refine s_val (v_lssI rfl rfl) rfl ?_
    first
      | refine s_val (v_moveC rfl) rfl ?_
      | refine s_val (v_moveA rfl) rfl ?_
      | refine s_val (v_moveT rfl) rfl ?_
    first
      | refine s_go GOG_ ?_
        first
          | refine s_val (v_moveC rfl) rfl ?_
          | refine s_val (v_moveA rfl) rfl ?_
          | refine s_val (v_moveT rfl) rfl ?_
      | refine s_no GOG_ rfl ?_
    first
      | refine s_go GOG_ ?_
        first
          | refine s_val (v_lssN (b := 0) rfl rfl) rfl ?_
          | refine s_val (v_lssI rfl rfl) rfl ?_
      | refine s_no GOG_ rfl ?_
    first
      | refine s_val (v_pickT rfl PK_ rfl) rfl ?_
      | refine s_val (v_pickF rfl PK_ rfl) rfl ?_
      | refine s_val (v_pickOr rfl rfl rfl) rfl ?_
      | refine s_val (v_pickAnd rfl rfl rfl) rfl ?_
    first
      | refine s_val (v_moveC rfl) rfl ?_
      | refine s_val (v_moveA rfl) rfl ?_
      | refine s_val (v_moveT rfl) rfl ?_
    first
      | refine s_go GOG_ ?_
        first
          | refine s_val (v_moveC rfl) rfl ?_
          | refine s_val (v_moveA rfl) rfl ?_
          | refine s_val (v_moveT rfl) rfl ?_
      | refine s_no GOG_ rfl ?_
    first
      | refine s_go GOG_ ?_
        first
          | refine s_val (v_lenS rfl Tryz.underlying41) rfl ?_
          | refine s_val (v_lenN rfl Tryz.underlying41) rfl ?_
          | refine s_val (v_lenE rfl Tryz.underlying41) rfl ?_
          | refine s_val (v_lenB rfl Tryz.underlying41 rfl) rfl ?_
          | refine s_val (v_lenZ rfl Tryz.underlying41 rfl) rfl ?_
      | refine s_no GOG_ rfl ?_
    first
      | refine s_go GOG_ ?_
        first
          | refine s_val (v_gtrN (b := 10) rfl rfl) rfl ?_
          | refine s_val (v_gtrI rfl rfl) rfl ?_
      | refine s_no GOG_ rfl ?_
    first
      | refine s_val (v_pickT rfl PK_ rfl) rfl ?_
      | refine s_val (v_pickF rfl PK_ rfl) rfl ?_
      | refine s_val (v_pickOr rfl rfl rfl) rfl ?_
      | refine s_val (v_pickAnd rfl rfl rfl) rfl ?_
    refine s_nil ?_
    refine S_ ?_
    refine c_region ?_
    refine s_val (v_assignC rfl) rfl ?_
    refine s_nil ?_
    refine S_ ?_
    exact k_1 (by first | exact r_tmpC rfl | exact r_tmpA rfl) (by first | kernel_rfl | rfl)
  by_cases h1 : m < 0
  · refine c_call Tryz.func4 rfl Tryz.ntmps4 rfl LEN_ ?_
    refine S_ ?_
    refine c_region ?_
    refine s_val (v_assignC rfl) rfl ?_
    refine s_nil ?_
    refine S_ ?_
    refine c_region ?_
    first
      | refine s_val (v_moveC rfl) rfl ?_
      | refine s_val (v_moveA rfl) rfl ?_
      | refine s_val (v_moveT rfl) rfl ?_
    first
      | refine s_val (v_lssN (b := 0) rfl rfl) rfl ?_
      | refine s_val (v_lssI rfl rfl) rfl ?_
    first
      | refine s_val (v_moveC rfl) rfl ?_
      | refine s_val (v_moveA rfl) rfl ?_
      | refine s_val (v_moveT rfl) rfl ?_
    first
      | refine s_go GOG_ ?_
        first
          | refine s_val (v_moveC rfl) rfl ?_
          | refine s_val (v_moveA rfl) rfl ?_
          | refine s_val (v_moveT rfl) rfl ?_
      | refine s_no GOG_ rfl ?_
    first
      | refine s_go GOG_ ?_
        first
          | refine s_val (v_lssN (b := 0) rfl rfl) rfl ?_
          | refine s_val (v_lssI rfl rfl) rfl ?_
      | refine s_no GOG_ rfl ?_
    first
      | refine s_val (v_pickT rfl PK_ rfl) rfl ?_
      | refine s_val (v_pickF rfl PK_ rfl) rfl ?_
      | refine s_val (v_pickOr rfl rfl rfl) rfl ?_
      | refine s_val (v_pickAnd rfl rfl rfl) rfl ?_
    first
      | refine s_val (v_moveC rfl) rfl ?_
      | refine s_val (v_moveA rfl) rfl ?_
      | refine s_val (v_moveT rfl) rfl ?_
    first
      | refine s_go GOG_ ?_
        first
          | refine s_val (v_moveC rfl) rfl ?_
          | refine s_val (v_moveA rfl) rfl ?_
          | refine s_val (v_moveT rfl) rfl ?_
      | refine s_no GOG_ rfl ?_
    first
      | refine s_go GOG_ ?_
        first
          | refine s_val (v_lenS rfl Tryz.underlying41) rfl ?_
          | refine s_val (v_lenN rfl Tryz.underlying41) rfl ?_
          | refine s_val (v_lenE rfl Tryz.underlying41) rfl ?_
          | refine s_val (v_lenB rfl Tryz.underlying41 rfl) rfl ?_
          | refine s_val (v_lenZ rfl Tryz.underlying41 rfl) rfl ?_
      | refine s_no GOG_ rfl ?_
    first
      | refine s_go GOG_ ?_
        first
          | refine s_val (v_gtrN (b := 10) rfl rfl) rfl ?_
          | refine s_val (v_gtrI rfl rfl) rfl ?_
      | refine s_no GOG_ rfl ?_
    first
      | refine s_val (v_pickT rfl PK_ rfl) rfl ?_
      | refine s_val (v_pickF rfl PK_ rfl) rfl ?_
      | refine s_val (v_pickOr rfl rfl rfl) rfl ?_
      | refine s_val (v_pickAnd rfl rfl rfl) rfl ?_
    refine s_nil ?_
    refine S_ ?_
    refine c_region ?_
    refine s_val (v_assignC rfl) rfl ?_
    refine s_nil ?_
    refine S_ ?_
    exact k_1 (by first | exact r_tmpC rfl | exact r_tmpA rfl) (by first | kernel_rfl | rfl)
  generalize hc : w.length = c at *
  by_cases h2 : 10 < c
  · refine c_call Tryz.func4 rfl Tryz.ntmps4 rfl LEN_ ?_
    refine S_ ?_
    refine c_region ?_
    refine s_val (v_assignC rfl) rfl ?_
    refine s_nil ?_
    refine S_ ?_
    refine c_region ?_
    first
      | refine s_val (v_moveC rfl) rfl ?_
      | refine s_val (v_moveA rfl) rfl ?_
      | refine s_val (v_moveT rfl) rfl ?_
    first
      | refine s_val (v_lssN (b := 0) rfl rfl) rfl ?_
      | refine s_val (v_lssI rfl rfl) rfl ?_
    first
      | refine s_val (v_moveC rfl) rfl ?_
      | refine s_val (v_moveA rfl) rfl ?_
      | refine s_val (v_moveT rfl) rfl ?_
    first
      | refine s_go GOG_ ?_
        first
          | refine s_val (v_moveC rfl) rfl ?_
          | refine s_val (v_moveA rfl) rfl ?_
          | refine s_val (v_moveT rfl) rfl ?_
      | refine s_no GOG_ rfl ?_
    first
      | refine s_go GOG_ ?_
        first
          | refine s_val (v_lssN (b := 0) rfl rfl) rfl ?_
          | refine s_val (v_lssI rfl rfl) rfl ?_
      | refine s_no GOG_ rfl ?_
    first
      | refine s_val (v_pickT rfl PK_ rfl) rfl ?_
      | refine s_val (v_pickF rfl PK_ rfl) rfl ?_
      | refine s_val (v_pickOr rfl rfl rfl) rfl ?_
      | refine s_val (v_pickAnd rfl rfl rfl) rfl ?_
    first
      | refine s_val (v_moveC rfl) rfl ?_
      | refine s_val (v_moveA rfl) rfl ?_
      | refine s_val (v_moveT rfl) rfl ?_
    first
      | refine s_go GOG_ ?_
        first
          | refine s_val (v_moveC rfl) rfl ?_
          | refine s_val (v_moveA rfl) rfl ?_
          | refine s_val (v_moveT rfl) rfl ?_
      | refine s_no GOG_ rfl ?_
    first
      | refine s_go GOG_ ?_
        first
          | refine s_val (v_lenS rfl Tryz.underlying41) rfl ?_
          | refine s_val (v_lenN rfl Tryz.underlying41) rfl ?_
          | refine s_val (v_lenE rfl Tryz.underlying41) rfl ?_
          | refine s_val (v_lenB rfl Tryz.underlying41 rfl) rfl ?_
          | refine s_val (v_lenZ rfl Tryz.underlying41 rfl) rfl ?_
      | refine s_no GOG_ rfl ?_
    first
      | refine s_go GOG_ ?_
        first
          | refine s_val (v_gtrN (b := 10) rfl rfl) rfl ?_
          | refine s_val (v_gtrI rfl rfl) rfl ?_
      | refine s_no GOG_ rfl ?_
    first
      | refine s_val (v_pickT rfl PK_ rfl) rfl ?_
      | refine s_val (v_pickF rfl PK_ rfl) rfl ?_
      | refine s_val (v_pickOr rfl rfl rfl) rfl ?_
      | refine s_val (v_pickAnd rfl rfl rfl) rfl ?_
    refine s_nil ?_
    refine S_ ?_
    refine c_region ?_
    refine s_val (v_assignC rfl) rfl ?_
    refine s_nil ?_
    refine S_ ?_
    exact k_1 (by first | exact r_tmpC rfl | exact r_tmpA rfl) (by first | kernel_rfl | rfl)
  obtain ⟨n, rfl⟩ : ∃ k : Nat, n = (k : Int) := ⟨n.toNat, by omega⟩
  obtain ⟨m, rfl⟩ : ∃ k : Nat, m = (k : Int) := ⟨m.toNat, by omega⟩
  exact rAlike_ev n m (by omega) (by omega) w c c hc (by omega) hw
end Go.Proofs.YtmbepikkgkcgkaaGreatDoor
