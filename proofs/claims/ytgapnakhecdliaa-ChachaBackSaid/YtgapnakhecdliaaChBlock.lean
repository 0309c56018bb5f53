/- The walk of ChaCha20's block. -/
import Derived.Test.YtgapnakhecdliaaChMid
namespace Go.Proofs.Ytgapnakhecdliaa
open Go.RowKit
def chBase : List (BitVec 32) := [1634760805#32, 857760878#32, 2036477234#32, 1797285236#32, 0, 0, 0, 0, 0, 0, 0, 0, 0, 0, 0, 0]
@[go_sem, simp] theorem chBase_length : chBase.length = 16 := rfl
def word4 (l : List (BitVec 8)) (i : Nat) : BitVec 32 := (low8 ((l.drop (4 * i)).take 4)).setWidth 32
def chInit (key nonce : List (BitVec 8)) (c : BitVec 32) : List (BitVec 32) := fill (word4 nonce) 13 3 (put (fill (word4 key) 4 8 chBase) 12 c)
@[go_sem, simp] theorem chInit_length (key nonce : List (BitVec 8)) (c : BitVec 32) : (chInit key nonce c).length = 16 := by simp [chInit]
def chBlock (key nonce : List (BitVec 8)) (c : BitVec 32) : List (BitVec 8) := (List.range 64).map (chByte (chRounds 10 (chInit key nonce c)) (chInit key nonce c))
theorem chBlock_length (key nonce : List (BitVec 8)) (c : BitVec 32) : (chBlock key nonce c).length = 64 := by simp [chBlock]

theorem low_len (b off len cap : Nat) (l : List (BitVec 8)) (w : World) (hl : l.length = len) (hm : len ≤ 1000000)
    (hc : ∀ i, i < len → w.cell? ⟨b, off + i, none⟩ = some (U8 (nth l i))) :
    Calls Try.prog 13 #[.slice (some ⟨b, off, none⟩) len cap] w fun e w' => e = .returned (U64 (low8 l)) ∧ w' = w := by
  subst hl; exact low_any b off cap l w hm hc
theorem part_get (l : List (BitVec 8)) (o n i : Nat) (hi : i < n) : nth ((l.drop o).take n) i = nth l (o + i) := by
  simp [nth, hi]
theorem part_length (l : List (BitVec 8)) (o n : Nat) (h : o + n ≤ l.length) : ((l.drop o).take n).length = n := by simp; omega
theorem part_cells {w : World} {b : Nat} {t : TypeId} {l : List (BitVec 8)} (h : Has w b (cells U8 l) t) (o n : Nat) (hn : o + n ≤ l.length) : ∀ i, i < n → w.cell? ⟨b, o + i, none⟩ = some (U8 (nth ((l.drop o).take n) i)) := by
  intro i hi
  rw [h.cell, cells_get _ _ _ (by omega), part_get l o n i hi]

set_option maxRecDepth 100000 in
set_option maxHeartbeats 4000000 in
theorem block_any (key nonce : List (BitVec 8)) (c : BitVec 32) (w : World) (hk : key.length = 32) (hn : nonce.length = 12) :
    Calls Try.prog 6 #[.agg (cells U8 key), U32 c, .agg (cells U8 nonce)] w fun e w' => e = .returned (.agg (cells U8 (chBlock key nonce c))) ∧ Below w.heap.size w w' := by
  go_enter Try.func6, Try.ntmps6
  go_wp2_with fail
  generalize hW : World.alloc (World.alloc (World.alloc (World.alloc w _) _) _) _ = W
  have hK : Has W w.heap.size (cells U8 key) 22 := by rw [← hW]; exact (((Has.made rfl rfl).alloc _).alloc _).alloc _
  have hN : Has W (w.heap.size + 1) (cells U8 nonce) 24 := by rw [← hW]; exact ((Has.made (by simp) rfl).alloc _).alloc _
  have hO : Has W (w.heap.size + 1 + 1) (cells U8 (zer8 64)) 26 := by rw [← hW]; exact (Has.made (by simp) rfl).alloc _
  have hS : Has W (w.heap.size + 1 + 1 + 1) (cells U32 chBase) 36 := by rw [← hW]; exact Has.made (by simp) rfl
  have hB : Below w.heap.size w W := by
    rw [← hW]
    exact ((((Below.refl _ _).alloc (Nat.le_refl _) _).alloc (by simp only [World.size_alloc]; omega) _).alloc (by simp only [World.size_alloc]; omega) _).alloc (by simp only [World.size_alloc]; omega) _
  have hZ : W.heap.size = w.heap.size + 1 + 1 + 1 + 1 := by rw [← hW]; simp
  have hW0 := setRow_self hS
  have HK := hid hK
  have HN := hid hN
  have HO := hid hO
  have HS := hid hS
  have HB := hid hB
  have HZ := hid hZ
  have HW0 := hid hW0
  clear hK hN hO hS hB hZ hW hW0
  obtain ⟨rc, rf, rs⟩ := HS.out.rowOf
  go_loopw [14] (fun i wr => ∃ k m : Nat, k ≤ 8 ∧ i = .int .i64 k ∧ wr = (W.setRow (w.heap.size + 1 + 1 + 1) (cells U32 (fill (word4 key) 4 k chBase))).drewN m) (fun i _ => 8 - (intOf i).toNat)
  case atStart => exact ⟨0, 0, Nat.zero_le _, rfl, HW0.out.symm⟩
  case round =>
    obtain ⟨k, m, hk, rfl, rfl⟩ := hrel
    by_cases hlt : k < 8
    · have h1 : 4 * k + 4 ≤ key.length := by omega
      have hl : 4 + k < 16 := by omega
      have e0 : (0 : Int) ≤ 4 * ↑k := by omega
      have e1 : (4 * (k : Int)) ≤ 4 * ↑k + 4 := by omega
      have e2 : (4 * (k : Int)) + 4 ≤ 32 := by omega
      have e3 : ¬ (32 = 4 * k) := by omega
      have hpl := hid (part_length key (4 * k) 4 h1)
      have hpc := hid (part_cells (((HK.out.other (w.heap.size + 1 + 1 + 1) (by omega) (cells U32 (fill (word4 key) 4 k chBase))).drewN m)) (4 * k) 4 h1)
      go_wp2_with (go_at_call 13; refine (low_len _ _ _ _ _ _ hpl.out (by omega) hpc.out).mono ?_; rintro e w' ⟨rfl, rfl⟩)
      go_roundw
      case rel => exact ⟨k + 1, m, by omega, by go_num, rfl⟩
      case measure => simp [intOf]; omega
    · obtain rfl : k = 8 := by omega
      clear hk hlt
      go_wp2_with fail
      rw [show ((8 : Nat) : Int) = 8 from rfl]
      go_loopw [31] (fun i wr => ∃ k m : Nat, k ≤ 3 ∧ i = .int .i64 k ∧ wr = (W.setRow (w.heap.size + 1 + 1 + 1) (cells U32 (fill (word4 nonce) 13 k (put (fill (word4 key) 4 8 chBase) 12 c)))).drewN m) (fun i _ => 3 - (intOf i).toNat)
      case atStart => exact ⟨0, m, Nat.zero_le _, rfl, rfl⟩
      case round =>
        clear m
        obtain ⟨k, m, hk, rfl, rfl⟩ := hrel
        by_cases hlt : k < 3
        · have h1 : 4 * k + 4 ≤ nonce.length := by omega
          have hl : 13 + k < 16 := by omega
          have e0 : (0 : Int) ≤ 4 * ↑k := by omega
          have e1 : (4 * (k : Int)) ≤ 4 * ↑k + 4 := by omega
          have e2 : (4 * (k : Int)) + 4 ≤ 12 := by omega
          have e3 : ¬ (12 = 4 * k) := by omega
          have hpl := hid (part_length nonce (4 * k) 4 h1)
          have hpc := hid (part_cells (((HN.out.other (w.heap.size + 1 + 1 + 1) (by omega) (cells U32 (fill (word4 nonce) 13 k (put (fill (word4 key) 4 8 chBase) 12 c)))).drewN m)) (4 * k) 4 h1)
          go_wp2_with (go_at_call 13; refine (low_len _ _ _ _ _ _ hpl.out (by omega) hpc.out).mono ?_; rintro e w' ⟨rfl, rfl⟩)
          go_roundw
          case rel => exact ⟨k + 1, m, by omega, by go_num, rfl⟩
          case measure => simp [intOf]; omega
        · obtain rfl : k = 3 := by omega
          clear hk hlt
          rw [show fill (word4 nonce) 13 3 (put (fill (word4 key) 4 8 chBase) 12 c) = chInit key nonce c from rfl]
          have HS1 := hid ((HS.out.setRow (cells U32 (chInit key nonce c))).drewN m)
          go_upto_region 13 with (fail)
          refine block_mid (chInit key nonce c) (chInit_length key nonce c) (w.heap.size + 1 + 1) (w.heap.size + 1 + 1 + 1) w.heap.size _ w (below_drewN' (below_setRow HB.out (by omega) _) _) (by omega) ((HO.out.other _ (by omega) _).drewN m) HS1.out _ _ _ _ _ _ _ _ _ _ _ _ _ _ _ _ _ _ _ _ _ _ _ _ _ _ _ _ _ _ _ _ _ _ _ _ _ _ _ _ _ _ _ _ _ _ _ _ _ _ _ _ _ _ _ _ _ _ _ _ _ _ _ _ _ _ _ _ _ _ _ _ _ _ _ _ _ _ ?_
          assumption
end Go.Proofs.Ytgapnakhecdliaa
