/- The walk of the reference's block, its middle part: the rounds. -/
import Derived.Test.YtgapnakhecdliaaRfTail
namespace Go.Proofs.Ytgapnakhecdliaa
open Go.RowKit
/-- The first and the second half of a round, k quarters of it. -/
def halfA (l : List (BitVec 32)) : Nat → List (BitVec 32)
  | 0 => l
  | k + 1 => quarterL (halfA l k) k (4 + k) (8 + k) (12 + k)
def halfB (l : List (BitVec 32)) : Nat → List (BitVec 32)
  | 0 => l
  | k + 1 => quarterL (halfB l k) k (4 + (k + 1) % 4) (8 + (k + 2) % 4) (12 + (k + 3) % 4)
theorem halfA_length (l : List (BitVec 32)) (k : Nat) : (halfA l k).length = l.length := by induction k with | zero => rfl | succ k ih => simp [halfA, ih]
theorem halfB_length (l : List (BitVec 32)) (k : Nat) : (halfB l k).length = l.length := by induction k with | zero => rfl | succ k ih => simp [halfB, ih]
theorem half_round (l : List (BitVec 32)) : halfB (halfA l 4) 4 = chRound l := rfl
set_option maxRecDepth 100000 in
set_option maxHeartbeats 2000000 in
theorem refMid (s : List (BitVec 32)) (hs : s.length = 16) (bo bs B : Nat) (w w0 : World) (hB : Below B w0 w) (hbo : B ≤ bo) (HO : Has w bo (cells U8 (zer8 64)) 26) (HS : Has w bs (cells U32 s) 36)
    (u0 u1 u2 u3 u4 u5 u8 u9 u10 u11 u12 u13 u14 u15 u16 u17 u18 u19 u20 u21 u22 u23 u24 u25 u26 u27 u28 u29 u30 u31 u32 u33 u34 u35 u36 u37 u38 u39 u40 u41 u42 u43 u44 u45 u46 u47 u48 u49 u50 u51 u52 u53 u54 u55 u56 u57 u58 u59 u60 u61 u62 u63 u64 u65 u66 u67 u68 u69 u70 u71 u72 u73 u74 u75 u76 u77 u78 u79 u80 u81 u82 u83 u84 u85 u86 u87 u88 u89 u90 u91 u92 u93 u94 u95 u96 u97 : Value)
    (K : Act → World → Prop) (hK : ∀ a w, Code.wp Try.prog (restOf 6 (bodyOf Try.f7)) (bodyPost Try.prog Try.f7 fun e w' => e = .returned (.agg (cells U8 ((List.range 64).map (chByte (chRounds 10 s) s)))) ∧ Below B w0 w') a w → K a w) :
    Code.wp Try.prog (headOf (restOf 5 (bodyOf Try.f7))) (Exit.then K (bodyPost Try.prog Try.f7 fun e w' => e = .returned (.agg (cells U8 ((List.range 64).map (chByte (chRounds 10 s) s)))) ∧ Below B w0 w')) ⟨#[u0, u1, u2, u3, u4, u5, (.pointer (some ⟨bo, 0, none⟩)), (.pointer (some ⟨bs, 0, none⟩)), u8, u9, u10, u11, u12, u13, u14, u15, u16, u17, u18, u19, u20, u21, u22, u23, u24, u25, u26, u27, u28, u29, u30, u31, u32, u33, u34, u35, u36, u37, u38, u39, u40, u41, u42, u43, u44, u45, u46, u47, u48, u49, u50, u51, u52, u53, u54, u55, u56, u57, u58, u59, u60, u61, u62, u63, u64, u65, u66, u67, u68, u69, u70, u71, u72, u73, u74, u75, u76, u77, u78, u79, u80, u81, u82, u83, u84, u85, u86, u87, u88, u89, u90, u91, u92, u93, u94, u95, u96, u97], []⟩ w := by
  conv => arg 2; whnf
  have HB := hid hB
  have HO' := hid HO
  have HS' := hid HS
  have Hs := hid hs
  clear hB HO HS hs
  go_wp2_with (first
    | ((with_reducible (show wpList _ _ _ (⟨some 41, _, _, _, _, _⟩ :: _) _ _)); refine wpList_load_has rfl 36 (.tmp 7) rfl _ _ _ _ rfl HS'.out Try.underlying36 rfl (by rw [cells_size, Hs.out]; exact info16) ?_)
    | ((with_reducible (show wpList _ _ _ (⟨none, .store 36 (.tmp 10) (.tmp 41), _, _, _, _⟩ :: _) _ _)); refine wpList_store_has rfl 36 (.tmp 10) (.tmp 41) rfl _ _ _ _ rfl rfl (Has.new _ _ _) (by rw [cells_size, Hs.out]; rfl) (by rw [cells_size, Hs.out]; exact info16) (oneCell32 _) ?_))
  conv => arg 2; whnf
  go_wp2_with fail
  generalize hW : World.setRow (World.alloc w _) _ _ = W
  have HX : Has W w.heap.size (cells U32 s) 36 := by rw [← hW]; exact (Has.new _ _ _).setRow _
  have nO : bo ≠ w.heap.size := by have := HO'.out.lt; omega
  have nS : bs ≠ w.heap.size := by have := HS'.out.lt; omega
  have HO : Has W bo (cells U8 (zer8 64)) 26 := by rw [← hW]; exact (HO'.out.alloc _).other _ nO _
  have HS : Has W bs (cells U32 s) 36 := by rw [← hW]; exact (HS'.out.alloc _).other _ nS _
  have hBw : B ≤ w.heap.size := by have := HO'.out.lt; omega
  have hB : Below B w0 W := by rw [← hW]; exact below_setRow (HB.out.alloc hBw _) hBw _
  clear hW HO' HS' HB
  generalize w.heap.size = bx at *
  have HB := hid hB
  have HO' := hid HO
  have HS' := hid HS
  have HX' := hid HX
  have nO' := hid nO
  have nS' := hid nS
  clear hB HO HS HX nO nS
  go_loopw [11] (fun i wr => ∃ k : Nat, k ≤ 10 ∧ i = .int .i64 k ∧ Upd bx (cells U32 (chRounds k s)) 36 W wr) (fun i _ => 10 - (intOf i).toNat)
  case atStart => exact ⟨0, Nat.zero_le _, rfl, Upd.refl HX'.out⟩
  case round =>
    obtain ⟨k, hk, rfl, hU⟩ := hrel
    have HU := hid hU
    clear hU
    by_cases hlt : k < 10
    · have hl : (chRounds k s).length = 16 := by rw [chRounds_length]; exact Hs.out
      have HL := hid hl
      clear hl
      have hb : decide ((k : Int) < 10) = true := decide_eq_true (by omega)
      go_wp2_with fail
      obtain ⟨wo, rfl⟩ : ∃ wo : World, wo = wr := ⟨_, rfl⟩
      go_loopw [12] (fun i wr => ∃ j : Nat, j ≤ 4 ∧ i = .int .i64 j ∧ Upd bx (cells U32 (halfA (chRounds k s) j)) 36 W wr) (fun i _ => 4 - (intOf i).toNat)
      case atStart => exact ⟨0, Nat.zero_le _, rfl, HU.out⟩
      case round =>
        obtain ⟨j, hj, rfl, hU⟩ := hrel
        have HU1 := hid hU
        clear hU
        by_cases hlj : j < 4
        · go_wp2_with fail
          refine (refQuarter_at bx (halfA (chRounds k s) j) _ HU1.out.has (by rw [halfA_length]; exact HL.out) _ _ _ _ j (4 + j) (8 + j) (12 + j) (by omega) (by omega) (by omega) (by omega) (by omega) (by omega) (by omega) (by omega)).mono ?_
          rintro e v0 ⟨rfl, hU⟩
          have U0 := hid (HU1.out.trans hU)
          clear hU
          go_wp2_with fail
          exact ⟨⟨j + 1, by omega, by go_num, U0.out⟩, by simp [intOf]; omega⟩
        · obtain rfl : j = 4 := by omega
          clear hj hlj
          go_wp2_with fail
          rw [show ((4 : Nat) : Int) = 4 from rfl]
          obtain ⟨wo1, rfl⟩ : ∃ wo : World, wo = wr := ⟨_, rfl⟩
          go_loopw [13] (fun i wr => ∃ j : Nat, j ≤ 4 ∧ i = .int .i64 j ∧ Upd bx (cells U32 (halfB (halfA (chRounds k s) 4) j)) 36 W wr) (fun i _ => 4 - (intOf i).toNat)
          case atStart => exact ⟨0, Nat.zero_le _, rfl, HU1.out⟩
          case round =>
            obtain ⟨j, hj, rfl, hU⟩ := hrel
            have HU2 := hid hU
            clear hU
            by_cases hlj : j < 4
            · go_wp2_with fail
              refine (refQuarter_at bx (halfB (halfA (chRounds k s) 4) j) _ HU2.out.has (by rw [halfB_length, halfA_length]; exact HL.out) _ _ _ _ j (4 + (j + 1) % 4) (8 + (j + 2) % 4) (12 + (j + 3) % 4) (by omega) (by omega) (by omega) (by omega) (by omega) (by omega) (by omega) (by omega)).mono ?_
              rintro e v0 ⟨rfl, hU⟩
              have U0 := hid (HU2.out.trans hU)
              clear hU
              go_wp2_with fail
              exact ⟨⟨j + 1, by omega, by go_num, U0.out⟩, by simp [intOf]; omega⟩
            · obtain rfl : j = 4 := by omega
              clear hj hlj
              have U3 : Upd bx (cells U32 (chRounds (k + 1) s)) 36 W wr := HU2.out
              have HU3 := hid U3
              clear U3
              go_wp2_with fail
              exact ⟨⟨k + 1, by omega, by go_num, HU3.out⟩, by simp [intOf]; omega⟩
    · obtain rfl : k = 10 := by omega
      clear hk hlt
      go_upto_region 23 with (fail)
      exact refTail s (chRounds 10 s) Hs.out (by rw [chRounds_length]; exact Hs.out) bo bs bx B _ w0 (HB.out.trans (HU.out.below hBw)) hbo (HO'.out.upd HU.out nO'.out) (HS'.out.upd HU.out nS'.out) HU.out.has _ _ _ _ _ _ _ _ _ _ _ _ _ _ _ _ _ _ _ _ _ _ _ _ _ _ _ _ _ _ _ _ _ _ _ _ _ _ _ _ _ _ _ _ _ _ _ _ _ _ _ _ _ _ _ _ _ _ _ _ _ _ _ _ _ _ _ _ _ _ _ _ _ _ _ _ _ _ _ _ _ _ _ _ _ _ _ _ _ _ _ _ _ _ _ _ (by assumption)
end Go.Proofs.Ytgapnakhecdliaa
