/- The walk of ChaCha20's block, its middle part: the twenty rounds. -/
import Derived.Test.YtgapnakhecdliaaChTail
namespace Go.Proofs.Ytgapnakhecdliaa
open Go.RowKit
def chRound (l : List (BitVec 32)) : List (BitVec 32) :=
  quarterL (quarterL (quarterL (quarterL (quarterL (quarterL (quarterL (quarterL l 0 4 8 12) 1 5 9 13) 2 6 10 14) 3 7 11 15) 0 5 10 15) 1 6 11 12) 2 7 8 13) 3 4 9 14
@[go_sem, simp] theorem chRound_length (l : List (BitVec 32)) : (chRound l).length = l.length := by simp [chRound]
def chRounds : Nat → List (BitVec 32) → List (BitVec 32)
  | 0, l => l
  | k + 1, l => chRound (chRounds k l)
@[go_sem, simp] theorem chRounds_length (k : Nat) (l : List (BitVec 32)) : (chRounds k l).length = l.length := by induction k with | zero => rfl | succ k ih => simp [chRounds, ih]
/-- A quarter's contract where numbers stand. -/
theorem quarter_at (b : Nat) (l : List (BitVec 32)) (w : World) (h : Has w b (cells U32 l) 36) (hl : l.length = 16) (a0 a1 a2 a3 : Int) (i0 i1 i2 i3 : Nat) (e0 : a0 = i0) (e1 : a1 = i1) (e2 : a2 = i2) (e3 : a3 = i3) (h0 : i0 < 16) (h1 : i1 < 16) (h2 : i2 < 16) (h3 : i3 < 16) :
    Calls Try.prog 14 #[.pointer (some ⟨b, 0, none⟩), .int .i64 a0, .int .i64 a1, .int .i64 a2, .int .i64 a3] w fun e w' => e = .returned (.tuple #[]) ∧ Upd b (cells U32 (quarterL l i0 i1 i2 i3)) 36 w w' := by
  subst e0 e1 e2 e3
  exact quarter_any b l w h hl i0 i1 i2 i3 h0 h1 h2 h3
set_option maxRecDepth 100000 in
set_option maxHeartbeats 2000000 in
theorem block_mid (s : List (BitVec 32)) (hs : s.length = 16) (bo bs B : Nat) (w w0 : World) (hB : Below B w0 w) (hbo : B ≤ bo) (HO : Has w bo (cells U8 (zer8 64)) 26) (HS : Has w bs (cells U32 s) 36)
    (u0 u1 u2 u3 u4 u5 u8 u9 u10 u11 u12 u13 u14 u15 u16 u17 u18 u19 u20 u21 u22 u23 u24 u25 u26 u27 u28 u29 u30 u31 u32 u33 u34 u35 u36 u37 u38 u39 u40 u41 u42 u43 u44 u45 u46 u47 u48 u49 u50 u51 u52 u53 u54 u55 u56 u57 u58 u59 u60 u61 u62 u63 u64 u65 u66 u67 u68 u69 u70 u71 u72 u73 u74 u75 u76 u77 u78 : Value)
    (K : Act → World → Prop) (hK : ∀ a w, Code.wp Try.prog (restOf 6 (bodyOf Try.f6)) (bodyPost Try.prog Try.f6 fun e w' => e = .returned (.agg (cells U8 ((List.range 64).map (chByte (chRounds 10 s) s)))) ∧ Below B w0 w') a w → K a w) :
    Code.wp Try.prog (headOf (restOf 5 (bodyOf Try.f6))) (Exit.then K (bodyPost Try.prog Try.f6 fun e w' => e = .returned (.agg (cells U8 ((List.range 64).map (chByte (chRounds 10 s) s)))) ∧ Below B w0 w')) ⟨#[u0, u1, u2, u3, u4, u5, (.pointer (some ⟨bo, 0, none⟩)), (.pointer (some ⟨bs, 0, none⟩)), u8, u9, u10, u11, u12, u13, u14, u15, u16, u17, u18, u19, u20, u21, u22, u23, u24, u25, u26, u27, u28, u29, u30, u31, u32, u33, u34, u35, u36, u37, u38, u39, u40, u41, u42, u43, u44, u45, u46, u47, u48, u49, u50, u51, u52, u53, u54, u55, u56, u57, u58, u59, u60, u61, u62, u63, u64, u65, u66, u67, u68, u69, u70, u71, u72, u73, u74, u75, u76, u77, u78], []⟩ w := by
  conv => arg 2; whnf
  have HB := hid hB
  have HO' := hid HO
  have HS' := hid HS
  have Hs := hid hs
  clear hB HO HS hs
  go_wp2_with (first
    | ((with_reducible (show wpList _ _ _ (⟨some 46, _, _, _, _, _⟩ :: _) _ _)); refine wpList_load_has rfl 36 (.tmp 7) rfl _ _ _ _ rfl HS'.out Try.underlying36 rfl (by rw [cells_size, Hs.out]; exact info16) ?_)
    | ((with_reducible (show wpList _ _ _ (⟨none, .store 36 (.tmp 10) (.tmp 46), _, _, _, _⟩ :: _) _ _)); refine wpList_store_has rfl 36 (.tmp 10) (.tmp 46) rfl _ _ _ _ rfl rfl (Has.new _ _ _) (by rw [cells_size, Hs.out]; rfl) (by rw [cells_size, Hs.out]; exact info16) (oneCell32 _) ?_))
  conv => arg 2; whnf
  go_wp2_with fail
  generalize hW : World.setRow (World.alloc w _) _ _ = W
  have HX : Has W w.heap.size (cells U32 s) 36 := by rw [← hW]; exact (Has.new _ _ _).setRow _
  have nO : bo ≠ w.heap.size := by have := HO'.out.lt; omega
  have nS : bs ≠ w.heap.size := by have := HS'.out.lt; omega
  have HO : Has W bo (cells U8 (zer8 64)) 26 := by rw [← hW]; exact (HO'.out.alloc _).other _ nO _
  have HS : Has W bs (cells U32 s) 36 := by rw [← hW]; exact (HS'.out.alloc _).other _ nS _
  have hBw : B ≤ w.heap.size := by have := HO'.out.lt; omega
  have hB : Below B w0 W := by rw [← hW]; exact below_setRow (HB.out.alloc hBw _) hBw _
  clear hW HO' HS' HB
  generalize w.heap.size = bx at *
  have HB := hid hB
  have HO' := hid HO
  have HS' := hid HS
  have HX' := hid HX
  have nO' := hid nO
  have nS' := hid nS
  clear hB HO HS HX nO nS
  go_loopw [47] (fun i wr => ∃ k : Nat, k ≤ 10 ∧ i = .int .i64 k ∧ Upd bx (cells U32 (chRounds k s)) 36 W wr) (fun i _ => 10 - (intOf i).toNat)
  case atStart => exact ⟨0, Nat.zero_le _, rfl, Upd.refl HX'.out⟩
  case round =>
    obtain ⟨k, hk, rfl, hU⟩ := hrel
    have HU := hid hU
    clear hU
    by_cases hlt : k < 10
    · have hl : (chRounds k s).length = 16 := by rw [chRounds_length]; exact Hs.out
      have HL := hid hl
      clear hl
      go_wp2_with fail
      refine (quarter_at bx (chRounds k s) _ HU.out.has HL.out 0 4 8 12 0 4 8 12 rfl rfl rfl rfl (by omega) (by omega) (by omega) (by omega)).mono ?_
      rintro e v0 ⟨rfl, hU⟩
      have U0 := hid (HU.out.trans hU)
      clear hU
      go_wp2_with fail
      refine (quarter_at bx (quarterL (chRounds k s) 0 4 8 12) _ U0.out.has (by simp only [quarterL_length]; exact HL.out) 1 5 9 13 1 5 9 13 rfl rfl rfl rfl (by omega) (by omega) (by omega) (by omega)).mono ?_
      rintro e v1 ⟨rfl, hU⟩
      have U1 := hid (U0.out.trans hU)
      clear hU
      go_wp2_with fail
      refine (quarter_at bx (quarterL (quarterL (chRounds k s) 0 4 8 12) 1 5 9 13) _ U1.out.has (by simp only [quarterL_length]; exact HL.out) 2 6 10 14 2 6 10 14 rfl rfl rfl rfl (by omega) (by omega) (by omega) (by omega)).mono ?_
      rintro e v2 ⟨rfl, hU⟩
      have U2 := hid (U1.out.trans hU)
      clear hU
      go_wp2_with fail
      refine (quarter_at bx (quarterL (quarterL (quarterL (chRounds k s) 0 4 8 12) 1 5 9 13) 2 6 10 14) _ U2.out.has (by simp only [quarterL_length]; exact HL.out) 3 7 11 15 3 7 11 15 rfl rfl rfl rfl (by omega) (by omega) (by omega) (by omega)).mono ?_
      rintro e v3 ⟨rfl, hU⟩
      have U3 := hid (U2.out.trans hU)
      clear hU
      go_wp2_with fail
      refine (quarter_at bx (quarterL (quarterL (quarterL (quarterL (chRounds k s) 0 4 8 12) 1 5 9 13) 2 6 10 14) 3 7 11 15) _ U3.out.has (by simp only [quarterL_length]; exact HL.out) 0 5 10 15 0 5 10 15 rfl rfl rfl rfl (by omega) (by omega) (by omega) (by omega)).mono ?_
      rintro e v4 ⟨rfl, hU⟩
      have U4 := hid (U3.out.trans hU)
      clear hU
      go_wp2_with fail
      refine (quarter_at bx (quarterL (quarterL (quarterL (quarterL (quarterL (chRounds k s) 0 4 8 12) 1 5 9 13) 2 6 10 14) 3 7 11 15) 0 5 10 15) _ U4.out.has (by simp only [quarterL_length]; exact HL.out) 1 6 11 12 1 6 11 12 rfl rfl rfl rfl (by omega) (by omega) (by omega) (by omega)).mono ?_
      rintro e v5 ⟨rfl, hU⟩
      have U5 := hid (U4.out.trans hU)
      clear hU
      go_wp2_with fail
      refine (quarter_at bx (quarterL (quarterL (quarterL (quarterL (quarterL (quarterL (chRounds k s) 0 4 8 12) 1 5 9 13) 2 6 10 14) 3 7 11 15) 0 5 10 15) 1 6 11 12) _ U5.out.has (by simp only [quarterL_length]; exact HL.out) 2 7 8 13 2 7 8 13 rfl rfl rfl rfl (by omega) (by omega) (by omega) (by omega)).mono ?_
      rintro e v6 ⟨rfl, hU⟩
      have U6 := hid (U5.out.trans hU)
      clear hU
      go_wp2_with fail
      refine (quarter_at bx (quarterL (quarterL (quarterL (quarterL (quarterL (quarterL (quarterL (chRounds k s) 0 4 8 12) 1 5 9 13) 2 6 10 14) 3 7 11 15) 0 5 10 15) 1 6 11 12) 2 7 8 13) _ U6.out.has (by simp only [quarterL_length]; exact HL.out) 3 4 9 14 3 4 9 14 rfl rfl rfl rfl (by omega) (by omega) (by omega) (by omega)).mono ?_
      rintro e v7 ⟨rfl, hU⟩
      have U7 := hid (U6.out.trans hU)
      clear hU
      go_wp2_with fail
      exact ⟨⟨k + 1, by omega, by go_num, U7.out⟩, by simp [intOf]; omega⟩
    · obtain rfl : k = 10 := by omega
      clear hk hlt
      go_upto_region 25 with (fail)
      exact block_tail s (chRounds 10 s) Hs.out (by rw [chRounds_length]; exact Hs.out) bo bs bx B _ w0 (HB.out.trans (HU.out.below hBw)) hbo (HO'.out.upd HU.out nO'.out) (HS'.out.upd HU.out nS'.out) HU.out.has _ _ _ _ _ _ _ _ _ _ _ _ _ _ _ _ _ _ _ _ _ _ _ _ _ _ _ _ _ _ _ _ _ _ _ _ _ _ _ _ _ _ _ _ _ _ _ _ _ _ _ _ _ _ _ _ _ _ _ _ _ _ _ _ _ _ _ _ _ _ _ _ _ _ _ _ _ (by assumption)
end Go.Proofs.Ytgapnakhecdliaa
