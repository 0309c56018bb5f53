/- The walk of ChaCha20's block, its last part: the sixty-four bytes. -/
import Derived.Test.YtgapnakhecdliaaChQuarter
import Derived.Test.YtgapnakhecdliaaMem
namespace Go.Proofs.Ytgapnakhecdliaa
open Go.RowKit
theorem info16 : (Try.prog.info? 36).map (·.size) = some 16 := by kernel_rfl
theorem info64 : (Try.prog.info? 26).map (·.size) = some 64 := by kernel_rfl
def chByte (x s : List (BitVec 32)) (i : Nat) : BitVec 8 := ((nth x (i / 4) + nth s (i / 4)) >>> (8 * (i % 4))).setWidth 8
set_option maxRecDepth 100000 in
set_option maxHeartbeats 2000000 in
theorem block_tail (s x : List (BitVec 32)) (hs : s.length = 16) (hx : x.length = 16) (bo bs bx B : Nat) (w w0 : World) (hB : Below B w0 w) (hbo : B ≤ bo) (HO : Has w bo (cells U8 (zer8 64)) 26) (HS : Has w bs (cells U32 s) 36) (HX : Has w bx (cells U32 x) 36)
    (u0 u1 u2 u3 u4 u5 u8 u9 u11 u12 u13 u14 u15 u16 u17 u18 u19 u20 u21 u22 u23 u24 u25 u26 u27 u28 u29 u30 u31 u32 u33 u34 u35 u36 u37 u38 u39 u40 u41 u42 u43 u44 u45 u46 u47 u48 u49 u50 u51 u52 u53 u54 u55 u56 u57 u58 u59 u60 u61 u62 u63 u64 u65 u66 u67 u68 u69 u70 u71 u72 u73 u74 u75 u76 u77 u78 : Value)
    (K : Act → World → Prop) (hK : ∀ a w, Code.wp Try.prog (restOf 8 (bodyOf Try.f6)) (bodyPost Try.prog Try.f6 fun e w' => e = .returned (.agg (cells U8 ((List.range 64).map (chByte x s)))) ∧ Below B w0 w') a w → K a w) :
    Code.wp Try.prog (headOf (restOf 7 (bodyOf Try.f6))) (Exit.then K (bodyPost Try.prog Try.f6 fun e w' => e = .returned (.agg (cells U8 ((List.range 64).map (chByte x s)))) ∧ Below B w0 w')) ⟨#[u0, u1, u2, u3, u4, u5, (.pointer (some ⟨bo, 0, none⟩)), (.pointer (some ⟨bs, 0, none⟩)), u8, u9, (.pointer (some ⟨bx, 0, none⟩)), u11, u12, u13, u14, u15, u16, u17, u18, u19, u20, u21, u22, u23, u24, u25, u26, u27, u28, u29, u30, u31, u32, u33, u34, u35, u36, u37, u38, u39, u40, u41, u42, u43, u44, u45, u46, u47, u48, u49, u50, u51, u52, u53, u54, u55, u56, u57, u58, u59, u60, u61, u62, u63, u64, u65, u66, u67, u68, u69, u70, u71, u72, u73, u74, u75, u76, u77, u78], []⟩ w := by
  conv => arg 2; whnf
  have HB := hid hB
  have HO' := hid HO
  have HS' := hid HS
  have HX' := hid HX
  clear hB HO HS HX
  go_wp2_with fail
  conv => arg 2; whnf
  go_wp2_with fail
  generalize hW : World.alloc w _ = W
  have HZ : Has W w.heap.size (cells U8 (zer8 64)) 26 := by rw [← hW]; exact Has.made rfl rfl
  have HO : Has W bo (cells U8 (zer8 64)) 26 := by rw [← hW]; exact HO'.out.alloc _
  have HS : Has W bs (cells U32 s) 36 := by rw [← hW]; exact HS'.out.alloc _
  have HX : Has W bx (cells U32 x) 36 := by rw [← hW]; exact HX'.out.alloc _
  have hBw : B ≤ w.heap.size := by have := HO'.out.lt; omega
  have hB : Below B w0 W := by rw [← hW]; exact HB.out.alloc hBw _
  have no : bo ≠ w.heap.size := by have := HO'.out.lt; omega
  have ns : bs ≠ w.heap.size := by have := HS'.out.lt; omega
  have nx : bx ≠ w.heap.size := by have := HX'.out.lt; omega
  clear hW HO' HS' HX' HB
  generalize w.heap.size = bz at *
  obtain ⟨rc, rf, rs⟩ := HZ.rowOf
  have rcs : ∀ cs i, (W.setRow bz cs).cell? ⟨bs, i, none⟩ = (cells U32 s)[i]? := fun cs i => (HS.other bz ns cs).cell i
  have rcx : ∀ cs i, (W.setRow bz cs).cell? ⟨bx, i, none⟩ = (cells U32 x)[i]? := fun cs i => (HX.other bz nx cs).cell i
  have hW0 := hid (setRow_self HZ)
  have HO' := hid HO
  have HZ' := hid HZ
  have HB := hid hB
  clear HO HZ HS HX hB ns nx
  go_loopw [58] (fun i wr => ∃ k m : Nat, k ≤ 64 ∧ i = .int .i64 k ∧ wr = (W.setRow bz (cells U8 (fill (chByte x s) 0 k (zer8 64)))).drewN m) (fun i _ => 64 - (intOf i).toNat)
  case atStart => exact ⟨0, 0, Nat.zero_le _, rfl, hW0.out.symm⟩
  case round =>
    obtain ⟨k, m, hk, rfl, rfl⟩ := hrel
    by_cases hlt : k < 64
    · have q1 : (k : Int) / 4 < 16 := by omega
      have q2 : (0 : Int) ≤ (k : Int) / 4 := by omega
      have q3 : (0 : Int) ≤ 8 * ((k : Int) % 4) := by omega
      have q4 : k / 4 < 16 := by omega
      have q5 : (k : Int) < 64 := by omega
      have q6 : k < (fill (chByte x s) 0 k (zer8 64)).length := by simp; omega
      have g1 : k / 4 < s.length := by omega
      have g2 : k / 4 < x.length := by omega
      have e8 : (8 * ((k : Int) % 4)).toNat = 8 * (k % 4) := by omega
      have e8' := hid e8
      clear e8 hs hx
      go_wp2
      refine region_tail 16 (by kernel_rfl) (by kernel_rfl) ?_
      simp only [List.take_succ_cons, List.take_zero, List.drop_succ_cons, List.drop_zero]
      repeat (refine wpStill_step (fun K hK => ?_); go_simp; (try go_bits); refine hK _ ?_; clear hK K)
      refine wpStill_nil ?_
      go_wp2
      exact ⟨⟨k + 1, m + 1, by omega, by go_num, by rw [fill_succ0]; rfl⟩, by simp [intOf]; omega⟩
    · obtain rfl : k = 64 := by omega
      have L1 := hid ((HZ'.out.setRow (cells U8 (fill (chByte x s) 0 64 (zer8 64)))).drewN m)
      have L2 := hid ((HO'.out.other bz no (cells U8 (fill (chByte x s) 0 64 (zer8 64)))).drewN m)
      clear hlt hk
      go_wp2_with (first
        | ((with_reducible (show wpList _ _ _ (⟨some 78, _, _, _, _, _⟩ :: _) _ _)); refine wpList_load_has rfl 26 (.tmp 11) rfl _ _ _ _ rfl L1.out Try.underlying26 rfl (by rw [cells_size, fill_length, zer8_length]; exact info64) ?_)
        | ((with_reducible (show wpList _ _ _ (⟨none, .store 26 (.tmp 6) (.tmp 78), _, _, _, _⟩ :: _) _ _)); refine wpList_store_has rfl 26 (.tmp 6) (.tmp 78) rfl _ _ _ _ rfl rfl L2.out (by rw [cells_size, cells_size, fill_length]) (by rw [cells_size, fill_length, zer8_length]; exact info64) (oneCell8 _) ?_))
      refine bodyPost_ret (v := .agg (cells U8 (fill (chByte x s) 0 64 (zer8 64)))) (results_has rfl _ _ bo _ _ _ rfl (L2.out.setRow _) Try.underlying26 rfl (by rw [cells_size, fill_length, zer8_length]; exact info64)) rfl ⟨by rw [fill_zer], ?_⟩
      exact below_setRow (below_drewN' (below_setRow HB.out hBw _) _) hbo _
end Go.Proofs.Ytgapnakhecdliaa
