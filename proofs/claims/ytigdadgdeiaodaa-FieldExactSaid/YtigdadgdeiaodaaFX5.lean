/- The texts Slice, Open, AvOpen, merged into one. -/
import Derived.Test.YtigdadgdeiaodaaFX4
import Derived.Laws.AppendOwnNone
import Derived.Deep.RegionLaw
import Derived.WalkKit
import Derived.ProofKit
import Derived.OpenShut
import Derived.ShutString
import Derived.ChangeOld
import Derived.Below
/- Slices of bytes: what a slice reads as, what a call owns, appending. -/
namespace Go.Proofs.Ytigdadgdeiaodaa
open Go.RowKit

/-- The slice value v reads as the bytes l. -/
def Sl (w : World) (v : Value) (l : List (BitVec 8)) : Prop :=
  ∃ a cap, v = .slice a l.length cap ∧ l.length ≤ cap ∧ cap ≤ maxLen ∧ (a = none → cap = 0) ∧ ∀ i, i < l.length → ∃ b off, a = some ⟨b, off, none⟩ ∧ w.cell? ⟨b, off + i, none⟩ = some (U8 (nth l i))
/-- The call owns the slice v, from block B on; it reads as l. -/
def Own (B : Nat) (w : World) (v : Value) (l : List (BitVec 8)) : Prop := w.ownsRow B 5 1 v l.length (l.map U8)

theorem Sl.nil (w : World) : Sl w (.slice none 0 0) [] := ⟨none, 0, rfl, Nat.le_refl _, by unfold maxLen; omega, fun _ => rfl, fun i h => absurd h (by simp)⟩
theorem addr_mid (b o j : Nat) : (⟨b, o, none⟩ : Addr).add j = ⟨b, o + j, none⟩ := Addr.add_mid b o j
theorem Own.sl {B : Nat} {w : World} {v : Value} {l : List (BitVec 8)} (h : Own B w v l) : Sl w v l := by
  obtain ⟨h1, h2⟩ := h
  rcases h2 with ⟨rfl, hn⟩ | ⟨g, cap, cur, rfl, hg, hh, hc, hm, hs, ht⟩
  · obtain rfl : l = [] := List.length_eq_zero_iff.1 hn
    exact Sl.nil w
  · refine ⟨some ⟨g, 0, none⟩, cap, rfl, hc, hm, (fun h => by cases h), fun i hi => ⟨g, 0, rfl, ?_⟩⟩
    rw [cell_of_row w g (0 + i) cur _ _ hh]
    have := congrArg (fun x => x[i]?) ht
    simp only [List.getElem?_take, Nat.mul_one, hi, if_true, List.getElem?_map] at this
    rw [Nat.zero_add, ← Array.getElem?_toList, this]
    simp [nth, hi]
theorem Own.nil (B : Nat) (w : World) : Own B w (.slice none 0 0) [] := World.ownsRow_nil w B _ 1
/-- The shape of a slice that is not empty. -/
theorem Sl.shape {w : World} {v : Value} {l : List (BitVec 8)} (h : Sl w v l) (hl : l ≠ []) : ∃ b off cap, v = .slice (some ⟨b, off, none⟩) l.length cap ∧ l.length ≤ cap ∧ cap ≤ maxLen ∧ ∀ i, i < l.length → w.cell? ⟨b, off + i, none⟩ = some (U8 (nth l i)) := by
  obtain ⟨a, cap, rfl, hc, hm, _, hi⟩ := h
  have hp : 0 < l.length := List.length_pos_iff.2 hl
  obtain ⟨b, off, rfl, _⟩ := hi 0 hp
  refine ⟨b, off, cap, rfl, hc, hm, fun i h => ?_⟩
  obtain ⟨b', off', e, hcell⟩ := hi i h
  simp only [Option.some.injEq, Addr.mk.injEq] at e
  obtain ⟨rfl, rfl, _⟩ := e
  exact hcell
theorem Sl.len {w : World} {v : Value} {l : List (BitVec 8)} (h : Sl w v l) : ∃ a cap, v = .slice a l.length cap := by obtain ⟨a, cap, h, _⟩ := h; exact ⟨a, cap, h⟩
theorem Sl.mk {w : World} {b off len cap : Nat} {l : List (BitVec 8)} (hl : l.length = len) (hc : len ≤ cap) (hm : cap ≤ maxLen) (h : ∀ i, i < len → w.cell? ⟨b, off + i, none⟩ = some (U8 (nth l i))) : Sl w (.slice (some ⟨b, off, none⟩) len cap) l := by
  subst hl
  exact ⟨_, cap, rfl, hc, hm, fun h => (by cases h), fun i hi => ⟨b, off, rfl, h i hi⟩⟩
theorem Sl.below {w w' : World} {v : Value} {l : List (BitVec 8)} (h : Sl w v l) (hb : Below w.heap.size w w') : Sl w' v l := by
  obtain ⟨a, cap, rfl, hc, hm, hn, hi⟩ := h
  refine ⟨a, cap, rfl, hc, hm, hn, fun i h => ?_⟩
  obtain ⟨b, off, e, hcell⟩ := hi i h
  refine ⟨b, off, e, ?_⟩
  rw [hb.cell (World.block_lt_of_cell? w _ hcell)]; exact hcell
/-- What is changed lies elsewhere. -/
theorem Sl.same {w w' : World} {v : Value} {l : List (BitVec 8)} (h : Sl w v l) (hb : ∀ k, (l ≠ [] → v.ownBlock = some k) → w'.heap[k]? = w.heap[k]?) : Sl w' v l := by
  obtain ⟨a, cap, rfl, hc, hm, hn, hi⟩ := h
  refine ⟨a, cap, rfl, hc, hm, hn, fun i h => ?_⟩
  obtain ⟨b, off, rfl, hcell⟩ := hi i h
  refine ⟨b, off, rfl, ?_⟩
  rw [World.cell?_of_block (w := w) (w' := w') (hb b fun _ => rfl)]; exact hcell
theorem Sl.upto {w : World} {v : Value} {l : List (BitVec 8)} (h : Sl w v l) (hl : l ≠ []) : ∃ k, v.ownBlock = some k ∧ k < w.heap.size := by
  obtain ⟨b, off, cap, rfl, _, _, hi⟩ := h.shape hl
  exact ⟨b, rfl, World.block_lt_of_cell? w _ (hi 0 (List.length_pos_iff.2 hl))⟩

theorem Own.below {B : Nat} {w w' : World} {v : Value} {l : List (BitVec 8)} (h : Own B w v l) (hb : Below w.heap.size w w') : Own B w' v l := by
  obtain ⟨h1, h2⟩ := h
  refine ⟨h1, ?_⟩
  rcases h2 with h2 | ⟨g, cap, cur, rfl, hg, hh, r⟩
  · exact Or.inl h2
  · exact Or.inr ⟨g, cap, cur, rfl, hg, by rw [hb.block g (Array.getElem?_eq_some_iff.1 hh).1]; exact hh, r⟩
theorem Own.mono {B B' : Nat} {w : World} {v : Value} {l : List (BitVec 8)} (h : Own B w v l) (hB : B' ≤ B) : Own B' w v l := by
  obtain ⟨h1, h2⟩ := h
  refine ⟨h1, ?_⟩
  rcases h2 with h2 | ⟨g, cap, cur, rfl, hg, hh, r⟩
  · exact Or.inl h2
  · exact Or.inr ⟨g, cap, cur, rfl, Nat.le_trans hB hg, hh, r⟩
theorem Has.grown {w w' : World} {b : Nat} {cs : Array Value} {t : TypeId} {row : Option Nat} (h : Has w b cs t) (hg : w.grownBy w' row) (hb : some b ≠ row) : Has w' b cs t := by
  have := h.lt; unfold Has at *; rw [hg.block b this hb]; exact h
theorem Sl.grown {w w' : World} {v : Value} {l : List (BitVec 8)} {row : Option Nat} (h : Sl w v l) (hg : w.grownBy w' row) (hb : l ≠ [] → v.ownBlock ≠ row) : Sl w' v l := by
  by_cases hl : l = []
  · subst hl
    obtain ⟨a, cap, rfl, hc, hm, hn, hi⟩ := h
    exact ⟨a, cap, rfl, hc, hm, hn, fun i h => absurd h (by simp)⟩
  · obtain ⟨k, hk, hk2⟩ := h.upto hl
    refine h.same fun j hj => ?_
    have : j = k := by have := hj hl; rw [hk] at this; simpa using this.symm
    subst this
    exact hg.block j hk2 (by rw [← hk]; exact hb hl)

/-- Bytes appended to a slice that the call owns. -/
theorem wpList_append8 {P : Program} (w : World) {ops : Array Oper} {rest : List Oper} {o : Oper} {a : Act} {Q : Exit → Act → World → Prop} (hgd : o.guard = none) (s x : Operand) (t : TypeId)
    (ho : o.op = .call { callee := .builtin .append, args := #[s, x], argTypes := #[t, t] }) (B : Nat) (ht : P.underlying t = some (.slice 5)) (hi : (P.info? 5).map (fun i => (i.zero, i.size, i.bytes)) = some (some (.int .u8 0), 1, 1))
    (v : Value) (l m : List (BitVec 8)) (hs : a.eval s = v) (hown : Own B w v l) (u : Value) (hx : a.eval x = u) (hu : Sl w u m) (h46 : l.length + m.length ≤ 70368744177664) (hB : B ≤ w.heap.size)
    (h : ∀ v' w', Own B w' v' (l ++ m) → w.grownBy w' v.ownBlock → wpList P ops Q rest (a.put o.dst v') w') : wpList P ops Q (o :: rest) a w := by
  obtain ⟨i0, hi0, hz0, hz1, hz2⟩ := info_parts hi
  obtain ⟨ad, cap, rfl, hc, hm, hn, hcell⟩ := hu
  cases ad with
  | none =>
    obtain rfl := hn rfl
    have hm0 : m.length = 0 := by omega
    obtain rfl : m = [] := List.length_eq_zero_iff.1 hm0
    refine wpList_append_own_none hgd s x t ho B 5 i0 1 ht hi0 v l.length (l.map U8) hs hown hx ?_
    exact h v w (by simpa using hown) ⟨rfl, rfl, rfl, Nat.le_refl _, fun _ _ _ => rfl⟩
  | some p =>
    refine wpList_append_own w hgd s x t ho B 5 i0 (.int .u8 0) 1 1 ht hi0 hz0 hz1 hz2 rfl (by decide) v l.length (l.map U8) hs hown p m.length cap (m.map U8) hx (by simp) ?_ ?_ (by unfold maxLen; omega) (by omega) hB ?_
    · intro j y hy
      rw [List.getElem?_map] at hy
      obtain ⟨z, hz, rfl⟩ := Option.map_eq_some_iff.1 hy
      have hj : j < m.length := (List.getElem?_eq_some_iff.1 hz).1
      obtain ⟨b, off, e, hc2⟩ := hcell j hj
      obtain rfl := Option.some.inj e
      rw [addr_mid, hc2]
      simp [nth, hz]
    · intro y hy
      obtain ⟨z, _, rfl⟩ := List.mem_map.1 hy
      rfl
    · intro v' w' hown' hg _
      exact h v' w' (by unfold Own; rw [List.length_append, List.map_append]; exact hown') hg
/-- The same as a law on the operation's run. -/
theorem run_append8 {P : Program} (w : World) (t ty : TypeId) (B : Nat) (ht : P.underlying t = some (.slice 5)) (hi : (P.info? 5).map (fun i => (i.zero, i.size, i.bytes)) = some (some (.int .u8 0), 1, 1))
    (v : Value) (l m : List (BitVec 8)) (hown : Own B w v l) (u : Value) (hu : Sl w u m) (h46 : l.length + m.length ≤ 70368744177664) (hB : B ≤ w.heap.size) :
    ∃ v' w', (Builtin.append_ #[t, t] ty #[v, u]).run P w = .ok v' w' ∧ Own B w' v' (l ++ m) ∧ w.grownBy w' v.ownBlock := by
  obtain ⟨i0, hi0, hz0, hz1, hz2⟩ := info_parts hi
  obtain ⟨ad, cap, rfl, hc, hm, hn, hcell⟩ := hu
  cases ad with
  | none =>
    obtain rfl := hn rfl
    have hm0 : m.length = 0 := by omega
    obtain rfl : m = [] := List.length_eq_zero_iff.1 hm0
    exact ⟨v, w, run_append_owned_none w B t ty 5 i0 1 ht hi0 v l.length (l.map U8) hown, by simpa using hown, ⟨rfl, rfl, rfl, Nat.le_refl _, fun _ _ _ => rfl⟩⟩
  | some p =>
    obtain ⟨v', w', hr, ho, hg, _⟩ := run_append_own (P := P) w B t ty 5 i0 (.int .u8 0) 1 1 ht hi0 hz0 hz1 hz2 rfl (by decide) v l.length (l.map U8) hown p m.length cap (m.map U8) (by simp) (by
      intro j y hy
      rw [List.getElem?_map] at hy
      obtain ⟨z, hz, rfl⟩ := Option.map_eq_some_iff.1 hy
      have hj : j < m.length := (List.getElem?_eq_some_iff.1 hz).1
      obtain ⟨b, off, e, hc2⟩ := hcell j hj
      obtain rfl := Option.some.inj e
      rw [addr_mid, hc2]
      simp [nth, hz]) (by
      intro y hy
      obtain ⟨z, _, rfl⟩ := List.mem_map.1 hy
      rfl) (by unfold maxLen; omega) (by omega) hB
    exact ⟨v', w', hr, by unfold Own; rw [List.length_append, List.map_append]; exact ho, hg⟩
/-- .. as a step of a region that draws. -/
theorem step_append8 {P : Program} {ops : Array Oper} {o : Oper} {a : Act} {w : World} {K : Act → World → Prop} {Q : Exit → Act → World → Prop} {E : Prop}
    (hgd : o.guard = none) (s x : Operand) (t : TypeId) (hop : o.op = Op.call { callee := Callee.builtin Builtin.append, args := #[s, x], argTypes := #[t, t] }) (B : Nat) (ht : P.underlying t = some (.slice 5)) (hi : (P.info? 5).map (fun i => (i.zero, i.size, i.bytes)) = some (some (.int .u8 0), 1, 1))
    (v : Value) (l m : List (BitVec 8)) (hs : a.eval s = v) (hown : Own B w v l) (u : Value) (hx : a.eval x = u) (hu : Sl w u m) (h46 : l.length + m.length ≤ 70368744177664) (hB : B ≤ w.heap.size)
    (hK : ∀ v' w', Own B w' v' (l ++ m) → w.grownBy w' v.ownBlock → K (a.put o.dst v') w') :
    if Region.wanted o (yielded ops a.tmps) = true then Oper.wp P o a w K Q else E := by
  have hw : Region.wanted o (yielded ops a.tmps) = true := by simp [Region.wanted, hgd]
  rw [if_pos hw]
  obtain ⟨v', w', hrun, r1, r2⟩ := run_append8 (P := P) w t o.type B ht hi v l m hown u hu h46 hB
  unfold Oper.wp
  simp [execOp, hop, resolve, invoke, builtin, hs, hx, hrun, Result.andThen]
  exact hK v' w' r1 r2
/-- A slice that the call owns lies apart from any row of another kind. -/
theorem Own.apart {B : Nat} {w : World} {v : Value} {l : List (BitVec 8)} (h : Own B w v l) {b : Nat} {cs : Array Value} {t : TypeId} (hb : Has w b cs t) (ht : t ≠ 5) : some b ≠ v.ownBlock := by
  obtain ⟨_, h2⟩ := h
  rcases h2 with ⟨rfl, _⟩ | ⟨g, cap, cur, rfl, hg, hh, _⟩
  · simp [Value.ownBlock]
  · intro e
    simp only [Value.ownBlock, Option.some.injEq] at e
    subst e
    unfold Has at hb
    rw [hb] at hh
    simp only [Option.some.injEq, Obj.cells.injEq] at hh
    exact ht hh.2.1
theorem Own.from {B : Nat} {w : World} {v : Value} {l : List (BitVec 8)} (h : Own B w v l) : ∀ k, v.ownBlock = some k → B ≤ k := fun k hk => (World.ownsRow.lt h k hk).1
theorem Has.own {B : Nat} {w w' : World} {v : Value} {l : List (BitVec 8)} (h : Own B w v l) (hg : w.grownBy w' v.ownBlock) {b : Nat} {cs : Array Value} {t : TypeId} (hb : Has w b cs t) (ht : t ≠ 5) : Has w' b cs t := hb.grown hg (h.apart hb ht)
theorem below_own {B : Nat} {w0 w w' : World} {v : Value} {l : List (BitVec 8)} (hb : Below B w0 w) {B' : Nat} (h : Own B' w v l) (hB : B ≤ B') (hBw : B ≤ w.heap.size) (hg : w.grownBy w' v.ownBlock) : Below B w0 w' :=
  hb.grown hg hBw fun k hk => Nat.le_trans hB (h.from k hk)
theorem Sl.one {w : World} {g : Nat} {x : BitVec 8} {t : TypeId} (h : Has w g #[U8 x] t) : Sl w (.slice (some ⟨g, 0, none⟩) 1 1) [x] :=
  Sl.mk (l := [x]) rfl (Nat.le_refl _) (by unfold maxLen; omega) fun i hi => by
    obtain rfl : i = 0 := by omega
    rw [h.cell]; rfl
/-- Bytes, and whatever lies behind them. -/
def cellsT (l : List (BitVec 8)) (T : List Value) : Array Value := (l.map U8 ++ T).toArray
@[go_sem] theorem cellsT_get (l : List (BitVec 8)) (T : List Value) (i : Nat) (h : i < l.length) : (cellsT l T)[i]? = some (U8 (nth l i)) := by
  simp only [cellsT, List.getElem?_toArray]
  rw [List.getElem?_append_left (by simpa using h)]
  simp [nth, h]
@[go_sem] theorem cellsT_set (l : List (BitVec 8)) (T : List Value) (i : Nat) (v : BitVec 8) (h : i < l.length) : (cellsT l T).setIfInBounds i (U8 v) = cellsT (put l i v) T := by
  simp [cellsT, put, List.map_set, h]
theorem Own.made0 {B : Nat} {w : World} {g : Nat} (hg : B ≤ g) (h : Has w g #[] 5) : Own B w (.slice (some ⟨g, 0, none⟩) 0 0) [] :=
  ⟨rfl, .inr ⟨g, 0, #[], rfl, hg, h, Nat.le_refl _, by unfold maxLen; omega, rfl, rfl⟩⟩
/-- What a slice that the call owns looks like. -/
theorem Own.shape {B : Nat} {w : World} {v : Value} {l : List (BitVec 8)} (h : Own B w v l) (hl : l ≠ []) : ∃ g cap T, v = .slice (some ⟨g, 0, none⟩) l.length cap ∧ B ≤ g ∧ Has w g (cellsT l T) 5 ∧ l.length ≤ cap ∧ cap ≤ maxLen ∧ l.length + T.length = cap := by
  obtain ⟨h1, h2⟩ := h
  rcases h2 with ⟨rfl, hn⟩ | ⟨g, cap, cur, rfl, hg, hh, hc, hm, hs, ht⟩
  · exact absurd (List.length_eq_zero_iff.1 hn) hl
  · refine ⟨g, cap, cur.toList.drop l.length, rfl, hg, ?_, hc, hm, ?_⟩
    · have e : cellsT l (cur.toList.drop l.length) = cur := by
        unfold cellsT
        rw [Nat.mul_one] at ht
        rw [← ht, List.take_append_drop]
      unfold Has; rw [e]; exact hh
    · have : cur.toList.length = cap := by simpa using hs
      rw [List.length_drop, this]; omega
theorem Own.mk {B : Nat} {w : World} {g cap : Nat} {l : List (BitVec 8)} {T : List Value} (hg : B ≤ g) (h : Has w g (cellsT l T) 5) (hm : cap ≤ maxLen) (hc : l.length + T.length = cap) : Own B w (.slice (some ⟨g, 0, none⟩) l.length cap) l := by
  refine ⟨by simp, .inr ⟨g, cap, cellsT l T, rfl, hg, h, by omega, hm, by simp [cellsT]; omega, ?_⟩⟩
  simp [cellsT]
theorem info8 : (Try.prog.info? 5).map (fun i => (i.zero, i.size, i.bytes)) = some (some (.int .u8 0), 1, 1) := by kernel_rfl
end Go.Proofs.Ytigdadgdeiaodaa
/- Opening the given arguments of a law: slices of bytes, arrays of bytes, words. -/
namespace Go.Proofs.Ytigdadgdeiaodaa
open Go.ChangeShapes Go.WideShapes Go.ChangeAt Go.RowKit

theorem int_u8 {n : Int} (h : (Lit.int .u8 n).wf = true) : (.int .u8 n : Value) = U8 (BitVec.ofInt 8 n) := by
  simp only [Lit.wf, Bool.and_eq_true, decide_eq_true_eq] at h
  have h1 : (0 : Int) ≤ n := h.1
  have h2 : n ≤ 255 := h.2
  show Value.int .u8 n = Value.int .u8 (tn (BitVec.ofInt 8 n))
  congr 1
  unfold tn
  rw [BitVec.toNat_ofInt]
  omega
theorem int_u32 {n : Int} (h : (Lit.int .u32 n).wf = true) : (.int .u32 n : Value) = U32 (BitVec.ofInt 32 n) := by
  simp only [Lit.wf, Bool.and_eq_true, decide_eq_true_eq] at h
  have h1 : (0 : Int) ≤ n := h.1
  have h2 : n ≤ 4294967295 := h.2
  show Value.int .u32 n = Value.int .u32 (tn (BitVec.ofInt 32 n))
  congr 1
  unfold tn
  rw [BitVec.toNat_ofInt]
  omega
theorem int_u64 {n : Int} (h : (Lit.int .u64 n).wf = true) : (.int .u64 n : Value) = U64 (BitVec.ofInt 64 n) := by
  simp only [Lit.wf, Bool.and_eq_true, decide_eq_true_eq] at h
  have h1 : (0 : Int) ≤ n := h.1
  have h2 : n ≤ 18446744073709551615 := h.2
  show Value.int .u64 n = Value.int .u64 (tn (BitVec.ofInt 64 n))
  congr 1
  unfold tn
  rw [BitVec.toNat_ofInt]
  omega
/-- The number of a cell, as a byte. -/
def byteOf : Value → BitVec 8
  | .int _ n => BitVec.ofInt 8 n
  | _ => 0
section
variable {H : Type} {enc : TypeId × Value → H} {P : Program} {w : World} {base : Nat} {spare : Nat → Bool} {held : Bool}
theorem okWide_array {r : Reach} {b0 : Nat} {t e : TypeId} {n : Nat} {v : Value} (ht : P.underlying t = some (.array n e)) (h : Value.okWide P w r b0 t v) : ∃ cs, v = .agg cs ∧ cs.size = P.cellsOf t := by
  simp only [Value.okWide, ht] at h
  obtain ⟨cs, h1, h2, _⟩ := h
  exact ⟨cs, h1, h2⟩
/-- An array of bytes, opened. -/
theorem open_bytes {r : Reach} {b0 : Nat} {t e : TypeId} {n : Nat} {v : Value} {d : DataW H} {ps : List MemPlace} (ht : P.underlying t = some (.array n e)) (he : P.underlying e = some (.int .u8)) (hc : P.cellsOf e = 1) (hct : P.cellsOf t = n)
    (hval : Value.okWide P w r b0 t v) (hd : DataW.Trod enc P w base spare held t v d ps) : ∃ l : List (BitVec 8), v = .agg (cells U8 l) ∧ l.length = n := by
  obtain ⟨cs, rfl, hs⟩ := okWide_array ht hval
  obtain ⟨fuel, hf⟩ := hd
  obtain ⟨xs, m, _, _, _, hx, hi⟩ := DataW.trod_array ht hf
  refine ⟨cs.toList.map byteOf, ?_, by simp [hs, hct]⟩
  congr 1
  apply Array.ext
  · simp [cells]
  · intro i h1 h2
    have hin : i < n := by omega
    have h := hi i hin
    rw [List.getElem?_eq_getElem (by omega)] at h
    obtain ⟨z, hz, _, hw⟩ := DataW.trod_int he h
    have hv : cs[i] = .int .u8 z := by
      rw [hc, Nat.mul_one] at hz
      have : ((cs.toList.drop i).take 1)[0]? = some (.int .u8 z) := by
        have hz' : ((cs.toList.drop i).take 1) = [.int .u8 z] := hz
        rw [hz']; rfl
      simp [List.getElem?_drop] at this
      have h3 := Array.getElem?_eq_some_iff.1 this
      exact h3.2
    simp only [cells, List.getElem_toArray, List.getElem_map, Array.getElem_toList]
    rw [hv]
    exact int_u8 hw
/-- A slice of bytes, opened. -/
theorem open_sl {r : Reach} {b0 : Nat} {t e : TypeId} {v : Value} {d : DataW H} {ps : List MemPlace} (ht : P.underlying t = some (.slice e)) (he : P.underlying e = some (.int .u8)) (hc : P.cellsOf e = 1)
    (hval : Value.okWide P w r b0 t v) (hd : DataW.Trod enc P w base spare held t v d ps) : ∃ l : List (BitVec 8), Sl w v l := by
  obtain ⟨a0, len0, cap0, rfl⟩ := okWide_slice ht hval
  obtain ⟨fuel, hf⟩ := hd
  rcases open_ints ht he hc hf with ⟨hcs, _⟩ | ⟨x, len, c, zs, hcs, _, hl, hm, hz, _, hcell, hwz⟩
  · simp [Value.cells] at hcs
    obtain ⟨rfl, rfl, rfl⟩ := hcs
    exact ⟨[], Sl.nil w⟩
  · simp [Value.cells] at hcs
    obtain ⟨rfl, rfl, rfl⟩ := hcs
    have hzl : len0 ≤ zs.length := by rw [hz]; split <;> omega
    have hlen : ((zs.take len0).map (BitVec.ofInt 8)).length = len0 := by simp; omega
    refine ⟨(zs.take len0).map (BitVec.ofInt 8), some x, cap0, by rw [hlen], by rw [hlen]; exact hl, hm, (fun h => by cases h), fun i hi => ?_⟩
    rw [hlen] at hi
    obtain ⟨b, off, spot⟩ := x
    have hc0 := hcell i (by omega)
    have hspot : spot = none := by
      have h0 := hcell 0 (by omega)
      simpa [Addr.add] using World.cell?_spot h0
    subst hspot
    refine ⟨b, off, rfl, ?_⟩
    have e1 : (⟨b, off, none⟩ : Addr).add i = ⟨b, off + i, none⟩ := addr_mid b off i
    rw [e1] at hc0
    rw [hc0, int_u8 (hwz _ (by rw [List.getD_eq_getElem?_getD, List.getElem?_eq_getElem (by omega)]; exact List.getElem_mem _))]
    congr 2
    rw [nth_eq _ _ (by rw [hlen]; exact hi)]
    have hi2 : i < zs.length := by omega
    simp [hi2]
theorem open_u8 {r : Reach} {b0 : Nat} {t : TypeId} {v : Value} {d : DataW H} {ps : List MemPlace} (ht : P.underlying t = some (.int .u8)) (hval : Value.okWide P w r b0 t v) (hd : DataW.Trod enc P w base spare held t v d ps) : ∃ c : BitVec 8, v = U8 c := by
  obtain ⟨n, rfl, _, _, hw⟩ := open_int ht hval hd
  exact ⟨_, int_u8 hw⟩
theorem open_u32 {r : Reach} {b0 : Nat} {t : TypeId} {v : Value} {d : DataW H} {ps : List MemPlace} (ht : P.underlying t = some (.int .u32)) (hval : Value.okWide P w r b0 t v) (hd : DataW.Trod enc P w base spare held t v d ps) : ∃ c : BitVec 32, v = U32 c := by
  obtain ⟨n, rfl, _, _, hw⟩ := open_int ht hval hd
  exact ⟨_, int_u32 hw⟩
theorem open_u64 {r : Reach} {b0 : Nat} {t : TypeId} {v : Value} {d : DataW H} {ps : List MemPlace} (ht : P.underlying t = some (.int .u64)) (hval : Value.okWide P w r b0 t v) (hd : DataW.Trod enc P w base spare held t v d ps) : ∃ c : BitVec 64, v = U64 c := by
  obtain ⟨n, rfl, _, _, hw⟩ := open_int ht hval hd
  exact ⟨_, int_u64 hw⟩
theorem open_i64 {r : Reach} {b0 : Nat} {t : TypeId} {v : Value} {d : DataW H} {ps : List MemPlace} (ht : P.underlying t = some (.int .i64)) (hval : Value.okWide P w r b0 t v) (hd : DataW.Trod enc P w base spare held t v d ps) :
    ∃ n : Int, v = .int .i64 n ∧ (Lit.int .i64 n).wf = true := by
  obtain ⟨n, rfl, _, _, hw⟩ := open_int ht hval hd
  exact ⟨n, rfl, hw⟩
end
end Go.Proofs.Ytigdadgdeiaodaa
/- Abstract data: the given arguments of a law as rows; a law's answer told of the machine. -/
namespace Go.Proofs.Ytigdadgdeiaodaa
open Go.ChangeShapes Go.WideShapes Go.ChangeAt Go.RowKit
/-- A slice of bytes that may be looked at, with the place that it has. -/
def SlR (w : World) (v : Value) (l : List (BitVec 8)) : Prop :=
  ∃ a cap, v = .slice a l.length cap ∧ l.length ≤ cap ∧ cap ≤ maxLen ∧ (cap = 0 ∨ ∃ b off cs t fr, a = some ⟨b, off, none⟩ ∧ w.heap[b]? = some (.cells cs t fr) ∧ ∀ i, i < l.length → cs[off + i]? = some (U8 (nth l i)))
section
variable {H : Type} {enc : TypeId × Value → H} {P : Program} {w : World} {base : Nat} {held : Bool}
theorem open_slR {r : Reach} {b0 : Nat} {t e : TypeId} {v : Value} {d : DataW H} {ps : List MemPlace} (ht : P.underlying t = some (.slice e)) (he : P.underlying e = some (.int .u8)) (hc : P.cellsOf e = 1)
    (hval : Value.okWide P w r b0 t v) (hd : DataW.Trod enc P w base (fun _ => true) held t v d ps) : ∃ l : List (BitVec 8), SlR w v l := by
  obtain ⟨a0, len0, cap0, rfl⟩ := okWide_slice ht hval
  obtain ⟨fuel, hf⟩ := hd
  rcases open_ints ht he hc hf with ⟨hcs, _⟩ | ⟨x, len, c, zs, hcs, _, hl, hm, hz, _, hcell, hwz⟩
  · simp [Value.cells] at hcs
    obtain ⟨rfl, rfl, rfl⟩ := hcs
    exact ⟨[], none, 0, rfl, Nat.le_refl _, by unfold maxLen; omega, .inl rfl⟩
  · simp [Value.cells] at hcs
    obtain ⟨rfl, rfl, rfl⟩ := hcs
    rw [if_pos rfl] at hz
    have hlen : ((zs.take len0).map (BitVec.ofInt 8)).length = len0 := by simp; omega
    refine ⟨(zs.take len0).map (BitVec.ofInt 8), some x, cap0, by rw [hlen], by rw [hlen]; exact hl, hm, ?_⟩
    rcases Nat.eq_zero_or_pos cap0 with h0 | h0
    · exact .inl h0
    · right
      obtain ⟨b, off, spot⟩ := x
      have hspot : spot = none := by
        have h1 := hcell 0 (by omega)
        simpa [Addr.add] using World.cell?_spot h1
      subst hspot
      have at_ : ∀ i, i < cap0 → w.cell? ⟨b, off + i, none⟩ = some (.int .u8 (zs.getD i 0)) := fun i hi => by
        have h1 := hcell i (by omega)
        rwa [show (⟨b, off, none⟩ : Addr).add i = ⟨b, off + i, none⟩ from addr_mid b off i] at h1
      have h1 := at_ 0 h0
      unfold World.cell? at h1
      split at h1
      · rename_i cs t fr hh
        refine ⟨b, off, cs, t, fr, rfl, hh, fun i hi => ?_⟩
        rw [hlen] at hi
        have h2 := at_ i (by omega)
        unfold World.cell? at h2
        simp only [hh] at h2
        rw [show cs[off + i]? = some (.int .u8 (zs.getD i 0)) by simpa using h2, int_u8 (hwz _ (by rw [List.getD_eq_getElem?_getD, List.getElem?_eq_getElem (by omega)]; exact List.getElem_mem _))]
        congr 2
        rw [nth_eq _ _ (by rw [hlen]; exact hi)]
        have hi2 : i < zs.length := by omega
        simp [hi2]
      · cases h1
end
def locOf : Value → Option Loc
  | .slice (some a) _ cap => if cap = 0 then none else some ⟨a.block, a.off, cap⟩
  | _ => none
def openEmb (us : List (Value × List (BitVec 8))) : Emb := fun i => (us[i]?).bind fun p => locOf p.1
def openMem (us : List (Value × List (BitVec 8))) : Mem := us.map fun p => .row false (.a8 p.2)
theorem open_R {us : List (Value × List (BitVec 8))} {w : World} (h : ∀ p ∈ us, SlR w p.1 p.2) : R (openEmb us) (openMem us) w := by
  have row : ∀ {b : Nat} {own : Bool} {x : Arr}, (openMem us)[b]? = some (.row own x) → ∃ p, us[b]? = some p ∧ own = false ∧ x = .a8 p.2 := fun {b own x} hb => by
    unfold openMem at hb
    rw [List.getElem?_map] at hb
    obtain ⟨p, hp, e⟩ := Option.map_eq_some_iff.1 hb
    cases e
    exact ⟨p, hp, rfl, rfl⟩
  refine ⟨fun b hb => ?_, fun b l own x h1 h2 => ?_, fun b b' l l' own own' x x' _ _ _ k1 k2 ho => ?_⟩
  · unfold openEmb
    rw [List.getElem?_eq_none (by simpa [openMem] using hb)]; rfl
  · obtain ⟨p, hp, rfl, rfl⟩ := row h2
    obtain ⟨a, cap, hv, hl, _, hs⟩ := h p (List.mem_of_getElem? hp)
    unfold openEmb at h1
    rw [hp] at h1
    simp only [Option.bind_some, hv] at h1
    cases a with
    | none => cases h1
    | some a =>
      simp only [locOf] at h1
      split at h1
      · cases h1
      · rename_i hc
        cases h1
        rcases hs with hs | ⟨b1, off, cs, t, fr, ha, hh, hcell⟩
        · exact absurd hs hc
        · cases ha
          exact ⟨cs, t, fr, hh, hl, fun i hi => ⟨_, hcell i hi, rfl⟩, fun h => by cases h⟩
  · obtain ⟨_, _, rfl, _⟩ := row k1
    obtain ⟨_, _, rfl, _⟩ := row k2
    rcases ho with h | h <;> cases h
theorem open_rel {us : List (Value × List (BitVec 8))} {w : World} {i : Nat} {u : Value} {l : List (BitVec 8)} (hi : us[i]? = some (u, l)) (h : SlR w u l) : (AV.c (.sl i 0 l.length l.length 1)).rel (openEmb us) u := by
  obtain ⟨a, cap, rfl, hl, _, hs⟩ := h
  refine ⟨a, cap, rfl, hl, hl, ?_⟩
  rcases hs with hs | ⟨b1, off, cs, t, fr, rfl, hh, hcell⟩
  · exact .inl hs
  · by_cases hc : cap = 0
    · exact .inl hc
    · refine .inr ⟨⟨b1, off, cap⟩, ?_, rfl, by simp⟩
      unfold openEmb
      rw [hi]
      simp [locOf, hc]
theorem rel_bytes (ι : Emb) (l : List (BitVec 8)) : (AV.agg (.a8 l)).rel ι (.agg (cells U8 l)) := by
  refine ⟨cells U8 l, rfl, by simp [cells, Arr.size], fun i hi => ⟨U8 (nth l i), ?_, rfl⟩⟩
  have hi' : i < l.length := hi
  rw [Nat.zero_add, nth_eq l i hi']
  simp [cells, hi']
/-- A law's answer. -/
theorem law_calls {P : Program} {f : FuncId} {args : List AV} {m m' : Mem} {ι : Emb} {w : World} {vs : Array Value} (h : Ev P (.call f args m) (.val (.c (.val (.bool true))) m')) (hR : R ι m w) (ha : ArgsRel ι args vs.toList) (hro : ∀ c, ¬ Owned ι m c) :
    Calls P f vs w fun e w' => e = .returned (.bool true) ∧ Below w.heap.size w w' := by
  refine (sound h ι w vs hR ha).mono fun e w' hq => ?_
  obtain ⟨u, ι', rfl, hv, hs⟩ := hq
  have hu : u = .bool true := hv
  subst hu
  exact ⟨rfl, hs.trans.os, hs.trans.tape, hs.trans.output, hs.trans.size, fun c hc => hs.trans.keep c hc (hro c)⟩
theorem open_none {us : List (Value × List (BitVec 8))} {c : Nat} : ¬ Owned (openEmb us) (openMem us) c := by
  rintro ⟨b, l, x, _, h, _⟩
  unfold openMem at h
  rw [List.getElem?_map] at h
  obtain ⟨p, _, e⟩ := Option.map_eq_some_iff.1 h
  cases e
end Go.Proofs.Ytigdadgdeiaodaa
