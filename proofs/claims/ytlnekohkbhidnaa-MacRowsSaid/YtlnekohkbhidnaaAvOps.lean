/- Abstract data: the operations that leave memory as it is. -/
import Derived.Test.YtlnekohkbhidnaaAv
namespace Go.Proofs.Ytlnekohkbhidnaa
open Go.RowKit

/-- One more step: what was pinned (the first k places) stays where it is. -/
structure Step (k : Nat) (ι : Emb) (M : Mem) (w : World) (ι' : Emb) (M' : Mem) (w' : World) : Prop where
  r : R ι' M' w'
  trans : Trans ι M w ι' M' w'
  ext : ∀ b, b < k → ι' b = ι b
  len : k ≤ M'.length
  ro : ∀ b x, b < k → M[b]? = some (.row false x) → M'[b]? = some (.row false x)
  old : ∀ b own x, b < k → M'[b]? = some (.row own x) → ∃ x0, M[b]? = some (.row own x0)
  news : ∀ b l own x, k ≤ b → ι' b = some l → M'[b]? = some (.row own x) → w.heap.size ≤ l.c ∨ Owned ι M l.c ∨ ∃ b0 l0 o0 x0, k ≤ b0 ∧ ι b0 = some l0 ∧ M[b0]? = some (.row o0 x0) ∧ l0.c = l.c
theorem Step.refl {k : Nat} {ι : Emb} {M : Mem} {w : World} (h : R ι M w) (hk : k ≤ M.length) : Step k ι M w ι M w :=
  ⟨h, Trans.refl _ _ _, fun _ _ => rfl, hk, fun _ _ _ h => h, fun _ _ x _ h => ⟨x, h⟩, fun b l own x hb h1 h2 => .inr (.inr ⟨b, l, own, x, hb, h1, h2, rfl⟩)⟩
theorem Step.comp {k : Nat} {ι ι1 ι2 : Emb} {M M1 M2 : Mem} {w w1 w2 : World} (h : Step k ι M w ι1 M1 w1) (g : Step k ι1 M1 w1 ι2 M2 w2) : Step k ι M w ι2 M2 w2 := by
  refine ⟨g.r, h.trans.trans g.trans, fun b hb => (g.ext b hb).trans (h.ext b hb), g.len, fun b x hb hm => g.ro b x hb (h.ro b x hb hm), fun b own x hb hm => ?_, fun b l own x hb h1 h2 => ?_⟩
  · obtain ⟨x1, hx1⟩ := g.old b own x hb hm
    exact h.old b own x1 hb hx1
  · rcases g.news b l own x hb h1 h2 with h3 | h3 | ⟨b0, l0, o0, x0, hb0, h4, h5, h6⟩
    · exact .inl (Nat.le_trans h.trans.size h3)
    · rcases h.trans.fresh _ h3 with h4 | h4
      · exact .inl h4
      · exact .inr (.inl h4)
    · rw [← h6]
      exact h.news b0 l0 o0 x0 hb0 h4 h5
theorem Step.low {k k' : Nat} {ι ι1 : Emb} {M M1 : Mem} {w w1 : World} (h : Step k ι M w ι1 M1 w1) (hk : k' ≤ k) : Step k' ι M w ι1 M1 w1 := by
  refine ⟨h.r, h.trans, fun b hb => h.ext b (Nat.lt_of_lt_of_le hb hk), Nat.le_trans hk h.len, fun b x hb hm => h.ro b x (Nat.lt_of_lt_of_le hb hk) hm, fun b own x hb hm => h.old b own x (Nat.lt_of_lt_of_le hb hk) hm, fun b l own x hb h1 h2 => ?_⟩
  by_cases hbk : b < k
  · obtain ⟨x0, hx0⟩ := h.old b own x hbk h2
    exact .inr (.inr ⟨b, l, own, x0, hb, by rw [← h.ext b hbk]; exact h1, hx0, rfl⟩)
  · rcases h.news b l own x (by omega) h1 h2 with h3 | h3 | ⟨b0, l0, o0, x0, hb0, r⟩
    · exact .inl h3
    · exact .inr (.inl h3)
    · exact .inr (.inr ⟨b0, l0, o0, x0, Nat.le_trans hk hb0, r⟩)
theorem no_row {M : Mem} {b : Nat} {own : Bool} {x : Arr} (hb : M.length ≤ b) (h : M[b]? = some (.row own x)) : False := by
  rw [List.getElem?_eq_none hb] at h; cases h
theorem Step.le {ι ι1 : Emb} {M M1 : Mem} {w w1 : World} (h : Step M.length ι M w ι1 M1 w1) (hr : R ι M w) : ι.le ι1 := fun b l hb => by
  by_cases hk : b < M.length
  · rw [h.ext b hk]; exact hb
  · rw [hr.dom b (by omega)] at hb; cases hb

/-! ### Values of the program's text -/
def all? {α : Type} (f : Value → Option α) : List Value → Option (List α)
  | [] => some []
  | v :: l => match f v, all? f l with | some x, some m => some (x :: m) | _, _ => none
theorem all?_spec {α : Type} {f : Value → Option α} : ∀ {l : List Value} {m : List α}, all? f l = some m → l.length = m.length ∧ ∀ (i : Nat) (v : Value), l[i]? = some v → ∃ x, m[i]? = some x ∧ f v = some x
  | [], m, h => by simp only [all?, Option.some.injEq] at h; subst h; exact ⟨rfl, fun i v h => by simp at h⟩
  | u :: l, m, h => by
    unfold all? at h
    split at h
    · rename_i x m' hx hm
      cases h
      obtain ⟨h1, h2⟩ := all?_spec hm
      refine ⟨by simp [h1], fun i v hv => ?_⟩
      cases i with
      | zero => simp at hv; subst hv; exact ⟨x, by simp, hx⟩
      | succ i => simpa using h2 i v (by simpa using hv)
    · cases h
def absCell : Value → Cell
  | .slice none 0 0 => .nsl
  | v => .val v
theorem absCell_rel (ι : Emb) (v : Value) : (absCell v).rel ι v := by
  unfold absCell; split <;> simp [Cell.rel]
def absArr (vs : List Value) : Arr :=
  match all? w8? vs with
  | some l => .a8 l
  | none => match all? w32? vs with
    | some l => .a32 l
    | none => match all? w64? vs with
      | some l => .a64 l
      | none => match all? i? vs with
        | some l => .ai l
        | none => .ac (vs.map absCell)
theorem absArr_rel (ι : Emb) (vs : List Value) : (absArr vs).size = vs.length ∧ ∀ (i : Nat) (v : Value), vs[i]? = some v → ((absArr vs).get i).rel ι v := by
  unfold absArr
  split
  · rename_i l h
    obtain ⟨h1, h2⟩ := all?_spec h
    refine ⟨h1.symm, fun i v hv => ?_⟩
    obtain ⟨x, hx, hf⟩ := h2 i v hv
    simp [Arr.get, Cell.rel, nth, hx, w8?_some hf]
  · split
    · rename_i l h
      obtain ⟨h1, h2⟩ := all?_spec h
      refine ⟨h1.symm, fun i v hv => ?_⟩
      obtain ⟨x, hx, hf⟩ := h2 i v hv
      simp [Arr.get, Cell.rel, nth, hx, w32?_some hf]
    · split
      · rename_i l h
        obtain ⟨h1, h2⟩ := all?_spec h
        refine ⟨h1.symm, fun i v hv => ?_⟩
        obtain ⟨x, hx, hf⟩ := h2 i v hv
        simp [Arr.get, Cell.rel, nth, hx, w64?_some hf]
      · split
        · rename_i l h
          obtain ⟨h1, h2⟩ := all?_spec h
          refine ⟨h1.symm, fun i v hv => ?_⟩
          obtain ⟨x, hx, hf⟩ := h2 i v hv
          simp [Arr.get, Cell.rel, geti, hx, i?_some hf]
        · refine ⟨by simp [Arr.size], fun i v hv => ?_⟩
          simp only [Arr.get, getc, List.getD_eq_getElem?_getD, List.getElem?_map, hv, Option.map_some, Option.getD_some]
          exact absCell_rel ι v
theorem absArr_at (ι : Emb) (cs : Array Value) : (absArr cs.toList).relAt ι cs 0 := fun i hi => by
  have hi' : i < cs.size := by rw [(absArr_rel ι cs.toList).1] at hi; simpa using hi
  exact ⟨cs[i], by simp [hi'], (absArr_rel ι cs.toList).2 i _ (by simp [hi'])⟩
def absV : Value → AV
  | .slice none 0 0 => .c .nsl
  | .agg cs => .agg (absArr cs.toList)
  | v => .c (.val v)
theorem absV_rel (ι : Emb) (v : Value) : (absV v).rel0 ι v := by
  unfold absV; split
  · rfl
  · rename_i cs
    exact ⟨cs, rfl, by rw [(absArr_rel ι cs.toList).1]; simp, absArr_at ι cs⟩
  · rfl
def opnd (t : Nat → AV) : Operand → AV
  | .tmp i => t i
  | .const v => absV v
  | .global _ => .c .any
  | .func f => .c (.val (.func (.func f) #[] #[]))

/-! ### Types -/
def isRowT (P : Program) (t : TypeId) : Option Bool :=
  match P.underlying t with
  | some (.array ..) | some (.struct ..) => some true
  | some _ => some false
  | none => none
def szT (P : Program) (t : TypeId) : Option Nat := (P.info? t).map (·.size)
theorem run_isAgg {P : Program} {t : TypeId} {b : Bool} (h : isRowT P t = some b) (w : World) : (isAgg t).run P w = .ok b w := by
  unfold isRowT at h
  cases hu : P.underlying t with
  | none => rw [hu] at h; cases h
  | some d =>
    rw [hu] at h
    simp only [isAgg, Sem.run_bind, run_underlying hu, Result.andThen_ok]
    cases d <;> simp_all
theorem run_sizeT {P : Program} {t : TypeId} {n : Nat} (h : szT P t = some n) (w : World) : (sizeOf t).run P w = .ok n w := by
  unfold szT at h
  obtain ⟨i, hi, rfl⟩ := Option.map_eq_some_iff.1 h
  simp only [sizeOf, typeInfo, Sem.run_bind, run_program, Result.andThen_ok, hi, Sem.run_pure]

theorem addr_at (b o j : Nat) : (⟨b, o, none⟩ : Addr).add j = ⟨b, o + j, none⟩ := Addr.add_mid b o j

/-! ### Parts -/
def winA (y : Arr) (o n : Nat) : Arr := if o = 0 ∧ n = y.size then y else y.win o n
theorem winA_size {y : Arr} {o n : Nat} (h : o + n ≤ y.size) : (winA y o n).size = n := by
  unfold winA; split
  · rename_i h; exact h.2.symm
  · rw [Arr.win_size]; omega
theorem winA_get {y : Arr} {o n i : Nat} (hi : i < n) : (winA y o n).get i = y.get (o + i) := by
  unfold winA; split
  · rename_i h; rw [h.1, Nat.zero_add]
  · exact Arr.win_get y o n i hi
def partA (P : Program) (t : TypeId) (y : Arr) (o : Nat) : Option AV :=
  match isRowT P t with
  | some true => match szT P t with
    | some n => if 0 < n ∧ o + n ≤ y.size then some (.agg (winA y o n)) else none
    | none => none
  | some false => if o < y.size then some (.c (y.get o)) else none
  | none => none
theorem partA_read {P : Program} {t : TypeId} {y : Arr} {o : Nat} {v : AV} (h : partA P t y o = some v) {ι : Emb} {cs : Array Value} {off : Nat} (hr : y.relAt ι cs off) :
    (isRowT P t = some true ∧ ∃ n, szT P t = some n ∧ off + o + n ≤ cs.size ∧ v.rel0 ι (.agg (cs.extract (off + o) (off + o + n)))) ∨ (isRowT P t = some false ∧ ∃ u, cs[off + o]? = some u ∧ v.rel0 ι u) := by
  unfold partA at h
  split at h
  · rename_i hrow
    split at h
    · rename_i n hn
      split at h
      · rename_i hle
        cases h
        have hsz : off + o + n ≤ cs.size := by
          obtain ⟨u, hu, _⟩ := hr (o + n - 1) (by omega)
          have := (Array.getElem?_eq_some_iff.1 hu).1
          omega
        refine .inl ⟨hrow, n, hn, hsz, _, rfl, ?_, fun i hi => ?_⟩
        · rw [winA_size hle.2]; simp; omega
        · rw [winA_size hle.2] at hi
          obtain ⟨u, hu, hru⟩ := hr (o + i) (by omega)
          refine ⟨u, ?_, by rw [winA_get hi]; exact hru⟩
          rw [Nat.zero_add, Array.getElem?_extract, if_pos (by omega), ← hu, Nat.add_assoc]
      · cases h
    · cases h
  · rename_i hrow
    split at h
    · rename_i hlt
      cases h
      obtain ⟨u, hu, hru⟩ := hr o hlt
      exact .inr ⟨hrow, u, hu, hru⟩
    · cases h
  · cases h
/-- The model's 'part' of an aggregate. -/
theorem run_part {P : Program} {t : TypeId} {y : Arr} {o : Nat} {v : AV} (h : partA P t y o = some v) {ι : Emb} {cs : Array Value} (hr : y.relAt ι cs 0) (w : World) :
    ∃ u, (part t cs o).run P w = .ok u w ∧ v.rel0 ι u := by
  rcases partA_read h hr with ⟨hrow, n, hn, _, hv⟩ | ⟨hrow, u, hu, hv⟩
  · refine ⟨_, ?_, hv⟩
    simp only [part, Sem.run_bind, run_isAgg hrow, Result.andThen_ok, if_true, run_sizeT hn, Sem.run_pure, Nat.zero_add]
  · refine ⟨u, ?_, hv⟩
    rw [Nat.zero_add] at hu
    simp [part, run_isAgg hrow, hu]
theorem cell_of {w : World} {c : Nat} {cs : Array Value} {t : TypeId} {fr : Nat × Nat} (h : w.heap[c]? = some (.cells cs t fr)) (i : Nat) : w.cell? ⟨c, i, none⟩ = cs[i]? := by
  simp [World.cell?, h]
/-- The model's reading of a variable. -/
theorem run_loadPart {P : Program} {t : TypeId} {y : Arr} {o : Nat} {v : AV} (h : partA P t y o = some v) {ι : Emb} {w : World} {c : Nat} {cs : Array Value} {t' : TypeId} {fr : Nat × Nat} {off : Nat}
    (hc : w.heap[c]? = some (.cells cs t' fr)) (hr : y.relAt ι cs off) : ∃ u, (loadVar t ⟨c, off + o, none⟩).run P w = .ok u w ∧ v.rel0 ι u := by
  rcases partA_read h hr with ⟨hrow, n, hn, hle, hv⟩ | ⟨hrow, u, hu, hv⟩
  · refine ⟨_, ?_, hv⟩
    have hl := run_loadCells_list (P := P) w ⟨c, off + o, none⟩ (cs.extract (off + o) (off + o + n)).toList (by
      intro j x hx
      rw [addr_at, cell_of hc]
      rw [Array.getElem?_toList, Array.getElem?_extract] at hx
      split at hx
      · exact hx
      · cases hx)
    have e : (cs.extract (off + o) (off + o + n)).toList.length = n := by simp; omega
    rw [e] at hl
    simp only [loadVar, Sem.run_bind, run_isAgg hrow, Result.andThen_ok, if_true, run_sizeT hn, hl, Sem.run_pure]
  · refine ⟨u, ?_, hv⟩
    have : w.cell? ⟨c, off + o, none⟩ = some u := by rw [cell_of hc]; exact hu
    simp [loadVar, run_isAgg hrow, load, Sem.run, this]
end Go.Proofs.Ytlnekohkbhidnaa
