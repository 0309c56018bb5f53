/- Memory: rows of cells in new blocks, rows rewritten, what stays. No function of the program in sight. -/
import Derived.Test.YtlnekohkbhidnaaWords
namespace Go.Proofs.Ytlnekohkbhidnaa
open Go.RowKit

theorem heap_alloc_if (w : World) (o : Obj) (i : Nat) : (w.alloc o).heap[i]? = if i = w.heap.size then some o else w.heap[i]? := by
  show (w.heap.push o)[i]? = _
  rw [Array.getElem?_push]
@[go_sem, simp] theorem setCell_drewN (w : World) (n : Nat) (a : Addr) (v : Value) : (w.drewN n).setCell a v = (w.setCell a v).drewN n := rfl
theorem size_alloc (w : World) (o : Obj) : (w.alloc o).heap.size = w.heap.size + 1 := by show (w.heap.push o).size = _; rw [Array.size_push]
theorem heap_setRow_if (w : World) (b : Nat) (cs : Array Value) (i : Nat) (h : i ≠ b) : (w.setRow b cs).heap[i]? = w.heap[i]? := by
  simp only [World.setRow, Array.getElem?_modify]; rw [if_neg (fun e => h e.symm)]
/-- A row of cells lies in block 'b'. -/
def Has (w : World) (b : Nat) (cs : Array Value) (t : TypeId) : Prop := w.heap[b]? = some (.cells cs t (0, 0))
theorem Has.lt {w : World} {b : Nat} {cs : Array Value} {t : TypeId} (h : Has w b cs t) : b < w.heap.size := (Array.getElem?_eq_some_iff.1 h).1
theorem Has.cell {w : World} {b : Nat} {cs : Array Value} {t : TypeId} (h : Has w b cs t) (i : Nat) : w.cell? ⟨b, i, none⟩ = cs[i]? := by
  unfold Has at h; simp [World.cell?, h]
theorem Has.frozen {w : World} {b : Nat} {cs : Array Value} {t : TypeId} (h : Has w b cs t) (i : Nat) : w.frozen? ⟨b, i, none⟩ = false := by
  unfold Has at h; simp [World.frozen?, h]
theorem Has.new (w : World) (cs : Array Value) (t : TypeId) : Has (w.alloc (.cells cs t)) w.heap.size cs t := by unfold Has; rw [heap_alloc_if, if_pos rfl]
theorem Has.made {w : World} {cs : Array Value} {t : TypeId} {n : Nat} (hn : n = w.heap.size) {c : Array Value} (hc : c = cs) : Has (w.alloc (.cells c t)) n cs t := by subst hn hc; exact Has.new w _ t
theorem Has.alloc {w : World} {b : Nat} {cs : Array Value} {t : TypeId} (h : Has w b cs t) (o : Obj) : Has (w.alloc o) b cs t := by
  have := h.lt; unfold Has at *; rw [heap_alloc_if, if_neg (by omega)]; exact h
theorem Has.drewN {w : World} {b : Nat} {cs : Array Value} {t : TypeId} (h : Has w b cs t) (n : Nat) : Has (w.drewN n) b cs t := h
theorem Has.drew {w : World} {b : Nat} {cs : Array Value} {t : TypeId} (h : Has w b cs t) : Has w.drew b cs t := h
theorem Has.setRow {w : World} {b : Nat} {cs : Array Value} {t : TypeId} (h : Has w b cs t) (c : Array Value) : Has (w.setRow b c) b c t := setRow_heap w b cs c t (0, 0) h
theorem Has.other {w : World} {b : Nat} {cs : Array Value} {t : TypeId} (h : Has w b cs t) (b' : Nat) (hb : b ≠ b') (c : Array Value) : Has (w.setRow b' c) b cs t := by
  unfold Has at *; rw [heap_setRow_if _ _ _ _ hb]; exact h
theorem Has.below {w w' : World} {B b : Nat} {cs : Array Value} {t : TypeId} (h : Has w b cs t) (hb : Below B w w') (hB : b < B) : Has w' b cs t := by
  unfold Has at *; rw [hb.block b hB]; exact h
theorem Has.ext {w w' : World} {b : Nat} {cs : Array Value} {t : TypeId} (h : Has w b cs t) (hb : Below w.heap.size w w') : Has w' b cs t := h.below hb h.lt
theorem Has.upd {w w' : World} {b b' : Nat} {cs c : Array Value} {t t' : TypeId} (h : Has w b cs t) (hu : Upd b' c t' w w') (hb : b ≠ b') : Has w' b cs t := by
  unfold Has at *; rw [hu.block b hb]; exact h
theorem Upd.has {w w' : World} {b' : Nat} {c : Array Value} {t' : TypeId} (hu : Upd b' c t' w w') : Has w' b' c t' := hu.row
theorem Upd.refl {w : World} {b : Nat} {c : Array Value} {t : TypeId} (h : Has w b c t) : Upd b c t w w := ⟨rfl, rfl, rfl, rfl, fun _ _ => rfl, h⟩
theorem Has.rowOf {w : World} {b : Nat} {cs : Array Value} {t : TypeId} (h : Has w b cs t) : RowOf w b := Go.Proofs.Ytlnekohkbhidnaa.rowOf h
theorem below_setRow {B : Nat} {a w : World} (h : Below B a w) {b : Nat} (hb : B ≤ b) (c : Array Value) : Below B a (w.setRow b c) :=
  h.trans ⟨rfl, rfl, rfl, Nat.le_of_eq (size_setRow w b c).symm, fun k hk => heap_setRow_if w b c k (by omega)⟩
theorem below_drewN' {B : Nat} {a w : World} (h : Below B a w) (n : Nat) : Below B a (w.drewN n) := h.trans ⟨rfl, rfl, rfl, Nat.le_refl _, fun _ _ => rfl⟩
theorem size_setRow' (w : World) (b : Nat) (c : Array Value) : (w.setRow b c).heap.size = w.heap.size := size_setRow w b c

/-- A whole row is stored into a block that lies there. -/
theorem run_storeVar_has {P : Program} (w : World) (b : Nat) (ty t : TypeId) (cs c : Array Value) (h : Has w b cs t) (hs : c.size = cs.size) (hi : (P.info? ty).map (·.size) = some c.size) (h1 : ∀ v ∈ c.toList, v.oneCell' = true) :
    (storeVar ty ⟨b, 0, none⟩ (.agg c)).run P w = .ok () (w.setRow b c) := by
  have := run_storeCells_at P b 0 t c.toList 0 cs w h (by simp [hs]) h1
  have e : (cs.toList.take (0 + 0) ++ c.toList ++ cs.toList.drop (0 + 0 + c.toList.length)).toArray = c := by
    rw [List.drop_of_length_le (by simp [hs])]; simp
  rw [e] at this
  cases hq : P.info? ty with
  | none => simp [hq] at hi
  | some i =>
    have hs' : c.size = i.size := by simp [hq] at hi; omega
    simp [storeVar, sizeOf, typeInfo, hq, Value.cells, hs', this]
theorem wpList_store_has {P : Program} {ops : Array Oper} {rest : List Oper} {o : Oper} {a : Act} {w : World} {Q : Exit → Act → World → Prop} (hgd : o.guard = none) (ty : TypeId) (x y : Operand) (ho : o.op = .store ty x y)
    (b : Nat) (t : TypeId) (cs c : Array Value) (hx : a.eval x = .pointer (some ⟨b, 0, none⟩)) (hy : a.eval y = .agg c) (h : Has w b cs t) (hs : c.size = cs.size) (hi : (P.info? ty).map (·.size) = some c.size) (h1 : ∀ v ∈ c.toList, v.oneCell' = true)
    (hk : wpList P ops Q rest (a.put o.dst undef) (w.setRow b c)) : wpList P ops Q (o :: rest) a w := by
  refine wpList_plain hgd fun K hK => ?_
  have hr : (execOp a.eval o).run P w = .ok .skip (w.setRow b c) := by
    simp only [execOp, ho, hx, hy, Instr.storeAt, Instr.sureAddr, Sem.run_bind, Sem.run_pure, Result.andThen_ok, run_storeVar_has w b ty t cs c h hs hi h1]
  unfold Oper.wp
  rw [hr]
  exact hK _ _ hk
/-- A whole row is read. -/
theorem wpList_load_has {P : Program} {ops : Array Oper} {rest : List Oper} {o : Oper} {a : Act} {w : World} {Q : Exit → Act → World → Prop} (hgd : o.guard = none) (ty : TypeId) (x : Operand) (ho : o.op = .load ty x)
    (b : Nat) (t : TypeId) (cs : Array Value) (d : TypeDesc) (hx : a.eval x = .pointer (some ⟨b, 0, none⟩)) (h : Has w b cs t) (hu : P.underlying ty = some d) (hd : d.isRow = true) (hi : (P.info? ty).map (·.size) = some cs.size)
    (hk : wpList P ops Q rest (a.put o.dst (.agg cs)) w) : wpList P ops Q (o :: rest) a w := by
  refine wpList_load_row hgd ty x ho b hx t cs (0, 0) d h hu ?_ hi hk
  cases d <;> first | rfl | cases hd
theorem results_has {P : Program} {fn : Func} {p : Tmp} {ty : TypeId} (hf : fn.results = #[.cell p ty]) (tmps : Array Value) (w : World) (b : Nat) (t : TypeId) (cs : Array Value) (d : TypeDesc) (hp : tmps.getD p undef = .pointer (some ⟨b, 0, none⟩)) (h : Has w b cs t)
    (hu : P.underlying ty = some d) (hd : d.isRow = true) (hi : (P.info? ty).map (·.size) = some cs.size) : (results fn tmps).run P w = .ok (.agg cs) w := by
  refine results_cell_row hf tmps w b t cs (0, 0) d hp h hu ?_ hi
  cases d <;> first | rfl | cases hd
theorem oneCell_cells {n : Nat} {f : BitVec n → Value} (hf : ∀ x, (f x).oneCell' = true) (l : List (BitVec n)) : ∀ v ∈ (cells f l).toList, v.oneCell' = true := by
  intro v hv
  simp only [cells, List.mem_map] at hv
  obtain ⟨x, _, rfl⟩ := hv
  exact hf x
theorem oneCell8 (l : List (BitVec 8)) : ∀ v ∈ (cells U8 l).toList, v.oneCell' = true := oneCell_cells (fun _ => rfl) l
theorem oneCell32 (l : List (BitVec 32)) : ∀ v ∈ (cells U32 l).toList, v.oneCell' = true := oneCell_cells (fun _ => rfl) l
theorem oneCell64 (l : List (BitVec 64)) : ∀ v ∈ (cells U64 l).toList, v.oneCell' = true := oneCell_cells (fun _ => rfl) l

/-- What is left of a row of statements behind the first n. -/
def restOf : Nat → Code → Code
  | 0, c => c
  | n + 1, .seq _ b => restOf n b
  | _ + 1, c => c
def headOf : Code → Code
  | .seq a _ => a
  | c => c
def bodyOf (fn : Func) : Code := fn.body.getD .skip
/-- Noughts. (A name of our own: simp leaves it as it is.) -/
def zer8 (n : Nat) : List (BitVec 8) := List.replicate n 0
@[go_sem, simp] theorem zer8_length (n : Nat) : (zer8 n).length = n := by simp [zer8]
def zer32 (n : Nat) : List (BitVec 32) := List.replicate n 0#32
def zer64 (n : Nat) : List (BitVec 64) := List.replicate n 0#64
def zeri (n : Nat) : List Int := List.replicate n 0
@[go_sem, simp] theorem zer32_length (n : Nat) : (zer32 n).length = n := by simp [zer32]
@[go_sem, simp] theorem zer64_length (n : Nat) : (zer64 n).length = n := by simp [zer64]
@[go_sem, simp] theorem zeri_length (n : Nat) : (zeri n).length = n := by simp [zeri]
/-- A list whose first places are filled, one by one. -/
def fill {n : Nat} (f : Nat → BitVec n) (o : Nat) : Nat → List (BitVec n) → List (BitVec n)
  | 0, l => l
  | k + 1, l => put (fill f o k l) (o + k) (f k)
@[simp, go_sem] theorem fill_length {n : Nat} (f : Nat → BitVec n) (o k : Nat) (l : List (BitVec n)) : (fill f o k l).length = l.length := by
  induction k with
  | zero => rfl
  | succ k ih => simp [fill, ih]
theorem fill_succ0 {n : Nat} (f : Nat → BitVec n) (k : Nat) (l : List (BitVec n)) : fill f 0 (k + 1) l = put (fill f 0 k l) k (f k) := by simp [fill]
theorem fill_all {n : Nat} (f : Nat → BitVec n) (k : Nat) (l : List (BitVec n)) (h : k ≤ l.length) : fill f 0 k l = (List.range k).map f ++ l.drop k := by
  induction k with
  | zero => simp [fill]
  | succ k ih =>
    rw [fill, ih (by omega), put, List.range_succ, List.map_append, Nat.zero_add, List.set_append_right _ _ (by simp)]
    simp only [List.length_map, List.length_range, Nat.sub_self, List.map_cons, List.map_nil, List.append_assoc]
    congr 1
    rw [List.drop_eq_getElem_cons (show k < l.length by omega)]
    rfl
theorem fill_zer (f : Nat → BitVec 8) (n : Nat) : fill f 0 n (zer8 n) = (List.range n).map f := by
  rw [fill_all f n (zer8 n) (by simp), List.drop_of_length_le (by simp), List.append_nil]
end Go.Proofs.Ytlnekohkbhidnaa
