/- Abstract data: values and memory without addresses of the machine; what the model's operations do to them, as functions. No function of the program in sight. -/
import Derived.Test.YtlnekohkbhidnaaMem
import Derived.Laws.Externs
namespace Go.Proofs.Ytlnekohkbhidnaa
open Go.RowKit

/-- Where an abstract row lies: block, first cell, room. -/
structure Loc where
  c : Nat
  off : Nat
  n : Nat
abbrev Emb := Nat → Option Loc
inductive Cell where
  | any
  | val (v : Value)
  | ptr (b o : Nat)
  | sl (b o len cap sz : Nat)
  | nsl
  | esl
inductive Arr where
  | a8 (l : List (BitVec 8))
  | a32 (l : List (BitVec 32))
  | a64 (l : List (BitVec 64))
  | ai (l : List Int)
  | ac (l : List Cell)
inductive AV where
  | c (x : Cell)
  | agg (x : Arr)
  | tup (l : List AV)
inductive Row where
  | dead
  | row (own : Bool) (x : Arr)
abbrev Mem := List Row

def Cell.rel (ι : Emb) : Cell → Value → Prop
  | .any, _ => True
  | .val x, v => v = x
  | .ptr b o, v => ∃ l, ι b = some l ∧ v = .pointer (some ⟨l.c, l.off + o, none⟩)
  | .sl b o len cap sz, v => ∃ p cap', v = .slice p len cap' ∧ cap ≤ cap' ∧ len ≤ cap' ∧ (cap' = 0 ∨ ∃ l, ι b = some l ∧ p = some ⟨l.c, l.off + o, none⟩ ∧ o + cap' * sz ≤ l.n)
  | .nsl, v => v = .slice none 0 0
  | .esl, v => ∃ p, v = .slice p 0 0
def Cell.one : Cell → Bool
  | .any => false
  | .val v => v.oneCell'
  | _ => true
theorem Cell.rel_one {ι : Emb} {x : Cell} {v : Value} (h : x.rel ι v) (h1 : x.one = true) : v.oneCell' = true := by
  cases x with
  | any => cases h1
  | val y => simp only [Cell.rel] at h; subst h; exact h1
  | ptr b o => obtain ⟨l, _, rfl⟩ := h; rfl
  | sl b o len cap sz => obtain ⟨p, c, rfl, _⟩ := h; rfl
  | nsl => simp only [Cell.rel] at h; subst h; rfl
  | esl => obtain ⟨p, rfl⟩ := h; rfl

/-- A word that a value is. -/
def w8? : Value → Option (BitVec 8)
  | .int .u8 n => if (tn (BitVec.ofInt 8 n) : Int) = n then some (BitVec.ofInt 8 n) else none
  | _ => none
def w32? : Value → Option (BitVec 32)
  | .int .u32 n => if (tn (BitVec.ofInt 32 n) : Int) = n then some (BitVec.ofInt 32 n) else none
  | _ => none
def w64? : Value → Option (BitVec 64)
  | .int .u64 n => if (tn (BitVec.ofInt 64 n) : Int) = n then some (BitVec.ofInt 64 n) else none
  | _ => none
def i? : Value → Option Int
  | .int .i64 n => some n
  | _ => none
@[simp] theorem w8?_U8 (x : BitVec 8) : w8? (U8 x) = some x := by
  show (if (tn (BitVec.ofInt 8 (tn x)) : Int) = tn x then some (BitVec.ofInt 8 (tn x)) else none) = _
  have : BitVec.ofInt 8 (tn x) = x := ofInt_nat x
  rw [this, if_pos rfl]
@[simp] theorem w32?_U32 (x : BitVec 32) : w32? (U32 x) = some x := by
  show (if (tn (BitVec.ofInt 32 (tn x)) : Int) = tn x then some (BitVec.ofInt 32 (tn x)) else none) = _
  have : BitVec.ofInt 32 (tn x) = x := ofInt_nat x
  rw [this, if_pos rfl]
@[simp] theorem w64?_U64 (x : BitVec 64) : w64? (U64 x) = some x := by
  show (if (tn (BitVec.ofInt 64 (tn x)) : Int) = tn x then some (BitVec.ofInt 64 (tn x)) else none) = _
  have : BitVec.ofInt 64 (tn x) = x := ofInt_nat x
  rw [this, if_pos rfl]
theorem w8?_some {v : Value} {x : BitVec 8} (h : w8? v = some x) : v = U8 x := by
  unfold w8? at h; split at h
  · split at h
    · rename_i e; cases h; rw [U8, e]
    · cases h
  · cases h
theorem w32?_some {v : Value} {x : BitVec 32} (h : w32? v = some x) : v = U32 x := by
  unfold w32? at h; split at h
  · split at h
    · rename_i e; cases h; rw [U32, e]
    · cases h
  · cases h
theorem w64?_some {v : Value} {x : BitVec 64} (h : w64? v = some x) : v = U64 x := by
  unfold w64? at h; split at h
  · split at h
    · rename_i e; cases h; rw [U64, e]
    · cases h
  · cases h
theorem i?_some {v : Value} {x : Int} (h : i? v = some x) : v = .int .i64 x := by
  unfold i? at h; split at h
  · cases h; rfl
  · cases h

def Arr.size : Arr → Nat
  | .a8 l => l.length
  | .a32 l => l.length
  | .a64 l => l.length
  | .ai l => l.length
  | .ac l => l.length
def geti (l : List Int) (i : Nat) : Int := l.getD i 0
def getc (l : List Cell) (i : Nat) : Cell := l.getD i .any
def Arr.get : Arr → Nat → Cell
  | .a8 l, i => .val (U8 (nth l i))
  | .a32 l, i => .val (U32 (nth l i))
  | .a64 l, i => .val (U64 (nth l i))
  | .ai l, i => .val (.int .i64 (geti l i))
  | .ac l, i => getc l i
def puti (l : List Int) (i : Nat) (v : Int) : List Int := l.set i v
def putc (l : List Cell) (i : Nat) (v : Cell) : List Cell := l.set i v
def Arr.set : Arr → Nat → Cell → Option Arr
  | .a8 l, i, .val v => (w8? v).map fun x => .a8 (put l i x)
  | .a32 l, i, .val v => (w32? v).map fun x => .a32 (put l i x)
  | .a64 l, i, .val v => (w64? v).map fun x => .a64 (put l i x)
  | .ai l, i, .val v => (i? v).map fun x => .ai (puti l i x)
  | .ac l, i, c => some (.ac (putc l i c))
  | _, _, _ => none
/-- A piece of a list. -/
def cut {α : Type} (l : List α) (o n : Nat) : List α := (l.drop o).take n
def Arr.win : Arr → Nat → Nat → Arr
  | .a8 l, o, n => .a8 (cut l o n)
  | .a32 l, o, n => .a32 (cut l o n)
  | .a64 l, o, n => .a64 (cut l o n)
  | .ai l, o, n => .ai (cut l o n)
  | .ac l, o, n => .ac (cut l o n)
/-- A list with a piece written over. -/
def over {α : Type} (l : List α) (o : Nat) (m : List α) : List α := l.take o ++ m ++ l.drop (o + m.length)
def Arr.cells (x : Arr) : List Cell := (List.range x.size).map x.get
def Arr.putW : Arr → Nat → Arr → Option Arr
  | .a8 l, o, .a8 m => some (.a8 (over l o m))
  | .a32 l, o, .a32 m => some (.a32 (over l o m))
  | .a64 l, o, .a64 m => some (.a64 (over l o m))
  | .ai l, o, .ai m => some (.ai (over l o m))
  | .ac l, o, m => some (.ac (over l o m.cells))
  | _, _, _ => none
def Arr.app : Arr → Arr → Option Arr
  | .a8 l, .a8 m => some (.a8 (l ++ m))
  | .a32 l, .a32 m => some (.a32 (l ++ m))
  | .a64 l, .a64 m => some (.a64 (l ++ m))
  | .ai l, .ai m => some (.ai (l ++ m))
  | .ac l, .ac m => some (.ac (l ++ m))
  | _, _ => none
def Arr.one : Arr → Bool
  | .ac l => l.all Cell.one
  | _ => true

theorem Arr.get_one {x : Arr} (h : x.one = true) {i : Nat} (hi : i < x.size) : (x.get i).one = true := by
  cases x with
  | ac l =>
    simp only [Arr.one, List.all_eq_true] at h
    simp only [Arr.size] at hi
    simp only [Arr.get, getc, List.getD_eq_getElem?_getD, List.getElem?_eq_getElem hi, Option.getD_some]
    exact h _ (List.getElem_mem _)
  | _ => rfl
theorem nth_put' {n : Nat} (l : List (BitVec n)) (i j : Nat) (v : BitVec n) (h : j < l.length) : nth (put l i v) j = if j = i then v else nth l j := by
  simp only [nth, put, List.getD_eq_getElem?_getD, List.getElem?_set]
  by_cases e : i = j
  · subst e; simp [h]
  · rw [if_neg e, if_neg (fun h => e h.symm)]
theorem Arr.set_spec {x y : Arr} {i : Nat} {c : Cell} (h : x.set i c = some y) : y.size = x.size ∧ ∀ j, j < x.size → y.get j = if j = i then c else x.get j := by
  cases x with
  | a8 l =>
    cases c <;> simp only [Arr.set] at h <;> try (cases h; done)
    obtain ⟨z, hz, rfl⟩ := Option.map_eq_some_iff.1 h
    obtain rfl := w8?_some hz
    refine ⟨by simp [Arr.size], fun j hj => ?_⟩
    simp only [Arr.get, nth_put' l i j z hj]; split <;> rfl
  | a32 l =>
    cases c <;> simp only [Arr.set] at h <;> try (cases h; done)
    obtain ⟨z, hz, rfl⟩ := Option.map_eq_some_iff.1 h
    obtain rfl := w32?_some hz
    refine ⟨by simp [Arr.size], fun j hj => ?_⟩
    simp only [Arr.get, nth_put' l i j z hj]; split <;> rfl
  | a64 l =>
    cases c <;> simp only [Arr.set] at h <;> try (cases h; done)
    obtain ⟨z, hz, rfl⟩ := Option.map_eq_some_iff.1 h
    obtain rfl := w64?_some hz
    refine ⟨by simp [Arr.size], fun j hj => ?_⟩
    simp only [Arr.get, nth_put' l i j z hj]; split <;> rfl
  | ai l =>
    cases c <;> simp only [Arr.set] at h <;> try (cases h; done)
    obtain ⟨z, hz, rfl⟩ := Option.map_eq_some_iff.1 h
    obtain rfl := i?_some hz
    refine ⟨by simp [Arr.size, puti], fun j hj => ?_⟩
    simp only [Arr.size] at hj
    simp only [Arr.get, geti, puti, List.getD_eq_getElem?_getD, List.getElem?_set]
    by_cases e : i = j
    · subst e; simp [hj]
    · rw [if_neg e, if_neg (fun h => e h.symm)]
  | ac l =>
    simp only [Arr.set, Option.some.injEq] at h
    subst h
    refine ⟨by simp [Arr.size, putc], fun j hj => ?_⟩
    simp only [Arr.size] at hj
    simp only [Arr.get, getc, putc, List.getD_eq_getElem?_getD, List.getElem?_set]
    by_cases e : i = j
    · subst e; simp [hj]
    · rw [if_neg e, if_neg (fun h => e h.symm)]
theorem cut_get {α : Type} (l : List α) (o n i : Nat) (d : α) (hi : i < n) : (cut l o n).getD i d = l.getD (o + i) d := by
  simp only [cut, List.getD_eq_getElem?_getD, List.getElem?_take, hi, if_true, List.getElem?_drop]
theorem Arr.win_size (x : Arr) (o n : Nat) : (x.win o n).size = min n (x.size - o) := by cases x <;> simp [Arr.win, Arr.size, cut]
theorem Arr.win_get (x : Arr) (o n i : Nat) (hi : i < n) : (x.win o n).get i = x.get (o + i) := by
  cases x <;> simp only [Arr.win, Arr.get, nth, geti, getc, cut_get _ _ _ _ _ hi]
theorem over_get {α : Type} (l m : List α) (o j : Nat) (d : α) (h : o + m.length ≤ l.length) : (over l o m).getD j d = if o ≤ j ∧ j < o + m.length then m.getD (j - o) d else l.getD j d := by
  simp only [over, List.getD_eq_getElem?_getD]
  by_cases h1 : j < o
  · rw [if_neg (by omega), List.append_assoc, List.getElem?_append_left (by simp; omega), List.getElem?_take, if_pos h1]
  · by_cases h2 : j < o + m.length
    · rw [if_pos ⟨by omega, h2⟩, List.getElem?_append_left (by simp; omega), List.getElem?_append_right (by simp; omega)]
      congr 3; simp; omega
    · rw [if_neg (by omega), List.getElem?_append_right (by simp; omega), List.getElem?_drop]
      congr 3; simp; omega
theorem over_length {α : Type} (l m : List α) (o : Nat) (h : o + m.length ≤ l.length) : (over l o m).length = l.length := by simp [over]; omega
theorem Arr.cells_length (x : Arr) : x.cells.length = x.size := by simp [Arr.cells]
theorem Arr.cells_get (x : Arr) (i : Nat) (hi : i < x.size) : x.cells.getD i .any = x.get i := by simp [Arr.cells, hi]
theorem Arr.putW_spec {x y z : Arr} {o : Nat} (h : x.putW o y = some z) (hs : o + y.size ≤ x.size) : z.size = x.size ∧ ∀ j, j < x.size → z.get j = if o ≤ j ∧ j < o + y.size then y.get (j - o) else x.get j := by
  cases x with
  | ac l =>
    simp only [Arr.putW, Option.some.injEq] at h
    subst h
    simp only [Arr.size] at hs
    refine ⟨by simp only [Arr.size]; exact over_length _ _ _ (by rw [Arr.cells_length]; exact hs), fun j hj => ?_⟩
    simp only [Arr.get, getc]
    rw [over_get _ _ _ _ _ (by rw [Arr.cells_length]; exact hs), Arr.cells_length]
    split
    · rename_i hj'
      exact Arr.cells_get y _ (by omega)
    · rfl
  | a8 l =>
    cases y <;> simp only [Arr.putW] at h <;> cases h
    refine ⟨over_length _ _ _ hs, fun j hj => ?_⟩
    simp only [Arr.get, nth, Arr.size]
    rw [over_get _ _ _ _ _ hs]
    split <;> rename_i h <;> simp only [h, if_true, if_false, and_self]
  | a32 l =>
    cases y <;> simp only [Arr.putW] at h <;> cases h
    refine ⟨over_length _ _ _ hs, fun j hj => ?_⟩
    simp only [Arr.get, nth, Arr.size]
    rw [over_get _ _ _ _ _ hs]
    split <;> rename_i h <;> simp only [h, if_true, if_false, and_self]
  | a64 l =>
    cases y <;> simp only [Arr.putW] at h <;> cases h
    refine ⟨over_length _ _ _ hs, fun j hj => ?_⟩
    simp only [Arr.get, nth, Arr.size]
    rw [over_get _ _ _ _ _ hs]
    split <;> rename_i h <;> simp only [h, if_true, if_false, and_self]
  | ai l =>
    cases y <;> simp only [Arr.putW] at h <;> cases h
    refine ⟨over_length _ _ _ hs, fun j hj => ?_⟩
    simp only [Arr.get, geti, Arr.size]
    rw [over_get _ _ _ _ _ hs]
    split <;> rename_i h <;> simp only [h, if_true, if_false, and_self]
theorem app_getD {α : Type} (l m : List α) (j : Nat) (d : α) : (l ++ m).getD j d = if j < l.length then l.getD j d else m.getD (j - l.length) d := by
  simp only [List.getD_eq_getElem?_getD]
  by_cases h : j < l.length
  · rw [if_pos h, List.getElem?_append_left h]
  · rw [if_neg h, List.getElem?_append_right (by omega)]
theorem Arr.app_spec {x y z : Arr} (h : x.app y = some z) : z.size = x.size + y.size ∧ ∀ j, z.get j = if j < x.size then x.get j else y.get (j - x.size) := by
  cases x <;> cases y <;> simp only [Arr.app] at h <;> cases h <;> refine ⟨by simp [Arr.size], fun j => ?_⟩ <;> simp only [Arr.get, nth, geti, getc, Arr.size, app_getD] <;> split <;> first | rfl | (rename_i h; simp only [h, if_true, if_false])

/-- Cells hold what an abstract row says. -/
def Arr.relAt (ι : Emb) (x : Arr) (cs : Array Value) (off : Nat) : Prop := ∀ i, i < x.size → ∃ v, cs[off + i]? = some v ∧ (x.get i).rel ι v
def AV.rel0 (ι : Emb) : AV → Value → Prop
  | .c x, v => x.rel ι v
  | .agg x, v => ∃ cs, v = .agg cs ∧ cs.size = x.size ∧ x.relAt ι cs 0
  | .tup _, _ => False
def AV.rel (ι : Emb) : AV → Value → Prop
  | .tup l, v => ∃ vs : Array Value, v = .tuple vs ∧ vs.size = l.length ∧ ∀ (i : Nat) (x : AV) (u : Value), l[i]? = some x → vs[i]? = some u → x.rel0 ι u
  | x, v => x.rel0 ι v

/-! ### More of a place known -/
def Emb.le (ι ι' : Emb) : Prop := ∀ b l, ι b = some l → ι' b = some l
theorem Cell.rel_mono {ι ι' : Emb} (h : ι.le ι') {x : Cell} {v : Value} (hr : x.rel ι v) : x.rel ι' v := by
  cases x with
  | ptr b o => obtain ⟨l, hl, rfl⟩ := hr; exact ⟨l, h _ _ hl, rfl⟩
  | sl b o len cap sz =>
    obtain ⟨p, c, rfl, h1, h2, h3⟩ := hr
    refine ⟨p, c, rfl, h1, h2, h3.imp id ?_⟩
    rintro ⟨l, hl, r⟩
    exact ⟨l, h _ _ hl, r⟩
  | _ => exact hr
theorem Arr.relAt_mono {ι ι' : Emb} (h : ι.le ι') {x : Arr} {cs : Array Value} {off : Nat} (hr : x.relAt ι cs off) : x.relAt ι' cs off := fun i hi => by
  obtain ⟨v, h1, h2⟩ := hr i hi
  exact ⟨v, h1, Cell.rel_mono h h2⟩
theorem Arr.relAt.mono' {ι ι' : Emb} {x : Arr} {cs : Array Value} {off : Nat} (hr : x.relAt ι cs off) (h : ι.le ι') : x.relAt ι' cs off := Arr.relAt_mono h hr
theorem AV.rel0_mono {ι ι' : Emb} (h : ι.le ι') {x : AV} {v : Value} (hr : x.rel0 ι v) : x.rel0 ι' v := by
  cases x with
  | c x => exact Cell.rel_mono h hr
  | agg x => obtain ⟨cs, rfl, h1, h2⟩ := hr; exact ⟨cs, rfl, h1, Arr.relAt_mono h h2⟩
  | tup l => exact hr.elim
theorem AV.rel_mono {ι ι' : Emb} (h : ι.le ι') {x : AV} {v : Value} (hr : x.rel ι v) : x.rel ι' v := by
  cases x with
  | c x => exact Cell.rel_mono (x := x) h hr
  | agg x => exact AV.rel0_mono (x := .agg x) h hr
  | tup l =>
    obtain ⟨vs, rfl, h1, h2⟩ := hr
    exact ⟨vs, rfl, h1, fun i x u hx hu => AV.rel0_mono h (h2 i x u hx hu)⟩
theorem AV.rel_of0 {ι : Emb} {x : AV} {v : Value} (h : x.rel0 ι v) : x.rel ι v := by
  cases x with
  | tup l => exact h.elim
  | _ => exact h

/-! ### Abstract memory and the world -/
structure R (ι : Emb) (M : Mem) (w : World) : Prop where
  dom : ∀ b, M.length ≤ b → ι b = none
  rows : ∀ b l own x, ι b = some l → M[b]? = some (.row own x) → ∃ cs t fr, w.heap[l.c]? = some (.cells cs t fr) ∧ x.size ≤ l.n ∧ x.relAt ι cs l.off ∧ (own = true → fr = (0, 0) ∧ cs.size = l.off + l.n)
  inj : ∀ b b' l l' own own' x x', b ≠ b' → ι b = some l → ι b' = some l' → M[b]? = some (.row own x) → M[b']? = some (.row own' x') → (own = true ∨ own' = true) → l.c ≠ l'.c
def Owned (ι : Emb) (M : Mem) (c : Nat) : Prop := ∃ b l x, ι b = some l ∧ M[b]? = some (.row true x) ∧ l.c = c
/-- From one memory to a later one: what is not owned stays. -/
structure Trans (ι : Emb) (M : Mem) (w : World) (ι' : Emb) (M' : Mem) (w' : World) : Prop where
  os : w'.os = w.os
  tape : w'.tape = w.tape
  output : w'.output = w.output
  size : w.heap.size ≤ w'.heap.size
  keep : ∀ c, c < w.heap.size → ¬ Owned ι M c → w'.heap[c]? = w.heap[c]?
  fresh : ∀ c, Owned ι' M' c → w.heap.size ≤ c ∨ Owned ι M c
theorem Trans.refl (ι : Emb) (M : Mem) (w : World) : Trans ι M w ι M w := ⟨rfl, rfl, rfl, Nat.le_refl _, fun _ _ _ => rfl, fun _ h => .inr h⟩
theorem Trans.trans {ι ι1 ι2 : Emb} {M M1 M2 : Mem} {w w1 w2 : World} (h : Trans ι M w ι1 M1 w1) (k : Trans ι1 M1 w1 ι2 M2 w2) : Trans ι M w ι2 M2 w2 := by
  refine ⟨k.os.trans h.os, k.tape.trans h.tape, k.output.trans h.output, Nat.le_trans h.size k.size, fun c hc hn => ?_, fun c ho => ?_⟩
  · rw [k.keep c (Nat.lt_of_lt_of_le hc h.size) (fun ho => ?_), h.keep c hc hn]
    rcases h.fresh c ho with h1 | h1
    · omega
    · exact hn h1
  · rcases k.fresh c ho with h1 | h1
    · exact .inl (Nat.le_trans h.size h1)
    · exact h.fresh c h1
theorem Trans.drewN {ι ι' : Emb} {M M' : Mem} {w w' : World} (h : Trans ι M w ι' M' w') (n : Nat) : Trans ι M w ι' M' (w'.drewN n) := ⟨h.os, h.tape, h.output, h.size, h.keep, h.fresh⟩
theorem R.drewN {ι : Emb} {M : Mem} {w : World} (h : R ι M w) (n : Nat) : R ι M (w.drewN n) := ⟨h.dom, h.rows, h.inj⟩
theorem R.lt {ι : Emb} {M : Mem} {w : World} (h : R ι M w) {b : Nat} {l : Loc} {own : Bool} {x : Arr} (hb : ι b = some l) (hm : M[b]? = some (.row own x)) : l.c < w.heap.size := by
  obtain ⟨cs, t, fr, hh, _⟩ := h.rows b l own x hb hm
  exact (Array.getElem?_eq_some_iff.1 hh).1
theorem R.owned_lt {ι : Emb} {M : Mem} {w : World} (h : R ι M w) {c : Nat} (ho : Owned ι M c) : c < w.heap.size := by
  obtain ⟨b, l, x, hb, hm, rfl⟩ := ho
  exact h.lt hb hm
end Go.Proofs.Ytlnekohkbhidnaa
