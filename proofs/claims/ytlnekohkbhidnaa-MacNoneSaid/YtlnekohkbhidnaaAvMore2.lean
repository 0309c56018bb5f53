/- Abstract data: array literals with one place that is no constant; slices of slices. -/
import Derived.Test.YtlnekohkbhidnaaAvTac4
namespace Go.Proofs.Ytlnekohkbhidnaa
open Go.RowKit
/-- How many bytes are ahead: none at first, then 32. -/
def lst : Nat → Nat
  | 0 => 0
  | _ + 1 => 32
@[simp] theorem lst_zero : lst 0 = 0 := rfl
@[simp] theorem lst_succ (j : Nat) : lst (j + 1) = 32 := rfl
theorem lst_le (j : Nat) : lst j ≤ 32 := by cases j <;> simp
section
variable {P : Program} {k N : Nat} {ops : Array Oper} {d : Nat} {ty : TypeId} {pos : String} {af : Array Edge} {l0 : List Oper} {T : Nat → AV} {M M' : Mem} {K : St → Prop} {t t' : TypeId}
theorem v_blo8 {v : BitVec 8} {i n n' el : Nat} {x : Operand} (hz : (P.info? t).bind (fun i => i.zero.map (fun z => absArr z.cells.toList)) = some (.a8 (zer8 n))) (hu : P.underlying t = some (.array n' el)) (hs : szT P el = some 1) (h0 : (decide (1 = n')) = false) (hi : decide (i < n) = true) (hx : opnd T x = .c (.val (U8 v))) :
    evVal P (opnd T) M (.build t #[(i, x)]) = some (.agg (.a8 (put (zer8 n) i v))) := by
  refine v_blf8 hz hu hs h0 ?_
  have h1 : i < Arr.size (.a8 (zer8 n)) := by simp only [Arr.size, zer8_length]; exact of_decide_eq_true hi
  have h2 : (Cell.val (U8 v)).one = true := rfl
  simp only [List.map_cons, List.map_nil, fillA, hx, h1, h2, and_self, if_true, Arr.set, w8?_U8, Option.map_some, Option.bind_some, Nat.mul_one]
theorem v_blo64 {v : BitVec 64} {i n n' el : Nat} {x : Operand} (hz : (P.info? t).bind (fun i => i.zero.map (fun z => absArr z.cells.toList)) = some (.a64 (zer64 n))) (hu : P.underlying t = some (.array n' el)) (hs : szT P el = some 1) (h0 : (decide (1 = n')) = false) (hi : decide (i < n) = true) (hx : opnd T x = .c (.val (U64 v))) :
    evVal P (opnd T) M (.build t #[(i, x)]) = some (.agg (.a64 (put (zer64 n) i v))) := by
  refine v_blf64 hz hu hs h0 ?_
  have h1 : i < Arr.size (.a64 (zer64 n)) := by simp only [Arr.size, zer64_length]; exact of_decide_eq_true hi
  have h2 : (Cell.val (U64 v)).one = true := rfl
  simp only [List.map_cons, List.map_nil, fillA, hx, h1, h2, and_self, if_true, Arr.set, w64?_U64, Option.map_some, Option.bind_some, Nat.mul_one]
theorem v_minL {x y : Operand} {ts : Array TypeId} {a b : Nat} (hx : opnd T x = .c (.val (.int .i64 (a : Int)))) (hy : opnd T y = .c (.val (.int .i64 (b : Int)))) (h : a ≤ b) : evVal P (opnd T) M (.call { callee := .builtin .min, args := #[x, y], argTypes := ts }) = some (.c (.val (.int .i64 ((a : Nat) : Int)))) := by
  rw [v_minN hx hy, Nat.min_eq_left h]
theorem v_minR {x y : Operand} {ts : Array TypeId} {a b : Nat} (hx : opnd T x = .c (.val (.int .i64 (a : Int)))) (hy : opnd T y = .c (.val (.int .i64 (b : Int)))) (h : b ≤ a) : evVal P (opnd T) M (.call { callee := .builtin .min, args := #[x, y], argTypes := ts }) = some (.c (.val (.int .i64 ((b : Nat) : Int)))) := by
  rw [v_minN hx hy, Nat.min_eq_right h]
def okS : AV → Bool
  | .c (.sl ..) => true
  | .c .nsl => true
  | .c .esl => true
  | _ => false
theorem m_appZ {s x : Operand} {el b : Nat} {v : AV} {e2 : TypeId} (hs : opnd T s = v) (hx : opnd T x = .c .nsl) (hu : P.underlying t = some (.slice el)) (hu2 : P.underlying t' = some (.slice e2)) (he : elemOk P el = some (1, b)) (hk : okS v = true) :
    evMem P (opnd T) M (.call { callee := .builtin .append, args := #[s, x], argTypes := #[t, t'] }) = some (v, M ++ []) := by
  show evAppend P M t t' (opnd T s) (opnd T x) = _
  rw [hs, hx, List.append_nil]
  simp only [evAppend, hu, noIntT, hu2, he]
  unfold okS at hk
  split at hk <;> first | rfl | cases hk
theorem m_appZe {s x : Operand} {el b : Nat} {v : AV} {e2 : TypeId} (hs : opnd T s = v) (hx : opnd T x = .c .esl) (hu : P.underlying t = some (.slice el)) (hu2 : P.underlying t' = some (.slice e2)) (he : elemOk P el = some (1, b)) (hk : okS v = true) :
    evMem P (opnd T) M (.call { callee := .builtin .append, args := #[s, x], argTypes := #[t, t'] }) = some (v, M ++ []) := by
  show evAppend P M t t' (opnd T s) (opnd T x) = _
  rw [hs, hx, List.append_nil]
  simp only [evAppend, hu, noIntT, hu2, he]
  unfold okS at hk
  split at hk <;> first | rfl | cases hk
theorem m_bsc {cs : List Cell} {x : Arr} {el by' len n : Nat} {ps : Array (Nat × Operand)} (hu : P.underlying t = some (.slice el)) (he : elemOk P el = some (1, by')) (hr : repArr P el len = some x) (hd : denseA 0 (ps.toList.map fun p => (p.1, opnd T p.2)) = none) (hf : fillA (fun i => some (i * 1, 1)) x (ps.toList.map fun p => (p.1, opnd T p.2)) = some (.ac cs)) (h0 : ¬ len = 0) (h1 : len ≤ 16777216) (hn : M.length = n) :
    evMem P (opnd T) M (.buildSlice t len ps) = some (.c (.sl n 0 len len 1), M ++ [.row true (.ac cs)]) := by
  show evBuildSlice P M t len (ps.toList.map fun p => (p.1, opnd T p.2)) = _
  subst hn
  have e : (if True ∧ (ps.toList.map fun p => (p.1, opnd T p.2)).length = len then denseA 0 (ps.toList.map fun p => (p.1, opnd T p.2)) else none) = none := by split <;> first | exact hd | rfl
  simp only [evBuildSlice, hu, he, Nat.mul_one]
  rw [if_neg h0, if_pos h1, e]
  simp only [Nat.mul_one] at hf
  simp only [hr, hf]
end
theorem CS_ {p : Prop} (h : p := by first | exact (rfl : _ = some (Arr.ac [_])) | exact (rfl : _ = some (Arr.ac [_, _])) | exact (rfl : _ = some (Arr.ac [_, _, _])) | exact (rfl : _ = some (Arr.ac [_, _, _, _])) | exact (rfl : _ = some (Arr.ac [_, _, _, _, _])) | exact (rfl : _ = some (Arr.ac [_, _, _, _, _, _]))) : p := h
end Go.Proofs.Ytlnekohkbhidnaa
