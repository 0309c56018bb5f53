/- Abstract data: more steps: 'or' and 'and' of tests, copy, array literals that name some places only. -/
import Derived.Test.YtlnekohkbhidnaaAvTac3
namespace Go.Proofs.Ytlnekohkbhidnaa
open Go.RowKit
theorem ev_want {ops : Array Oper} {t : Nat → AV} {o : Oper} {j d : Nat} {want b c : Bool} (hg : o.guard = some (j, want)) (hd : (ops[j]?).bind (·.dst) = some d) (ht : t d = .c (.val (.bool b))) (hb : (b == want) = c) : evWanted ops t o = some c := by
  simp only [evWanted, hg, hd, ht, hb]
theorem beqT {p : Prop} [Decidable p] (h : p) : (decide p == true) = true := by simp [h]
theorem beqF {p : Prop} [Decidable p] (h : ¬ p) : (decide p == false) = true := by simp [h]
theorem beqTn {p : Prop} [Decidable p] (h : p) : (decide p == false) = false := by simp [h]
theorem beqFn {p : Prop} [Decidable p] (h : ¬ p) : (decide p == true) = false := by simp [h]
def zern (n : Nat) : List Nat := List.replicate n 0
@[simp] theorem zern_len (n : Nat) : (zern n).length = n := by simp [zern]
theorem cut_over0 {α : Type} (u m : List α) (n : Nat) (h : m.length = n) : cut (over u 0 m) 0 n = m := by
  subst h; simp [cut, over]
theorem over_all {α : Type} (u m : List α) (h : m.length = u.length) : over u 0 m = m := by
  simp [over, h]
theorem nth_over_hi {k : Nat} (u m : List (BitVec k)) (i : Nat) (h : m.length ≤ i) (hl : m.length ≤ u.length) : nth (over u 0 m) i = nth u i := by
  unfold nth
  rw [over_get u m 0 i 0 (by omega), if_neg (by omega)]
@[simp] theorem over_len {α : Type} (u m : List α) (o : Nat) : (over u o m).length = min o u.length + m.length + (u.length - (o + m.length)) := by simp [over, Nat.add_assoc]
section
variable {P : Program} {k N : Nat} {ops : Array Oper} {d : Nat} {ty : TypeId} {pos : String} {af : Array Edge} {l0 : List Oper} {T : Nat → AV} {M M' : Mem} {K : St → Prop} {t t' : TypeId}
theorem v_pickOr {c a b : Operand} {p q : Bool} (hc : opnd T c = .c (.val (.bool p))) (ha : opnd T a = .c (.val (.bool true))) (hb : opnd T b = .c (.val (.bool q))) : evVal P (opnd T) M (.pick c a b) = some (.c (.val (.bool (p || q)))) := by
  simp only [evVal, hc, ha, hb]
  cases p <;> rfl
theorem v_pickAnd {c a b : Operand} {p q : Bool} (hc : opnd T c = .c (.val (.bool p))) (ha : opnd T a = .c (.val (.bool q))) (hb : opnd T b = .c (.val (.bool false))) : evVal P (opnd T) M (.pick c a b) = some (.c (.val (.bool (p && q)))) := by
  simp only [evVal, hc, ha, hb]
  cases p <;> rfl
theorem copy8 {s x : Operand} {el b0 o len cap b o2 n c m : Nat} {own : Bool} {u r : List (BitVec 8)} (hs : opnd T s = .c (.sl b0 o len cap 1)) (hms : M[b0]? = some (.row true (.a8 u))) (hx : opnd T x = .c (.sl b o2 n c 1)) (hm : M[b]? = some (.row own (.a8 r))) (hu : P.underlying t = some (.slice el)) (hz : szT P el = some 1)
    (hlu : o + len ≤ u.length) (hl : o2 + n ≤ r.length) (hn : min n len = m) (hM : M.set b0 (.row true (.a8 (over u o (cut r o2 m)))) = M') :
    evMem P (opnd T) M (.call { callee := .builtin .copy, args := #[s, x], argTypes := #[t, t'] }) = some (.c (.val (.int .i64 ((m : Nat) : Int))), M') := by
  show evCopy P M t (opnd T s) (opnd T x) = _
  subst hM; subst hn
  rw [hs, hx]
  have h1 : o2 + min n len ≤ Arr.size (.a8 r) := by simp only [Arr.size]; omega
  have h2 : o + min n len ≤ Arr.size (.a8 u) := by simp only [Arr.size]; omega
  simp only [evCopy, hu, hz, hms, hm, true_and, Nat.lt_irrefl, if_true, Nat.zero_lt_one, h1, h2, Arr.win, Arr.one, and_self, Arr.putW, Option.map_some, Nat.mul_one]
theorem s_copy8 {s x : Operand} {el b0 o len cap b o2 n c m : Nat} {own : Bool} {u r : List (BitVec 8)} (hs : opnd T s = .c (.sl b0 o len cap 1)) (hms : M[b0]? = some (.row true (.a8 u))) (hx : opnd T x = .c (.sl b o2 n c 1)) (hm : M[b]? = some (.row own (.a8 r))) (hu : P.underlying t = some (.slice el)) (hz : szT P el = some 1)
    (hlu : o + len ≤ u.length) (hl : o2 + n ≤ r.length) (hn : min n len = m) (hM : M.set b0 (.row true (.a8 (over u o (cut r o2 m)))) = M') (hd : decide (d < N) = true) (hk : WO P k ops l0 ⟨N, upd T d (.c (.val (.int .i64 ((m : Nat) : Int)))), M'⟩ K) :
    WO P k ops (⟨some d, .call { callee := .builtin .copy, args := #[s, x], argTypes := #[t, t'] }, ty, pos, af, none⟩ :: l0) ⟨N, T, M⟩ K :=
  s_mem (copy8 hs hms hx hm hu hz hlu hl hn hM) hd hk
theorem s_copy8a {s x : Operand} {el b0 o len cap b n c m : Nat} {own : Bool} {u r : List (BitVec 8)} (hs : opnd T s = .c (.sl b0 o len cap 1)) (hms : M[b0]? = some (.row true (.a8 u))) (hx : opnd T x = .c (.sl b 0 n c 1)) (hm : M[b]? = some (.row own (.a8 r))) (hu : P.underlying t = some (.slice el)) (hz : szT P el = some 1)
    (hlu : o + len ≤ u.length) (hl : r.length = n) (hn : min n len = m) (he : m = n) (hM : M.set b0 (.row true (.a8 (over u o r))) = M') (hd : decide (d < N) = true) (hk : WO P k ops l0 ⟨N, upd T d (.c (.val (.int .i64 ((m : Nat) : Int)))), M'⟩ K) :
    WO P k ops (⟨some d, .call { callee := .builtin .copy, args := #[s, x], argTypes := #[t, t'] }, ty, pos, af, none⟩ :: l0) ⟨N, T, M⟩ K :=
  s_mem (copy8 hs hms hx hm hu hz hlu (by omega) hn (by rw [he, cut_all hl]; exact hM)) hd hk
theorem s_copy8w {s x : Operand} {el b0 len cap b o2 n c m : Nat} {own : Bool} {u r : List (BitVec 8)} (hs : opnd T s = .c (.sl b0 0 len cap 1)) (hms : M[b0]? = some (.row true (.a8 u))) (hx : opnd T x = .c (.sl b o2 n c 1)) (hm : M[b]? = some (.row own (.a8 r))) (hu : P.underlying t = some (.slice el)) (hz : szT P el = some 1)
    (hlu : u.length = len) (hl : o2 + n ≤ r.length) (hn : min n len = m) (he : m = len) (hM : M.set b0 (.row true (.a8 (cut r o2 m))) = M') (hd : decide (d < N) = true) (hk : WO P k ops l0 ⟨N, upd T d (.c (.val (.int .i64 ((m : Nat) : Int)))), M'⟩ K) :
    WO P k ops (⟨some d, .call { callee := .builtin .copy, args := #[s, x], argTypes := #[t, t'] }, ty, pos, af, none⟩ :: l0) ⟨N, T, M⟩ K :=
  s_mem (copy8 hs hms hx hm hu hz (by omega) hl hn (by rw [over_all _ _ (by rw [cut_length]; omega)]; exact hM)) hd hk
theorem s_copy8aw {s x : Operand} {el b0 len cap b n c m : Nat} {own : Bool} {u r : List (BitVec 8)} (hs : opnd T s = .c (.sl b0 0 len cap 1)) (hms : M[b0]? = some (.row true (.a8 u))) (hx : opnd T x = .c (.sl b 0 n c 1)) (hm : M[b]? = some (.row own (.a8 r))) (hu : P.underlying t = some (.slice el)) (hz : szT P el = some 1)
    (hlu : u.length = len) (hl : r.length = n) (hn : min n len = m) (he : m = len) (he2 : m = n) (hM : M.set b0 (.row true (.a8 r)) = M') (hd : decide (d < N) = true) (hk : WO P k ops l0 ⟨N, upd T d (.c (.val (.int .i64 ((m : Nat) : Int)))), M'⟩ K) :
    WO P k ops (⟨some d, .call { callee := .builtin .copy, args := #[s, x], argTypes := #[t, t'] }, ty, pos, af, none⟩ :: l0) ⟨N, T, M⟩ K :=
  s_mem (copy8 hs hms hx hm hu hz (by omega) (by omega) hn (by rw [he2, cut_all hl, over_all _ _ (by omega)]; exact hM)) hd hk
theorem v_blf8 {l : List (BitVec 8)} {n n' el : Nat} {ps : Array (Nat × Operand)} (hz : (P.info? t).bind (fun i => i.zero.map (fun z => absArr z.cells.toList)) = some (.a8 (zer8 n))) (hu : P.underlying t = some (.array n' el)) (hs : szT P el = some 1) (h0 : (decide (ps.toList.length = n')) = false)
    (hf : fillA (fun i => some (i * 1, 1)) (.a8 (zer8 n)) (ps.toList.map fun p => (p.1, opnd T p.2)) = some (.a8 l)) : evVal P (opnd T) M (.build t ps) = some (.agg (.a8 l)) := by
  show evBuild P t (ps.toList.map fun p => (p.1, opnd T p.2)) = _
  obtain ⟨it, hi, hz2⟩ := Option.bind_eq_some_iff.1 hz
  obtain ⟨z, hz3, hz4⟩ := Option.map_eq_some_iff.1 hz2
  obtain ⟨ie, hie, h1⟩ := Option.map_eq_some_iff.1 hs
  have h9 : ¬ (ie.size = 1 ∧ (ps.toList.map fun p => (p.1, opnd T p.2)).length = n' ∧ z.cells.size = n') := by
    rintro ⟨_, h, _⟩
    rw [List.length_map] at h
    exact of_decide_eq_false h0 h
  simp only [evBuild, hi, hu, hz3, hie]
  rw [if_neg h9]
  simp only [hz4, h1, hf, Option.map_some]
theorem v_blf32 {l : List (BitVec 32)} {n n' el : Nat} {ps : Array (Nat × Operand)} (hz : (P.info? t).bind (fun i => i.zero.map (fun z => absArr z.cells.toList)) = some (.a32 (zer32 n))) (hu : P.underlying t = some (.array n' el)) (hs : szT P el = some 1) (h0 : (decide (ps.toList.length = n')) = false)
    (hf : fillA (fun i => some (i * 1, 1)) (.a32 (zer32 n)) (ps.toList.map fun p => (p.1, opnd T p.2)) = some (.a32 l)) : evVal P (opnd T) M (.build t ps) = some (.agg (.a32 l)) := by
  show evBuild P t (ps.toList.map fun p => (p.1, opnd T p.2)) = _
  obtain ⟨it, hi, hz2⟩ := Option.bind_eq_some_iff.1 hz
  obtain ⟨z, hz3, hz4⟩ := Option.map_eq_some_iff.1 hz2
  obtain ⟨ie, hie, h1⟩ := Option.map_eq_some_iff.1 hs
  have h9 : ¬ (ie.size = 1 ∧ (ps.toList.map fun p => (p.1, opnd T p.2)).length = n' ∧ z.cells.size = n') := by
    rintro ⟨_, h, _⟩
    rw [List.length_map] at h
    exact of_decide_eq_false h0 h
  simp only [evBuild, hi, hu, hz3, hie]
  rw [if_neg h9]
  simp only [hz4, h1, hf, Option.map_some]
theorem v_blf64 {l : List (BitVec 64)} {n n' el : Nat} {ps : Array (Nat × Operand)} (hz : (P.info? t).bind (fun i => i.zero.map (fun z => absArr z.cells.toList)) = some (.a64 (zer64 n))) (hu : P.underlying t = some (.array n' el)) (hs : szT P el = some 1) (h0 : (decide (ps.toList.length = n')) = false)
    (hf : fillA (fun i => some (i * 1, 1)) (.a64 (zer64 n)) (ps.toList.map fun p => (p.1, opnd T p.2)) = some (.a64 l)) : evVal P (opnd T) M (.build t ps) = some (.agg (.a64 l)) := by
  show evBuild P t (ps.toList.map fun p => (p.1, opnd T p.2)) = _
  obtain ⟨it, hi, hz2⟩ := Option.bind_eq_some_iff.1 hz
  obtain ⟨z, hz3, hz4⟩ := Option.map_eq_some_iff.1 hz2
  obtain ⟨ie, hie, h1⟩ := Option.map_eq_some_iff.1 hs
  have h9 : ¬ (ie.size = 1 ∧ (ps.toList.map fun p => (p.1, opnd T p.2)).length = n' ∧ z.cells.size = n') := by
    rintro ⟨_, h, _⟩
    rw [List.length_map] at h
    exact of_decide_eq_false h0 h
  simp only [evBuild, hi, hu, hz3, hie]
  rw [if_neg h9]
  simp only [hz4, h1, hf, Option.map_some]
end
end Go.Proofs.Ytlnekohkbhidnaa
