/- Abstract data: further steps of a walk: slices, literals, appending, calls. -/
import Derived.Test.YtlnekohkbhidnaaAvNum
namespace Go.Proofs.Ytlnekohkbhidnaa
open Go.RowKit
section
variable {P : Program} {k N : Nat} {ops : Array Oper} {d : Nat} {ty : TypeId} {pos : String} {af : Array Edge} {l0 : List Oper} {T : Nat → AV} {M M' : Mem} {K : St → Prop} {t t' : TypeId}
theorem v_lenS {x : Operand} {b o n cap sz el : Nat} (hx : opnd T x = .c (.sl b o n cap sz)) (hu : P.underlying t = some (.slice el)) : evVal P (opnd T) M (.call { callee := .builtin .len, args := #[x], argTypes := #[t] }) = some (.c (.val (.int .i64 (n : Int)))) := by
  show evLen P t (opnd T x) = _
  rw [hx]; simp [evLen, isSliceT, hu]
theorem v_lenN {x : Operand} {el : Nat} (hx : opnd T x = .c .nsl) (hu : P.underlying t = some (.slice el)) : evVal P (opnd T) M (.call { callee := .builtin .len, args := #[x], argTypes := #[t] }) = some (.c (.val (.int .i64 ((0 : Nat) : Int)))) := by
  show evLen P t (opnd T x) = _
  rw [hx]; simp [evLen, isSliceT, hu]
theorem v_lenE {x : Operand} {el : Nat} (hx : opnd T x = .c .esl) (hu : P.underlying t = some (.slice el)) : evVal P (opnd T) M (.call { callee := .builtin .len, args := #[x], argTypes := #[t] }) = some (.c (.val (.int .i64 ((0 : Nat) : Int)))) := by
  show evLen P t (opnd T x) = _
  rw [hx]; simp [evLen, isSliceT, hu]
theorem v_lenA {x : Operand} {n el : Nat} {y : Arr} (hu : P.underlying t = some (.array n el)) (hx : opnd T x = .agg y) : evVal P (opnd T) M (.call { callee := .builtin .len, args := #[x], argTypes := #[t] }) = some (.c (.val (.int .i64 (n : Int)))) := by
  show evLen P t (opnd T x) = _
  rw [hx]; simp [evLen, hu]
theorem v_lenP {x : Operand} {n el b o : Nat} (hu : P.underlying t = some (.array n el)) (hx : opnd T x = .c (.ptr b o)) : evVal P (opnd T) M (.call { callee := .builtin .len, args := #[x], argTypes := #[t] }) = some (.c (.val (.int .i64 (n : Int)))) := by
  show evLen P t (opnd T x) = _
  rw [hx]; simp [evLen, hu]
theorem v_minN {x y : Operand} {ts : Array TypeId} {a b : Nat} (hx : opnd T x = .c (.val (.int .i64 (a : Int)))) (hy : opnd T y = .c (.val (.int .i64 (b : Int)))) : evVal P (opnd T) M (.call { callee := .builtin .min, args := #[x, y], argTypes := ts }) = some (.c (.val (.int .i64 ((min a b : Nat) : Int)))) := by
  show evMin [opnd T x, opnd T y] = _
  rw [hx, hy]; simp only [evMin, if_true]
  congr 4
  split <;> omega
theorem v_maxN {x y : Operand} {ts : Array TypeId} {a b : Nat} (hx : opnd T x = .c (.val (.int .i64 (a : Int)))) (hy : opnd T y = .c (.val (.int .i64 (b : Int)))) : evVal P (opnd T) M (.call { callee := .builtin .max, args := #[x, y], argTypes := ts }) = some (.c (.val (.int .i64 ((max a b : Nat) : Int)))) := by
  show evMax [opnd T x, opnd T y] = _
  rw [hx, hy]; simp only [evMax, if_true]
  congr 4
  split <;> omega
theorem v_arrP {x : Operand} {n el b o len cap sz : Nat} (hx : opnd T x = .c (.sl b o len cap sz)) (hu : P.underlying t = some (.array n el)) (h1 : n ≤ len) (h0 : 0 < n) : evVal P (opnd T) M (.sliceToArrayPointer t x) = some (.c (.ptr b o)) := by
  show evArrPtr P t (opnd T x) = _
  rw [hx]; simp [evArrPtr, hu, h1, h0]
theorem v_slA {x : Operand} {lo hi : Option Operand} {n el b o sz l h : Nat} {own : Bool} {y : Arr} (hx : opnd T x = .c (.ptr b o)) (hu : P.underlying t = some (.array n el)) (hs : szT P el = some sz) (hm : M[b]? = some (.row own y))
    (hl : bnd 0 (lo.map (opnd T)) = some (l : Int)) (hh : bnd n (hi.map (opnd T)) = some (h : Int)) (h1 : l ≤ h) (h2 : h ≤ n) (hf : o + n * sz ≤ y.size) : evVal P (opnd T) M (.slice t x lo hi none) = some (.c (.sl b (o + l * sz) (h - l) (n - l) sz)) := by
  show evSlice P M t (opnd T x) (lo.map (opnd T)) (hi.map (opnd T)) = _
  rw [hx]
  simp only [evSlice, hu, hs, hl, hh, hm]
  rw [if_pos ⟨by omega, by omega, by omega, hf⟩]
  congr 3 <;> omega
theorem v_slA1 {x : Operand} {lo hi : Option Operand} {n el b l h len cp : Nat} {own : Bool} {y : Arr} (hx : opnd T x = .c (.ptr b 0)) (hu : P.underlying t = some (.array n el)) (hs : szT P el = some 1) (hm : M[b]? = some (.row own y))
    (hl : bnd 0 (lo.map (opnd T)) = some (l : Int)) (hh : bnd n (hi.map (opnd T)) = some (h : Int)) (h1 : l ≤ h) (h2 : h ≤ n) (hf : n ≤ y.size) (hlen : h - l = len) (hcp : n - l = cp) : evVal P (opnd T) M (.slice t x lo hi none) = some (.c (.sl b l len cp 1)) := by
  subst hlen; subst hcp
  rw [v_slA hx hu hs hm hl hh h1 h2 (by omega), Nat.zero_add, Nat.mul_one]
theorem v_slS {x : Operand} {lo hi : Option Operand} {el b o sz len cap l h : Nat} (hx : opnd T x = .c (.sl b o len cap sz)) (hu : P.underlying t = some (.slice el)) (hs : szT P el = some sz)
    (hl : bnd 0 (lo.map (opnd T)) = some (l : Int)) (hh : bnd len (hi.map (opnd T)) = some (h : Int)) (h1 : l ≤ h) (h2 : h ≤ max len cap) : evVal P (opnd T) M (.slice t x lo hi none) = some (.c (.sl b (o + l * sz) (h - l) (cap - l) sz)) := by
  show evSlice P M t (opnd T x) (lo.map (opnd T)) (hi.map (opnd T)) = _
  rw [hx]
  simp only [evSlice, hu, hl, hh]
  rw [if_pos ⟨hs, by omega, by omega, by omega⟩]
  congr 3 <;> omega
theorem v_slS1 {x : Operand} {lo hi : Option Operand} {el b len cap l h : Nat} (hx : opnd T x = .c (.sl b 0 len cap 1)) (hu : P.underlying t = some (.slice el)) (hs : szT P el = some 1)
    (hl : bnd 0 (lo.map (opnd T)) = some (l : Int)) (hh : bnd len (hi.map (opnd T)) = some (h : Int)) (h1 : l ≤ h) (h2 : h ≤ max len cap) : evVal P (opnd T) M (.slice t x lo hi none) = some (.c (.sl b l (h - l) (cap - l) 1)) := by
  rw [v_slS hx hu hs hl hh h1 h2, Nat.zero_add, Nat.mul_one]
theorem v_slSo {x : Operand} {lo hi : Option Operand} {el b o len cap l h : Nat} (hx : opnd T x = .c (.sl b o len cap 1)) (hu : P.underlying t = some (.slice el)) (hs : szT P el = some 1)
    (hl : bnd 0 (lo.map (opnd T)) = some (l : Int)) (hh : bnd len (hi.map (opnd T)) = some (h : Int)) (h1 : l ≤ h) (h2 : h ≤ max len cap) : evVal P (opnd T) M (.slice t x lo hi none) = some (.c (.sl b (o + l) (h - l) (cap - l) 1)) := by
  rw [v_slS hx hu hs hl hh h1 h2, Nat.mul_one]
theorem v_slS0 {x : Operand} {hi : Option Operand} {el b o sz len cap h : Nat} (hx : opnd T x = .c (.sl b o len cap sz)) (hu : P.underlying t = some (.slice el)) (hs : szT P el = some sz)
    (hh : bnd len (hi.map (opnd T)) = some (h : Int)) (h2 : h ≤ max len cap) : evVal P (opnd T) M (.slice t x none hi none) = some (.c (.sl b o h cap sz)) := by
  rw [v_slS (lo := none) (l := 0) hx hu hs rfl hh (Nat.zero_le _) h2]; simp
/- literals -/
theorem all_map {α : Type} {f : Value → Option α} {g : α → Value} (h : ∀ x, f (g x) = some x) : ∀ l : List α, all? f (l.map g) = some l
  | [] => rfl
  | x :: l => by simp [all?, h, all_map h l]
theorem abs8 (l : List (BitVec 8)) : absArr (l.map U8) = .a8 l := by unfold absArr; rw [all_map w8?_U8]
theorem all_none {α β : Type} {f : Value → Option α} {g : β → Value} (h : ∀ x, f (g x) = none) : ∀ l : List β, l ≠ [] → all? f (l.map g) = none
  | [], hl => absurd rfl hl
  | x :: l, _ => by simp [all?, h]
theorem abs32 {l : List (BitVec 32)} (hl : l ≠ []) : absArr (l.map U32) = .a32 l := by unfold absArr; rw [all_none (fun _ => rfl) l hl, all_map w32?_U32]
theorem abs64 {l : List (BitVec 64)} (hl : l ≠ []) : absArr (l.map U64) = .a64 l := by unfold absArr; rw [all_none (fun _ => rfl) l hl, all_none (fun _ => rfl) l hl, all_map w64?_U64]
theorem absI {l : List Int} (hl : l ≠ []) : absArr (l.map (Value.int .i64)) = .ai l := by unfold absArr; rw [all_none (fun _ => rfl) l hl, all_none (fun _ => rfl) l hl, all_none (fun _ => rfl) l hl, all_map (f := i?) (g := Value.int .i64) (fun _ => rfl)]
theorem m_bs0 {el sz by' : Nat} (hu : P.underlying t = some (.slice el)) (he : elemOk P el = some (sz, by')) : evMem P (opnd T) M (.buildSlice t 0 #[]) = some (.c .esl, M ++ []) := by
  show evBuildSlice P M t 0 [] = _
  simp [evBuildSlice, hu, he]
theorem m_bs {el by' len n : Nat} {ps : Array (Nat × Operand)} {vs : List Value} (hu : P.underlying t = some (.slice el)) (he : elemOk P el = some (1, by')) (hd : denseA 0 (ps.toList.map fun p => (p.1, opnd T p.2)) = some vs) (hl : ps.toList.length = len) (h0 : ¬ len = 0) (h1 : len ≤ 16777216) (hn : M.length = n) :
    evMem P (opnd T) M (.buildSlice t len ps) = some (.c (.sl n 0 len len 1), M ++ [.row true (absArr vs)]) := by
  show evBuildSlice P M t len (ps.toList.map fun p => (p.1, opnd T p.2)) = _
  subst hn
  simp only [evBuildSlice, hu, he, Nat.mul_one]
  rw [if_neg h0, if_pos h1, if_pos ⟨trivial, by simpa using hl⟩, hd]
theorem m_bs8 {l : List (BitVec 8)} {el by' len n : Nat} {ps : Array (Nat × Operand)} (hu : P.underlying t = some (.slice el)) (he : elemOk P el = some (1, by')) (hd : denseA 0 (ps.toList.map fun p => (p.1, opnd T p.2)) = some (l.map U8)) (hl : ps.toList.length = len) (h0 : ¬ len = 0) (h1 : len ≤ 16777216) (hn : M.length = n) :
    evMem P (opnd T) M (.buildSlice t len ps) = some (.c (.sl n 0 len len 1), M ++ [.row true (.a8 l)]) := by
  have hn0 : l ≠ [] := by
    intro e; subst e
    have := denseA_len hd
    have h9 : ps.toList.length = ps.size := by simp
    simp at this
    omega
  rw [m_bs hu he hd hl h0 h1 hn, abs8 l]
theorem v_bld8 {l : List (BitVec 8)} {n el : Nat} {ps : Array (Nat × Operand)} (hz : (P.info? t).bind (fun i => i.zero.map (·.cells.size)) = some n) (hu : P.underlying t = some (.array n el)) (hs : szT P el = some 1) (hd : denseA 0 (ps.toList.map fun p => (p.1, opnd T p.2)) = some (l.map U8)) (hl : ps.toList.length = n) (h0 : ¬ n = 0) :
    evVal P (opnd T) M (.build t ps) = some (.agg (.a8 l)) := by
  show evBuild P t (ps.toList.map fun p => (p.1, opnd T p.2)) = _
  obtain ⟨it, hi, hz2⟩ := Option.bind_eq_some_iff.1 hz
  obtain ⟨z, hz3, hz4⟩ := Option.map_eq_some_iff.1 hz2
  obtain ⟨ie, hie, h1⟩ := Option.map_eq_some_iff.1 hs
  have hn0 : l ≠ [] := by
    intro e; subst e
    have := denseA_len hd
    have h9 : ps.toList.length = ps.size := by simp
    simp at this
    omega
  simp only [evBuild, hi, hu, hz3, hie]
  rw [if_pos ⟨h1, by simpa using hl, hz4⟩, hd]
  simp only [abs8 l]
theorem v_ix8 {x i : Operand} {n el j : Nat} {kd : IntKind} {y : List (BitVec 8)} (hx : opnd T x = .agg (.a8 y)) (hi : opnd T i = .c (.val (.int kd (j : Int)))) (hu : P.underlying t = some (.array n el)) (hs : szT P el = some 1) (hr : isRowT P el = some false) (h0 : j < n) (hl : j < y.length) :
    evVal P (opnd T) M (.index t x i) = some (.c (.val (U8 (nth y j)))) := by
  show evIdx P t (opnd T x) (opnd T i) = _
  rw [hx, hi]
  have h1 : (0 : Int) ≤ (j : Int) ∧ (j : Int) < (n : Int) := by omega
  simp only [evIdx, hu, intOf?, hs, h1, and_self, if_true, Int.toNat_natCast, Nat.mul_one, partA, hr]
  rw [if_pos (show j < Arr.size (.a8 y) from hl)]
  rfl
theorem m_make8 {x y : Operand} {el by' a b n : Nat} {ka kb : IntKind} (hu : P.underlying t = some (.slice el)) (hx : opnd T x = .c (.val (.int ka (a : Int)))) (hy : opnd T y = .c (.val (.int kb (b : Int)))) (he : elemOk P el = some (1, by')) (hrep : ∀ n, repArr P el n = some (.a8 (zer8 n))) (h1 : a ≤ b) (h2 : b * by' ≤ 281474976710656) (h3 : b ≤ 9223372036854775807) (hn : M.length = n) :
    evMem P (opnd T) M (.makeSlice t x y) = some (.c (.sl n 0 a b 1), M ++ [.row true (.a8 (zer8 b))]) := by
  show evMakeSlice P M t (opnd T x) (opnd T y) = _
  subst hn
  rw [hx, hy]
  simp only [evMakeSlice, hu, intOf?, he]
  rw [if_pos ⟨by omega, by omega, by rw [← Int.natCast_mul]; omega, by omega⟩]
  simp [hrep]
theorem m_appE8 {s x : Operand} {el by' b n c m : Nat} {own : Bool} {r : List (BitVec 8)} {e2 : TypeId} (hs : opnd T s = .c .esl) (hx : opnd T x = .c (.sl b 0 n c 1)) (hm : M[b]? = some (.row own (.a8 r))) (hu : P.underlying t = some (.slice el)) (hu2 : P.underlying t' = some (.slice e2)) (he : elemOk P el = some (1, by')) (hl : r.length = n) (hb : n * by' ≤ 140737488355328 ∧ n ≤ 9223372036854775807) (hn : M.length = m) :
    evMem P (opnd T) M (.call { callee := .builtin .append, args := #[s, x], argTypes := #[t, t'] }) = some (.c (.sl m 0 n n 1), M ++ [.row true (.a8 r)]) := by
  show evAppend P M t t' (opnd T s) (opnd T x) = _
  subst hn
  rw [hs, hx]
  have hz : Arr.size (.a8 r) = n := hl
  simp [evAppend, hu, noIntT, hu2, he, srcOf, hm, hz, winA, Arr.one, hb.1, hb.2]
theorem m_appE8c {s x : Operand} {el by' b o n c m : Nat} {own : Bool} {r : List (BitVec 8)} {e2 : TypeId} (hs : opnd T s = .c .esl) (hx : opnd T x = .c (.sl b o n c 1)) (hm : M[b]? = some (.row own (.a8 r))) (hu : P.underlying t = some (.slice el)) (hu2 : P.underlying t' = some (.slice e2)) (he : elemOk P el = some (1, by')) (hl : o + n ≤ r.length) (hb : n * by' ≤ 140737488355328 ∧ n ≤ 9223372036854775807) (hn : M.length = m) :
    evMem P (opnd T) M (.call { callee := .builtin .append, args := #[s, x], argTypes := #[t, t'] }) = some (.c (.sl m 0 n n 1), M ++ [.row true (.a8 (cut r o n))]) := by
  show evAppend P M t t' (opnd T s) (opnd T x) = _
  subst hn
  rw [hs, hx]
  have hw : winA (.a8 r) o (n * 1) = .a8 (cut r o n) := by
    unfold winA
    split
    · rename_i h
      have h2 : r.length = n := by have := h.2; simp [Arr.size] at this; omega
      rw [h.1]; subst h2; simp [cut]
    · rw [Nat.mul_one]; rfl
  have hsz : o + n * 1 ≤ Arr.size (.a8 r) := by simp [Arr.size]; exact hl
  have hsrc : srcOf M 1 (.c (.sl b o n c 1)) = some (n, .a8 (cut r o n)) := by
    simp only [srcOf, hm]
    rw [if_pos ⟨trivial, hsz⟩, hw]
  simp [evAppend, hu, noIntT, hu2, he, hsrc, Arr.one, hb.1, hb.2]
theorem m_appN8 {s x : Operand} {el by' b n c m : Nat} {own : Bool} {r : List (BitVec 8)} {e2 : TypeId} (hs : opnd T s = .c .nsl) (hx : opnd T x = .c (.sl b 0 n c 1)) (hm : M[b]? = some (.row own (.a8 r))) (hu : P.underlying t = some (.slice el)) (hu2 : P.underlying t' = some (.slice e2)) (he : elemOk P el = some (1, by')) (hl : r.length = n) (hb : n * by' ≤ 140737488355328 ∧ n ≤ 9223372036854775807) (hn : M.length = m) :
    evMem P (opnd T) M (.call { callee := .builtin .append, args := #[s, x], argTypes := #[t, t'] }) = some (.c (.sl m 0 n n 1), M ++ [.row true (.a8 r)]) := by
  show evAppend P M t t' (opnd T s) (opnd T x) = _
  subst hn
  rw [hs, hx]
  have hz : Arr.size (.a8 r) = n := hl
  simp [evAppend, hu, noIntT, hu2, he, srcOf, hm, hz, winA, Arr.one, hb.1, hb.2]
theorem m_appN8c {s x : Operand} {el by' b o n c m : Nat} {own : Bool} {r : List (BitVec 8)} {e2 : TypeId} (hs : opnd T s = .c .nsl) (hx : opnd T x = .c (.sl b o n c 1)) (hm : M[b]? = some (.row own (.a8 r))) (hu : P.underlying t = some (.slice el)) (hu2 : P.underlying t' = some (.slice e2)) (he : elemOk P el = some (1, by')) (hl : o + n ≤ r.length) (hb : n * by' ≤ 140737488355328 ∧ n ≤ 9223372036854775807) (hn : M.length = m) :
    evMem P (opnd T) M (.call { callee := .builtin .append, args := #[s, x], argTypes := #[t, t'] }) = some (.c (.sl m 0 n n 1), M ++ [.row true (.a8 (cut r o n))]) := by
  show evAppend P M t t' (opnd T s) (opnd T x) = _
  subst hn
  rw [hs, hx]
  have hw : winA (.a8 r) o (n * 1) = .a8 (cut r o n) := by
    unfold winA
    split
    · rename_i h
      have h2 : r.length = n := by have := h.2; simp [Arr.size] at this; omega
      rw [h.1]; subst h2; simp [cut]
    · rw [Nat.mul_one]; rfl
  have hsz : o + n * 1 ≤ Arr.size (.a8 r) := by simp [Arr.size]; exact hl
  have hsrc : srcOf M 1 (.c (.sl b o n c 1)) = some (n, .a8 (cut r o n)) := by
    simp only [srcOf, hm]
    rw [if_pos ⟨trivial, hsz⟩, hw]
  simp [evAppend, hu, noIntT, hu2, he, hsrc, Arr.one, hb.1, hb.2]
theorem s_app8 {s x : Operand} {el by' b0 len cap b n c m : Nat} {own : Bool} {u r : List (BitVec 8)} {e2 : TypeId} (hs : opnd T s = .c (.sl b0 0 len cap 1)) (hms : M[b0]? = some (.row true (.a8 u))) (hx : opnd T x = .c (.sl b 0 n c 1)) (hm : M[b]? = some (.row own (.a8 r))) (hu : P.underlying t = some (.slice el)) (hu2 : P.underlying t' = some (.slice e2)) (he : elemOk P el = some (1, by'))
    (hlu : u.length = len) (hl : r.length = n) (hb : (len + n) * by' ≤ 140737488355328 ∧ len + n ≤ 9223372036854775807 ∧ n * by' ≤ 140737488355328) (hn : M.length = m) (hM : M.set b0 .dead ++ [.row true (.a8 (u ++ r))] = M') (hd : decide (d < N) = true) (hk : WO P k ops l0 ⟨N, upd T d (.c (.sl m 0 (len + n) (len + n) 1)), M'⟩ K) :
    WO P k ops (⟨some d, .call { callee := .builtin .append, args := #[s, x], argTypes := #[t, t'] }, ty, pos, af, none⟩ :: l0) ⟨N, T, M⟩ K :=
  s_mem (by
    show evAppend P M t t' (opnd T s) (opnd T x) = _
    subst hn; subst hM
    rw [hs, hx]
    have hz : Arr.size (.a8 r) = n := hl
    have hz2 : Arr.size (.a8 u) = len := hlu
    have hn9 : n ≤ 9223372036854775807 := by omega
    simp [evAppend, hu, noIntT, hu2, he, srcOf, hm, hms, hz, hz2, winA, Arr.one, Arr.app, hb.1, hb.2.1, hb.2.2, hn9]) hd hk
theorem s_app8c {s x : Operand} {el by' b0 len cap b o n c m : Nat} {own : Bool} {u r : List (BitVec 8)} {e2 : TypeId} (hs : opnd T s = .c (.sl b0 0 len cap 1)) (hms : M[b0]? = some (.row true (.a8 u))) (hx : opnd T x = .c (.sl b o n c 1)) (hm : M[b]? = some (.row own (.a8 r))) (hu : P.underlying t = some (.slice el)) (hu2 : P.underlying t' = some (.slice e2)) (he : elemOk P el = some (1, by'))
    (hlu : u.length = len) (hl : o + n ≤ r.length) (hb : (len + n) * by' ≤ 140737488355328 ∧ len + n ≤ 9223372036854775807 ∧ n * by' ≤ 140737488355328) (hn : M.length = m) (hM : M.set b0 .dead ++ [.row true (.a8 (u ++ cut r o n))] = M') (hd : decide (d < N) = true) (hk : WO P k ops l0 ⟨N, upd T d (.c (.sl m 0 (len + n) (len + n) 1)), M'⟩ K) :
    WO P k ops (⟨some d, .call { callee := .builtin .append, args := #[s, x], argTypes := #[t, t'] }, ty, pos, af, none⟩ :: l0) ⟨N, T, M⟩ K :=
  s_mem (by
    show evAppend P M t t' (opnd T s) (opnd T x) = _
    subst hn; subst hM
    rw [hs, hx]
    have hw : winA (.a8 r) o (n * 1) = .a8 (cut r o n) := by
      unfold winA
      split
      · rename_i h
        have h2 : r.length = n := by have := h.2; simp [Arr.size] at this; omega
        rw [h.1]; subst h2; simp [cut]
      · rw [Nat.mul_one]; rfl
    have hsz : o + n * 1 ≤ Arr.size (.a8 r) := by simp [Arr.size]; exact hl
    have hsrc : srcOf M 1 (.c (.sl b o n c 1)) = some (n, .a8 (cut r o n)) := by
      simp only [srcOf, hm]
      rw [if_pos ⟨trivial, hsz⟩, hw]
    have hz2 : Arr.size (.a8 u) = len := hlu
    have hn9 : n ≤ 9223372036854775807 := by omega
    simp [evAppend, hu, noIntT, hu2, he, hsrc, hms, hz2, winA, Arr.one, Arr.app, hb.1, hb.2.1, hb.2.2, hn9]) hd hk
theorem m_bs32 {l : List (BitVec 32)} {el by' len n : Nat} {ps : Array (Nat × Operand)} (hu : P.underlying t = some (.slice el)) (he : elemOk P el = some (1, by')) (hd : denseA 0 (ps.toList.map fun p => (p.1, opnd T p.2)) = some (l.map U32)) (hl : ps.toList.length = len) (h0 : ¬ len = 0) (h1 : len ≤ 16777216) (hn : M.length = n) :
    evMem P (opnd T) M (.buildSlice t len ps) = some (.c (.sl n 0 len len 1), M ++ [.row true (.a32 l)]) := by
  have hn0 : l ≠ [] := by
    intro e; subst e
    have := denseA_len hd
    have h9 : ps.toList.length = ps.size := by simp
    simp at this
    omega
  rw [m_bs hu he hd hl h0 h1 hn, abs32 hn0]
theorem v_bld32 {l : List (BitVec 32)} {n el : Nat} {ps : Array (Nat × Operand)} (hz : (P.info? t).bind (fun i => i.zero.map (·.cells.size)) = some n) (hu : P.underlying t = some (.array n el)) (hs : szT P el = some 1) (hd : denseA 0 (ps.toList.map fun p => (p.1, opnd T p.2)) = some (l.map U32)) (hl : ps.toList.length = n) (h0 : ¬ n = 0) :
    evVal P (opnd T) M (.build t ps) = some (.agg (.a32 l)) := by
  show evBuild P t (ps.toList.map fun p => (p.1, opnd T p.2)) = _
  obtain ⟨it, hi, hz2⟩ := Option.bind_eq_some_iff.1 hz
  obtain ⟨z, hz3, hz4⟩ := Option.map_eq_some_iff.1 hz2
  obtain ⟨ie, hie, h1⟩ := Option.map_eq_some_iff.1 hs
  have hn0 : l ≠ [] := by
    intro e; subst e
    have := denseA_len hd
    have h9 : ps.toList.length = ps.size := by simp
    simp at this
    omega
  simp only [evBuild, hi, hu, hz3, hie]
  rw [if_pos ⟨h1, by simpa using hl, hz4⟩, hd]
  simp only [abs32 hn0]
theorem v_ix32 {x i : Operand} {n el j : Nat} {kd : IntKind} {y : List (BitVec 32)} (hx : opnd T x = .agg (.a32 y)) (hi : opnd T i = .c (.val (.int kd (j : Int)))) (hu : P.underlying t = some (.array n el)) (hs : szT P el = some 1) (hr : isRowT P el = some false) (h0 : j < n) (hl : j < y.length) :
    evVal P (opnd T) M (.index t x i) = some (.c (.val (U32 (nth y j)))) := by
  show evIdx P t (opnd T x) (opnd T i) = _
  rw [hx, hi]
  have h1 : (0 : Int) ≤ (j : Int) ∧ (j : Int) < (n : Int) := by omega
  simp only [evIdx, hu, intOf?, hs, h1, and_self, if_true, Int.toNat_natCast, Nat.mul_one, partA, hr]
  rw [if_pos (show j < Arr.size (.a32 y) from hl)]
  rfl
theorem m_make32 {x y : Operand} {el by' a b n : Nat} {ka kb : IntKind} (hu : P.underlying t = some (.slice el)) (hx : opnd T x = .c (.val (.int ka (a : Int)))) (hy : opnd T y = .c (.val (.int kb (b : Int)))) (he : elemOk P el = some (1, by')) (hrep : ∀ n, repArr P el n = some (.a32 (zer32 n))) (h1 : a ≤ b) (h2 : b * by' ≤ 281474976710656) (h3 : b ≤ 9223372036854775807) (hn : M.length = n) :
    evMem P (opnd T) M (.makeSlice t x y) = some (.c (.sl n 0 a b 1), M ++ [.row true (.a32 (zer32 b))]) := by
  show evMakeSlice P M t (opnd T x) (opnd T y) = _
  subst hn
  rw [hx, hy]
  simp only [evMakeSlice, hu, intOf?, he]
  rw [if_pos ⟨by omega, by omega, by rw [← Int.natCast_mul]; omega, by omega⟩]
  simp [hrep]
theorem m_appE32 {s x : Operand} {el by' b n c m : Nat} {own : Bool} {r : List (BitVec 32)} {e2 : TypeId} (hs : opnd T s = .c .esl) (hx : opnd T x = .c (.sl b 0 n c 1)) (hm : M[b]? = some (.row own (.a32 r))) (hu : P.underlying t = some (.slice el)) (hu2 : P.underlying t' = some (.slice e2)) (he : elemOk P el = some (1, by')) (hl : r.length = n) (hb : n * by' ≤ 140737488355328 ∧ n ≤ 9223372036854775807) (hn : M.length = m) :
    evMem P (opnd T) M (.call { callee := .builtin .append, args := #[s, x], argTypes := #[t, t'] }) = some (.c (.sl m 0 n n 1), M ++ [.row true (.a32 r)]) := by
  show evAppend P M t t' (opnd T s) (opnd T x) = _
  subst hn
  rw [hs, hx]
  have hz : Arr.size (.a32 r) = n := hl
  simp [evAppend, hu, noIntT, hu2, he, srcOf, hm, hz, winA, Arr.one, hb.1, hb.2]
theorem m_appE32c {s x : Operand} {el by' b o n c m : Nat} {own : Bool} {r : List (BitVec 32)} {e2 : TypeId} (hs : opnd T s = .c .esl) (hx : opnd T x = .c (.sl b o n c 1)) (hm : M[b]? = some (.row own (.a32 r))) (hu : P.underlying t = some (.slice el)) (hu2 : P.underlying t' = some (.slice e2)) (he : elemOk P el = some (1, by')) (hl : o + n ≤ r.length) (hb : n * by' ≤ 140737488355328 ∧ n ≤ 9223372036854775807) (hn : M.length = m) :
    evMem P (opnd T) M (.call { callee := .builtin .append, args := #[s, x], argTypes := #[t, t'] }) = some (.c (.sl m 0 n n 1), M ++ [.row true (.a32 (cut r o n))]) := by
  show evAppend P M t t' (opnd T s) (opnd T x) = _
  subst hn
  rw [hs, hx]
  have hw : winA (.a32 r) o (n * 1) = .a32 (cut r o n) := by
    unfold winA
    split
    · rename_i h
      have h2 : r.length = n := by have := h.2; simp [Arr.size] at this; omega
      rw [h.1]; subst h2; simp [cut]
    · rw [Nat.mul_one]; rfl
  have hsz : o + n * 1 ≤ Arr.size (.a32 r) := by simp [Arr.size]; exact hl
  have hsrc : srcOf M 1 (.c (.sl b o n c 1)) = some (n, .a32 (cut r o n)) := by
    simp only [srcOf, hm]
    rw [if_pos ⟨trivial, hsz⟩, hw]
  simp [evAppend, hu, noIntT, hu2, he, hsrc, Arr.one, hb.1, hb.2]
theorem m_appN32 {s x : Operand} {el by' b n c m : Nat} {own : Bool} {r : List (BitVec 32)} {e2 : TypeId} (hs : opnd T s = .c .nsl) (hx : opnd T x = .c (.sl b 0 n c 1)) (hm : M[b]? = some (.row own (.a32 r))) (hu : P.underlying t = some (.slice el)) (hu2 : P.underlying t' = some (.slice e2)) (he : elemOk P el = some (1, by')) (hl : r.length = n) (hb : n * by' ≤ 140737488355328 ∧ n ≤ 9223372036854775807) (hn : M.length = m) :
    evMem P (opnd T) M (.call { callee := .builtin .append, args := #[s, x], argTypes := #[t, t'] }) = some (.c (.sl m 0 n n 1), M ++ [.row true (.a32 r)]) := by
  show evAppend P M t t' (opnd T s) (opnd T x) = _
  subst hn
  rw [hs, hx]
  have hz : Arr.size (.a32 r) = n := hl
  simp [evAppend, hu, noIntT, hu2, he, srcOf, hm, hz, winA, Arr.one, hb.1, hb.2]
theorem m_appN32c {s x : Operand} {el by' b o n c m : Nat} {own : Bool} {r : List (BitVec 32)} {e2 : TypeId} (hs : opnd T s = .c .nsl) (hx : opnd T x = .c (.sl b o n c 1)) (hm : M[b]? = some (.row own (.a32 r))) (hu : P.underlying t = some (.slice el)) (hu2 : P.underlying t' = some (.slice e2)) (he : elemOk P el = some (1, by')) (hl : o + n ≤ r.length) (hb : n * by' ≤ 140737488355328 ∧ n ≤ 9223372036854775807) (hn : M.length = m) :
    evMem P (opnd T) M (.call { callee := .builtin .append, args := #[s, x], argTypes := #[t, t'] }) = some (.c (.sl m 0 n n 1), M ++ [.row true (.a32 (cut r o n))]) := by
  show evAppend P M t t' (opnd T s) (opnd T x) = _
  subst hn
  rw [hs, hx]
  have hw : winA (.a32 r) o (n * 1) = .a32 (cut r o n) := by
    unfold winA
    split
    · rename_i h
      have h2 : r.length = n := by have := h.2; simp [Arr.size] at this; omega
      rw [h.1]; subst h2; simp [cut]
    · rw [Nat.mul_one]; rfl
  have hsz : o + n * 1 ≤ Arr.size (.a32 r) := by simp [Arr.size]; exact hl
  have hsrc : srcOf M 1 (.c (.sl b o n c 1)) = some (n, .a32 (cut r o n)) := by
    simp only [srcOf, hm]
    rw [if_pos ⟨trivial, hsz⟩, hw]
  simp [evAppend, hu, noIntT, hu2, he, hsrc, Arr.one, hb.1, hb.2]
theorem s_app32 {s x : Operand} {el by' b0 len cap b n c m : Nat} {own : Bool} {u r : List (BitVec 32)} {e2 : TypeId} (hs : opnd T s = .c (.sl b0 0 len cap 1)) (hms : M[b0]? = some (.row true (.a32 u))) (hx : opnd T x = .c (.sl b 0 n c 1)) (hm : M[b]? = some (.row own (.a32 r))) (hu : P.underlying t = some (.slice el)) (hu2 : P.underlying t' = some (.slice e2)) (he : elemOk P el = some (1, by'))
    (hlu : u.length = len) (hl : r.length = n) (hb : (len + n) * by' ≤ 140737488355328 ∧ len + n ≤ 9223372036854775807 ∧ n * by' ≤ 140737488355328) (hn : M.length = m) (hM : M.set b0 .dead ++ [.row true (.a32 (u ++ r))] = M') (hd : decide (d < N) = true) (hk : WO P k ops l0 ⟨N, upd T d (.c (.sl m 0 (len + n) (len + n) 1)), M'⟩ K) :
    WO P k ops (⟨some d, .call { callee := .builtin .append, args := #[s, x], argTypes := #[t, t'] }, ty, pos, af, none⟩ :: l0) ⟨N, T, M⟩ K :=
  s_mem (by
    show evAppend P M t t' (opnd T s) (opnd T x) = _
    subst hn; subst hM
    rw [hs, hx]
    have hz : Arr.size (.a32 r) = n := hl
    have hz2 : Arr.size (.a32 u) = len := hlu
    have hn9 : n ≤ 9223372036854775807 := by omega
    simp [evAppend, hu, noIntT, hu2, he, srcOf, hm, hms, hz, hz2, winA, Arr.one, Arr.app, hb.1, hb.2.1, hb.2.2, hn9]) hd hk
theorem s_app32c {s x : Operand} {el by' b0 len cap b o n c m : Nat} {own : Bool} {u r : List (BitVec 32)} {e2 : TypeId} (hs : opnd T s = .c (.sl b0 0 len cap 1)) (hms : M[b0]? = some (.row true (.a32 u))) (hx : opnd T x = .c (.sl b o n c 1)) (hm : M[b]? = some (.row own (.a32 r))) (hu : P.underlying t = some (.slice el)) (hu2 : P.underlying t' = some (.slice e2)) (he : elemOk P el = some (1, by'))
    (hlu : u.length = len) (hl : o + n ≤ r.length) (hb : (len + n) * by' ≤ 140737488355328 ∧ len + n ≤ 9223372036854775807 ∧ n * by' ≤ 140737488355328) (hn : M.length = m) (hM : M.set b0 .dead ++ [.row true (.a32 (u ++ cut r o n))] = M') (hd : decide (d < N) = true) (hk : WO P k ops l0 ⟨N, upd T d (.c (.sl m 0 (len + n) (len + n) 1)), M'⟩ K) :
    WO P k ops (⟨some d, .call { callee := .builtin .append, args := #[s, x], argTypes := #[t, t'] }, ty, pos, af, none⟩ :: l0) ⟨N, T, M⟩ K :=
  s_mem (by
    show evAppend P M t t' (opnd T s) (opnd T x) = _
    subst hn; subst hM
    rw [hs, hx]
    have hw : winA (.a32 r) o (n * 1) = .a32 (cut r o n) := by
      unfold winA
      split
      · rename_i h
        have h2 : r.length = n := by have := h.2; simp [Arr.size] at this; omega
        rw [h.1]; subst h2; simp [cut]
      · rw [Nat.mul_one]; rfl
    have hsz : o + n * 1 ≤ Arr.size (.a32 r) := by simp [Arr.size]; exact hl
    have hsrc : srcOf M 1 (.c (.sl b o n c 1)) = some (n, .a32 (cut r o n)) := by
      simp only [srcOf, hm]
      rw [if_pos ⟨trivial, hsz⟩, hw]
    have hz2 : Arr.size (.a32 u) = len := hlu
    have hn9 : n ≤ 9223372036854775807 := by omega
    simp [evAppend, hu, noIntT, hu2, he, hsrc, hms, hz2, winA, Arr.one, Arr.app, hb.1, hb.2.1, hb.2.2, hn9]) hd hk
theorem m_bs64 {l : List (BitVec 64)} {el by' len n : Nat} {ps : Array (Nat × Operand)} (hu : P.underlying t = some (.slice el)) (he : elemOk P el = some (1, by')) (hd : denseA 0 (ps.toList.map fun p => (p.1, opnd T p.2)) = some (l.map U64)) (hl : ps.toList.length = len) (h0 : ¬ len = 0) (h1 : len ≤ 16777216) (hn : M.length = n) :
    evMem P (opnd T) M (.buildSlice t len ps) = some (.c (.sl n 0 len len 1), M ++ [.row true (.a64 l)]) := by
  have hn0 : l ≠ [] := by
    intro e; subst e
    have := denseA_len hd
    have h9 : ps.toList.length = ps.size := by simp
    simp at this
    omega
  rw [m_bs hu he hd hl h0 h1 hn, abs64 hn0]
theorem v_bld64 {l : List (BitVec 64)} {n el : Nat} {ps : Array (Nat × Operand)} (hz : (P.info? t).bind (fun i => i.zero.map (·.cells.size)) = some n) (hu : P.underlying t = some (.array n el)) (hs : szT P el = some 1) (hd : denseA 0 (ps.toList.map fun p => (p.1, opnd T p.2)) = some (l.map U64)) (hl : ps.toList.length = n) (h0 : ¬ n = 0) :
    evVal P (opnd T) M (.build t ps) = some (.agg (.a64 l)) := by
  show evBuild P t (ps.toList.map fun p => (p.1, opnd T p.2)) = _
  obtain ⟨it, hi, hz2⟩ := Option.bind_eq_some_iff.1 hz
  obtain ⟨z, hz3, hz4⟩ := Option.map_eq_some_iff.1 hz2
  obtain ⟨ie, hie, h1⟩ := Option.map_eq_some_iff.1 hs
  have hn0 : l ≠ [] := by
    intro e; subst e
    have := denseA_len hd
    have h9 : ps.toList.length = ps.size := by simp
    simp at this
    omega
  simp only [evBuild, hi, hu, hz3, hie]
  rw [if_pos ⟨h1, by simpa using hl, hz4⟩, hd]
  simp only [abs64 hn0]
theorem v_ix64 {x i : Operand} {n el j : Nat} {kd : IntKind} {y : List (BitVec 64)} (hx : opnd T x = .agg (.a64 y)) (hi : opnd T i = .c (.val (.int kd (j : Int)))) (hu : P.underlying t = some (.array n el)) (hs : szT P el = some 1) (hr : isRowT P el = some false) (h0 : j < n) (hl : j < y.length) :
    evVal P (opnd T) M (.index t x i) = some (.c (.val (U64 (nth y j)))) := by
  show evIdx P t (opnd T x) (opnd T i) = _
  rw [hx, hi]
  have h1 : (0 : Int) ≤ (j : Int) ∧ (j : Int) < (n : Int) := by omega
  simp only [evIdx, hu, intOf?, hs, h1, and_self, if_true, Int.toNat_natCast, Nat.mul_one, partA, hr]
  rw [if_pos (show j < Arr.size (.a64 y) from hl)]
  rfl
theorem m_make64 {x y : Operand} {el by' a b n : Nat} {ka kb : IntKind} (hu : P.underlying t = some (.slice el)) (hx : opnd T x = .c (.val (.int ka (a : Int)))) (hy : opnd T y = .c (.val (.int kb (b : Int)))) (he : elemOk P el = some (1, by')) (hrep : ∀ n, repArr P el n = some (.a64 (zer64 n))) (h1 : a ≤ b) (h2 : b * by' ≤ 281474976710656) (h3 : b ≤ 9223372036854775807) (hn : M.length = n) :
    evMem P (opnd T) M (.makeSlice t x y) = some (.c (.sl n 0 a b 1), M ++ [.row true (.a64 (zer64 b))]) := by
  show evMakeSlice P M t (opnd T x) (opnd T y) = _
  subst hn
  rw [hx, hy]
  simp only [evMakeSlice, hu, intOf?, he]
  rw [if_pos ⟨by omega, by omega, by rw [← Int.natCast_mul]; omega, by omega⟩]
  simp [hrep]
theorem m_appE64 {s x : Operand} {el by' b n c m : Nat} {own : Bool} {r : List (BitVec 64)} {e2 : TypeId} (hs : opnd T s = .c .esl) (hx : opnd T x = .c (.sl b 0 n c 1)) (hm : M[b]? = some (.row own (.a64 r))) (hu : P.underlying t = some (.slice el)) (hu2 : P.underlying t' = some (.slice e2)) (he : elemOk P el = some (1, by')) (hl : r.length = n) (hb : n * by' ≤ 140737488355328 ∧ n ≤ 9223372036854775807) (hn : M.length = m) :
    evMem P (opnd T) M (.call { callee := .builtin .append, args := #[s, x], argTypes := #[t, t'] }) = some (.c (.sl m 0 n n 1), M ++ [.row true (.a64 r)]) := by
  show evAppend P M t t' (opnd T s) (opnd T x) = _
  subst hn
  rw [hs, hx]
  have hz : Arr.size (.a64 r) = n := hl
  simp [evAppend, hu, noIntT, hu2, he, srcOf, hm, hz, winA, Arr.one, hb.1, hb.2]
theorem m_appE64c {s x : Operand} {el by' b o n c m : Nat} {own : Bool} {r : List (BitVec 64)} {e2 : TypeId} (hs : opnd T s = .c .esl) (hx : opnd T x = .c (.sl b o n c 1)) (hm : M[b]? = some (.row own (.a64 r))) (hu : P.underlying t = some (.slice el)) (hu2 : P.underlying t' = some (.slice e2)) (he : elemOk P el = some (1, by')) (hl : o + n ≤ r.length) (hb : n * by' ≤ 140737488355328 ∧ n ≤ 9223372036854775807) (hn : M.length = m) :
    evMem P (opnd T) M (.call { callee := .builtin .append, args := #[s, x], argTypes := #[t, t'] }) = some (.c (.sl m 0 n n 1), M ++ [.row true (.a64 (cut r o n))]) := by
  show evAppend P M t t' (opnd T s) (opnd T x) = _
  subst hn
  rw [hs, hx]
  have hw : winA (.a64 r) o (n * 1) = .a64 (cut r o n) := by
    unfold winA
    split
    · rename_i h
      have h2 : r.length = n := by have := h.2; simp [Arr.size] at this; omega
      rw [h.1]; subst h2; simp [cut]
    · rw [Nat.mul_one]; rfl
  have hsz : o + n * 1 ≤ Arr.size (.a64 r) := by simp [Arr.size]; exact hl
  have hsrc : srcOf M 1 (.c (.sl b o n c 1)) = some (n, .a64 (cut r o n)) := by
    simp only [srcOf, hm]
    rw [if_pos ⟨trivial, hsz⟩, hw]
  simp [evAppend, hu, noIntT, hu2, he, hsrc, Arr.one, hb.1, hb.2]
theorem m_appN64 {s x : Operand} {el by' b n c m : Nat} {own : Bool} {r : List (BitVec 64)} {e2 : TypeId} (hs : opnd T s = .c .nsl) (hx : opnd T x = .c (.sl b 0 n c 1)) (hm : M[b]? = some (.row own (.a64 r))) (hu : P.underlying t = some (.slice el)) (hu2 : P.underlying t' = some (.slice e2)) (he : elemOk P el = some (1, by')) (hl : r.length = n) (hb : n * by' ≤ 140737488355328 ∧ n ≤ 9223372036854775807) (hn : M.length = m) :
    evMem P (opnd T) M (.call { callee := .builtin .append, args := #[s, x], argTypes := #[t, t'] }) = some (.c (.sl m 0 n n 1), M ++ [.row true (.a64 r)]) := by
  show evAppend P M t t' (opnd T s) (opnd T x) = _
  subst hn
  rw [hs, hx]
  have hz : Arr.size (.a64 r) = n := hl
  simp [evAppend, hu, noIntT, hu2, he, srcOf, hm, hz, winA, Arr.one, hb.1, hb.2]
theorem m_appN64c {s x : Operand} {el by' b o n c m : Nat} {own : Bool} {r : List (BitVec 64)} {e2 : TypeId} (hs : opnd T s = .c .nsl) (hx : opnd T x = .c (.sl b o n c 1)) (hm : M[b]? = some (.row own (.a64 r))) (hu : P.underlying t = some (.slice el)) (hu2 : P.underlying t' = some (.slice e2)) (he : elemOk P el = some (1, by')) (hl : o + n ≤ r.length) (hb : n * by' ≤ 140737488355328 ∧ n ≤ 9223372036854775807) (hn : M.length = m) :
    evMem P (opnd T) M (.call { callee := .builtin .append, args := #[s, x], argTypes := #[t, t'] }) = some (.c (.sl m 0 n n 1), M ++ [.row true (.a64 (cut r o n))]) := by
  show evAppend P M t t' (opnd T s) (opnd T x) = _
  subst hn
  rw [hs, hx]
  have hw : winA (.a64 r) o (n * 1) = .a64 (cut r o n) := by
    unfold winA
    split
    · rename_i h
      have h2 : r.length = n := by have := h.2; simp [Arr.size] at this; omega
      rw [h.1]; subst h2; simp [cut]
    · rw [Nat.mul_one]; rfl
  have hsz : o + n * 1 ≤ Arr.size (.a64 r) := by simp [Arr.size]; exact hl
  have hsrc : srcOf M 1 (.c (.sl b o n c 1)) = some (n, .a64 (cut r o n)) := by
    simp only [srcOf, hm]
    rw [if_pos ⟨trivial, hsz⟩, hw]
  simp [evAppend, hu, noIntT, hu2, he, hsrc, Arr.one, hb.1, hb.2]
theorem s_app64 {s x : Operand} {el by' b0 len cap b n c m : Nat} {own : Bool} {u r : List (BitVec 64)} {e2 : TypeId} (hs : opnd T s = .c (.sl b0 0 len cap 1)) (hms : M[b0]? = some (.row true (.a64 u))) (hx : opnd T x = .c (.sl b 0 n c 1)) (hm : M[b]? = some (.row own (.a64 r))) (hu : P.underlying t = some (.slice el)) (hu2 : P.underlying t' = some (.slice e2)) (he : elemOk P el = some (1, by'))
    (hlu : u.length = len) (hl : r.length = n) (hb : (len + n) * by' ≤ 140737488355328 ∧ len + n ≤ 9223372036854775807 ∧ n * by' ≤ 140737488355328) (hn : M.length = m) (hM : M.set b0 .dead ++ [.row true (.a64 (u ++ r))] = M') (hd : decide (d < N) = true) (hk : WO P k ops l0 ⟨N, upd T d (.c (.sl m 0 (len + n) (len + n) 1)), M'⟩ K) :
    WO P k ops (⟨some d, .call { callee := .builtin .append, args := #[s, x], argTypes := #[t, t'] }, ty, pos, af, none⟩ :: l0) ⟨N, T, M⟩ K :=
  s_mem (by
    show evAppend P M t t' (opnd T s) (opnd T x) = _
    subst hn; subst hM
    rw [hs, hx]
    have hz : Arr.size (.a64 r) = n := hl
    have hz2 : Arr.size (.a64 u) = len := hlu
    have hn9 : n ≤ 9223372036854775807 := by omega
    simp [evAppend, hu, noIntT, hu2, he, srcOf, hm, hms, hz, hz2, winA, Arr.one, Arr.app, hb.1, hb.2.1, hb.2.2, hn9]) hd hk
theorem s_app64c {s x : Operand} {el by' b0 len cap b o n c m : Nat} {own : Bool} {u r : List (BitVec 64)} {e2 : TypeId} (hs : opnd T s = .c (.sl b0 0 len cap 1)) (hms : M[b0]? = some (.row true (.a64 u))) (hx : opnd T x = .c (.sl b o n c 1)) (hm : M[b]? = some (.row own (.a64 r))) (hu : P.underlying t = some (.slice el)) (hu2 : P.underlying t' = some (.slice e2)) (he : elemOk P el = some (1, by'))
    (hlu : u.length = len) (hl : o + n ≤ r.length) (hb : (len + n) * by' ≤ 140737488355328 ∧ len + n ≤ 9223372036854775807 ∧ n * by' ≤ 140737488355328) (hn : M.length = m) (hM : M.set b0 .dead ++ [.row true (.a64 (u ++ cut r o n))] = M') (hd : decide (d < N) = true) (hk : WO P k ops l0 ⟨N, upd T d (.c (.sl m 0 (len + n) (len + n) 1)), M'⟩ K) :
    WO P k ops (⟨some d, .call { callee := .builtin .append, args := #[s, x], argTypes := #[t, t'] }, ty, pos, af, none⟩ :: l0) ⟨N, T, M⟩ K :=
  s_mem (by
    show evAppend P M t t' (opnd T s) (opnd T x) = _
    subst hn; subst hM
    rw [hs, hx]
    have hw : winA (.a64 r) o (n * 1) = .a64 (cut r o n) := by
      unfold winA
      split
      · rename_i h
        have h2 : r.length = n := by have := h.2; simp [Arr.size] at this; omega
        rw [h.1]; subst h2; simp [cut]
      · rw [Nat.mul_one]; rfl
    have hsz : o + n * 1 ≤ Arr.size (.a64 r) := by simp [Arr.size]; exact hl
    have hsrc : srcOf M 1 (.c (.sl b o n c 1)) = some (n, .a64 (cut r o n)) := by
      simp only [srcOf, hm]
      rw [if_pos ⟨trivial, hsz⟩, hw]
    have hz2 : Arr.size (.a64 u) = len := hlu
    have hn9 : n ≤ 9223372036854775807 := by omega
    simp [evAppend, hu, noIntT, hu2, he, hsrc, hms, hz2, winA, Arr.one, Arr.app, hb.1, hb.2.1, hb.2.2, hn9]) hd hk
theorem m_bsI {l : List (Int)} {el by' len n : Nat} {ps : Array (Nat × Operand)} (hu : P.underlying t = some (.slice el)) (he : elemOk P el = some (1, by')) (hd : denseA 0 (ps.toList.map fun p => (p.1, opnd T p.2)) = some (l.map (Value.int .i64))) (hl : ps.toList.length = len) (h0 : ¬ len = 0) (h1 : len ≤ 16777216) (hn : M.length = n) :
    evMem P (opnd T) M (.buildSlice t len ps) = some (.c (.sl n 0 len len 1), M ++ [.row true (.ai l)]) := by
  have hn0 : l ≠ [] := by
    intro e; subst e
    have := denseA_len hd
    have h9 : ps.toList.length = ps.size := by simp
    simp at this
    omega
  rw [m_bs hu he hd hl h0 h1 hn, absI hn0]
theorem v_bldI {l : List (Int)} {n el : Nat} {ps : Array (Nat × Operand)} (hz : (P.info? t).bind (fun i => i.zero.map (·.cells.size)) = some n) (hu : P.underlying t = some (.array n el)) (hs : szT P el = some 1) (hd : denseA 0 (ps.toList.map fun p => (p.1, opnd T p.2)) = some (l.map (Value.int .i64))) (hl : ps.toList.length = n) (h0 : ¬ n = 0) :
    evVal P (opnd T) M (.build t ps) = some (.agg (.ai l)) := by
  show evBuild P t (ps.toList.map fun p => (p.1, opnd T p.2)) = _
  obtain ⟨it, hi, hz2⟩ := Option.bind_eq_some_iff.1 hz
  obtain ⟨z, hz3, hz4⟩ := Option.map_eq_some_iff.1 hz2
  obtain ⟨ie, hie, h1⟩ := Option.map_eq_some_iff.1 hs
  have hn0 : l ≠ [] := by
    intro e; subst e
    have := denseA_len hd
    have h9 : ps.toList.length = ps.size := by simp
    simp at this
    omega
  simp only [evBuild, hi, hu, hz3, hie]
  rw [if_pos ⟨h1, by simpa using hl, hz4⟩, hd]
  simp only [absI hn0]
theorem v_ixI {x i : Operand} {n el j : Nat} {kd : IntKind} {y : List (Int)} (hx : opnd T x = .agg (.ai y)) (hi : opnd T i = .c (.val (.int kd (j : Int)))) (hu : P.underlying t = some (.array n el)) (hs : szT P el = some 1) (hr : isRowT P el = some false) (h0 : j < n) (hl : j < y.length) :
    evVal P (opnd T) M (.index t x i) = some (.c (.val (.int .i64 (geti y j)))) := by
  show evIdx P t (opnd T x) (opnd T i) = _
  rw [hx, hi]
  have h1 : (0 : Int) ≤ (j : Int) ∧ (j : Int) < (n : Int) := by omega
  simp only [evIdx, hu, intOf?, hs, h1, and_self, if_true, Int.toNat_natCast, Nat.mul_one, partA, hr]
  rw [if_pos (show j < Arr.size (.ai y) from hl)]
  rfl
theorem m_makeI {x y : Operand} {el by' a b n : Nat} {ka kb : IntKind} (hu : P.underlying t = some (.slice el)) (hx : opnd T x = .c (.val (.int ka (a : Int)))) (hy : opnd T y = .c (.val (.int kb (b : Int)))) (he : elemOk P el = some (1, by')) (hrep : ∀ n, repArr P el n = some (.ai (zeri n))) (h1 : a ≤ b) (h2 : b * by' ≤ 281474976710656) (h3 : b ≤ 9223372036854775807) (hn : M.length = n) :
    evMem P (opnd T) M (.makeSlice t x y) = some (.c (.sl n 0 a b 1), M ++ [.row true (.ai (zeri b))]) := by
  show evMakeSlice P M t (opnd T x) (opnd T y) = _
  subst hn
  rw [hx, hy]
  simp only [evMakeSlice, hu, intOf?, he]
  rw [if_pos ⟨by omega, by omega, by rw [← Int.natCast_mul]; omega, by omega⟩]
  simp [hrep]
theorem m_appEI {s x : Operand} {el by' b n c m : Nat} {own : Bool} {r : List (Int)} {e2 : TypeId} (hs : opnd T s = .c .esl) (hx : opnd T x = .c (.sl b 0 n c 1)) (hm : M[b]? = some (.row own (.ai r))) (hu : P.underlying t = some (.slice el)) (hu2 : P.underlying t' = some (.slice e2)) (he : elemOk P el = some (1, by')) (hl : r.length = n) (hb : n * by' ≤ 140737488355328 ∧ n ≤ 9223372036854775807) (hn : M.length = m) :
    evMem P (opnd T) M (.call { callee := .builtin .append, args := #[s, x], argTypes := #[t, t'] }) = some (.c (.sl m 0 n n 1), M ++ [.row true (.ai r)]) := by
  show evAppend P M t t' (opnd T s) (opnd T x) = _
  subst hn
  rw [hs, hx]
  have hz : Arr.size (.ai r) = n := hl
  simp [evAppend, hu, noIntT, hu2, he, srcOf, hm, hz, winA, Arr.one, hb.1, hb.2]
theorem m_appEIc {s x : Operand} {el by' b o n c m : Nat} {own : Bool} {r : List (Int)} {e2 : TypeId} (hs : opnd T s = .c .esl) (hx : opnd T x = .c (.sl b o n c 1)) (hm : M[b]? = some (.row own (.ai r))) (hu : P.underlying t = some (.slice el)) (hu2 : P.underlying t' = some (.slice e2)) (he : elemOk P el = some (1, by')) (hl : o + n ≤ r.length) (hb : n * by' ≤ 140737488355328 ∧ n ≤ 9223372036854775807) (hn : M.length = m) :
    evMem P (opnd T) M (.call { callee := .builtin .append, args := #[s, x], argTypes := #[t, t'] }) = some (.c (.sl m 0 n n 1), M ++ [.row true (.ai (cut r o n))]) := by
  show evAppend P M t t' (opnd T s) (opnd T x) = _
  subst hn
  rw [hs, hx]
  have hw : winA (.ai r) o (n * 1) = .ai (cut r o n) := by
    unfold winA
    split
    · rename_i h
      have h2 : r.length = n := by have := h.2; simp [Arr.size] at this; omega
      rw [h.1]; subst h2; simp [cut]
    · rw [Nat.mul_one]; rfl
  have hsz : o + n * 1 ≤ Arr.size (.ai r) := by simp [Arr.size]; exact hl
  have hsrc : srcOf M 1 (.c (.sl b o n c 1)) = some (n, .ai (cut r o n)) := by
    simp only [srcOf, hm]
    rw [if_pos ⟨trivial, hsz⟩, hw]
  simp [evAppend, hu, noIntT, hu2, he, hsrc, Arr.one, hb.1, hb.2]
theorem m_appNI {s x : Operand} {el by' b n c m : Nat} {own : Bool} {r : List (Int)} {e2 : TypeId} (hs : opnd T s = .c .nsl) (hx : opnd T x = .c (.sl b 0 n c 1)) (hm : M[b]? = some (.row own (.ai r))) (hu : P.underlying t = some (.slice el)) (hu2 : P.underlying t' = some (.slice e2)) (he : elemOk P el = some (1, by')) (hl : r.length = n) (hb : n * by' ≤ 140737488355328 ∧ n ≤ 9223372036854775807) (hn : M.length = m) :
    evMem P (opnd T) M (.call { callee := .builtin .append, args := #[s, x], argTypes := #[t, t'] }) = some (.c (.sl m 0 n n 1), M ++ [.row true (.ai r)]) := by
  show evAppend P M t t' (opnd T s) (opnd T x) = _
  subst hn
  rw [hs, hx]
  have hz : Arr.size (.ai r) = n := hl
  simp [evAppend, hu, noIntT, hu2, he, srcOf, hm, hz, winA, Arr.one, hb.1, hb.2]
theorem m_appNIc {s x : Operand} {el by' b o n c m : Nat} {own : Bool} {r : List (Int)} {e2 : TypeId} (hs : opnd T s = .c .nsl) (hx : opnd T x = .c (.sl b o n c 1)) (hm : M[b]? = some (.row own (.ai r))) (hu : P.underlying t = some (.slice el)) (hu2 : P.underlying t' = some (.slice e2)) (he : elemOk P el = some (1, by')) (hl : o + n ≤ r.length) (hb : n * by' ≤ 140737488355328 ∧ n ≤ 9223372036854775807) (hn : M.length = m) :
    evMem P (opnd T) M (.call { callee := .builtin .append, args := #[s, x], argTypes := #[t, t'] }) = some (.c (.sl m 0 n n 1), M ++ [.row true (.ai (cut r o n))]) := by
  show evAppend P M t t' (opnd T s) (opnd T x) = _
  subst hn
  rw [hs, hx]
  have hw : winA (.ai r) o (n * 1) = .ai (cut r o n) := by
    unfold winA
    split
    · rename_i h
      have h2 : r.length = n := by have := h.2; simp [Arr.size] at this; omega
      rw [h.1]; subst h2; simp [cut]
    · rw [Nat.mul_one]; rfl
  have hsz : o + n * 1 ≤ Arr.size (.ai r) := by simp [Arr.size]; exact hl
  have hsrc : srcOf M 1 (.c (.sl b o n c 1)) = some (n, .ai (cut r o n)) := by
    simp only [srcOf, hm]
    rw [if_pos ⟨trivial, hsz⟩, hw]
  simp [evAppend, hu, noIntT, hu2, he, hsrc, Arr.one, hb.1, hb.2]
theorem s_appI {s x : Operand} {el by' b0 len cap b n c m : Nat} {own : Bool} {u r : List (Int)} {e2 : TypeId} (hs : opnd T s = .c (.sl b0 0 len cap 1)) (hms : M[b0]? = some (.row true (.ai u))) (hx : opnd T x = .c (.sl b 0 n c 1)) (hm : M[b]? = some (.row own (.ai r))) (hu : P.underlying t = some (.slice el)) (hu2 : P.underlying t' = some (.slice e2)) (he : elemOk P el = some (1, by'))
    (hlu : u.length = len) (hl : r.length = n) (hb : (len + n) * by' ≤ 140737488355328 ∧ len + n ≤ 9223372036854775807 ∧ n * by' ≤ 140737488355328) (hn : M.length = m) (hM : M.set b0 .dead ++ [.row true (.ai (u ++ r))] = M') (hd : decide (d < N) = true) (hk : WO P k ops l0 ⟨N, upd T d (.c (.sl m 0 (len + n) (len + n) 1)), M'⟩ K) :
    WO P k ops (⟨some d, .call { callee := .builtin .append, args := #[s, x], argTypes := #[t, t'] }, ty, pos, af, none⟩ :: l0) ⟨N, T, M⟩ K :=
  s_mem (by
    show evAppend P M t t' (opnd T s) (opnd T x) = _
    subst hn; subst hM
    rw [hs, hx]
    have hz : Arr.size (.ai r) = n := hl
    have hz2 : Arr.size (.ai u) = len := hlu
    have hn9 : n ≤ 9223372036854775807 := by omega
    simp [evAppend, hu, noIntT, hu2, he, srcOf, hm, hms, hz, hz2, winA, Arr.one, Arr.app, hb.1, hb.2.1, hb.2.2, hn9]) hd hk
theorem s_appIc {s x : Operand} {el by' b0 len cap b o n c m : Nat} {own : Bool} {u r : List (Int)} {e2 : TypeId} (hs : opnd T s = .c (.sl b0 0 len cap 1)) (hms : M[b0]? = some (.row true (.ai u))) (hx : opnd T x = .c (.sl b o n c 1)) (hm : M[b]? = some (.row own (.ai r))) (hu : P.underlying t = some (.slice el)) (hu2 : P.underlying t' = some (.slice e2)) (he : elemOk P el = some (1, by'))
    (hlu : u.length = len) (hl : o + n ≤ r.length) (hb : (len + n) * by' ≤ 140737488355328 ∧ len + n ≤ 9223372036854775807 ∧ n * by' ≤ 140737488355328) (hn : M.length = m) (hM : M.set b0 .dead ++ [.row true (.ai (u ++ cut r o n))] = M') (hd : decide (d < N) = true) (hk : WO P k ops l0 ⟨N, upd T d (.c (.sl m 0 (len + n) (len + n) 1)), M'⟩ K) :
    WO P k ops (⟨some d, .call { callee := .builtin .append, args := #[s, x], argTypes := #[t, t'] }, ty, pos, af, none⟩ :: l0) ⟨N, T, M⟩ K :=
  s_mem (by
    show evAppend P M t t' (opnd T s) (opnd T x) = _
    subst hn; subst hM
    rw [hs, hx]
    have hw : winA (.ai r) o (n * 1) = .ai (cut r o n) := by
      unfold winA
      split
      · rename_i h
        have h2 : r.length = n := by have := h.2; simp [Arr.size] at this; omega
        rw [h.1]; subst h2; simp [cut]
      · rw [Nat.mul_one]; rfl
    have hsz : o + n * 1 ≤ Arr.size (.ai r) := by simp [Arr.size]; exact hl
    have hsrc : srcOf M 1 (.c (.sl b o n c 1)) = some (n, .ai (cut r o n)) := by
      simp only [srcOf, hm]
      rw [if_pos ⟨trivial, hsz⟩, hw]
    have hz2 : Arr.size (.ai u) = len := hlu
    have hn9 : n ≤ 9223372036854775807 := by omega
    simp [evAppend, hu, noIntT, hu2, he, hsrc, hms, hz2, winA, Arr.one, Arr.app, hb.1, hb.2.1, hb.2.2, hn9]) hd hk
theorem v_pickT {c a b : Operand} {p : Bool} {v : AV} (hc : opnd T c = .c (.val (.bool p))) (hp : p = true) (ha : opnd T a = v) : evVal P (opnd T) M (.pick c a b) = some v := by
  subst hp
  simp only [evVal, hc, if_true, ha]
theorem v_pickF {c a b : Operand} {p : Bool} {v : AV} (hc : opnd T c = .c (.val (.bool p))) (hp : p = false) (hb : opnd T b = v) : evVal P (opnd T) M (.pick c a b) = some v := by
  subst hp
  simp only [evVal, hc, hb]
  rfl
theorem s_mark {x : Operand} {e b o len cap sz m : Nat} {y : List (BitVec 8)} {u : Option TypeDesc} (hx : opnd T x = .c (.sl b o len cap sz)) (ht : P.underlying t = some (.slice e)) (hu : P.underlying e = u) (he : u = some (.int .u8)) (hm : M[b]? = some (.row true (.a8 y))) (h0 : 0 < len) (hn : M.length = m) (hM : M.set b .dead ++ [.row false (.a8 y)] = M') (hd : decide (d < N) = true)
    (hk : WO P k ops l0 ⟨N, upd T d (.c (.sl m o len cap sz)), M'⟩ K) : WO P k ops (⟨some d, .convert t t x, ty, pos, af, none⟩ :: l0) ⟨N, T, M⟩ K :=
  s_mem (by
    subst hn; subst hM; subst he
    show evConvM P M t t (opnd T x) = _
    rw [hx]
    simp [evConvM, evStrBytes, evMark, ht, hu, hm, h0]) hd hk
theorem v_unxor64 {x : Operand} {a : BitVec 64} (hx : opnd T x = .c (.val (U64 a))) : evVal P (opnd T) M (.unOp .xor t x) = some (.c (.val (U64 (~~~a)))) := by
  simp only [evVal, hx, not64]; rfl
theorem v_unxor32 {x : Operand} {a : BitVec 32} (hx : opnd T x = .c (.val (U32 a))) : evVal P (opnd T) M (.unOp .xor t x) = some (.c (.val (U32 (~~~a)))) := by
  simp only [evVal, hx, not32]; rfl
theorem v_unnotB {x : Operand} {a : Bool} (hx : opnd T x = .c (.val (.bool a))) : evVal P (opnd T) M (.unOp .not t x) = some (.c (.val (.bool (!a)))) := by
  simp only [evVal, hx]; rfl
theorem v_eqlB {x y : Operand} {a b : Bool} (hx : opnd T x = .c (.val (.bool a))) (hy : opnd T y = .c (.val (.bool b))) (hu : P.underlying t = some .bool) : evVal P (opnd T) M (.binOp .eql t x y t') = some (.c (.val (.bool (a == b)))) := by
  show evBin P .eql t x y (opnd T x) (opnd T y) = _
  rw [hx, hy]; simp [evBin, isBoolT, hu]
theorem v_neqB {x y : Operand} {a b : Bool} (hx : opnd T x = .c (.val (.bool a))) (hy : opnd T y = .c (.val (.bool b))) (hu : P.underlying t = some .bool) : evVal P (opnd T) M (.binOp .neq t x y t') = some (.c (.val (.bool (!(a == b))))) := by
  show evBin P .neq t x y (opnd T x) (opnd T y) = _
  rw [hx, hy]; simp [evBin, isBoolT, hu]
theorem v_eqlI {x y : Operand} {a b : Int} (hx : opnd T x = .c (.val (.int .i64 a))) (hy : opnd T y = .c (.val (.int .i64 b))) : evVal P (opnd T) M (.binOp .eql t x y t') = some (.c (.val (.bool (a == b)))) := v_bin hx hy eqlI
theorem v_neqI {x y : Operand} {a b : Int} (hx : opnd T x = .c (.val (.int .i64 a))) (hy : opnd T y = .c (.val (.int .i64 b))) : evVal P (opnd T) M (.binOp .neq t x y t') = some (.c (.val (.bool (a != b)))) := v_bin hx hy neqI
theorem m_str {x : Operand} {s2 : ByteArray} {e : TypeId} {n : Nat} {s t : TypeId} (hx : opnd T x = .c (.val (.string s2))) (hs : P.underlying s = some .string) (ht : P.underlying t = some (.slice e)) (he : P.underlying e = some (.int .u8)) (hn : M.length = n) :
    evMem P (opnd T) M (.convert s t x) = some (.c (.sl n 0 s2.size s2.size 1), M ++ [.row false (.a8 (strBytes s2))]) := by
  show evConvM P M s t (opnd T x) = _
  subst hn
  rw [hx]; simp only [evConvM, evStrBytes, hs, ht, he]
/- calls of functions of the program -/
/-- A call that changes nothing that was there. -/
theorem e_call {f : FuncId} {ops2 : Array Operand} {ts : Array TypeId} {args : List AV} {mc mc' : Mem} {bs : List Nat} {v v' : AV} {news : Mem} (h : Ev P (.call f args mc) (.val v mc')) (hf : (P.funcs[f]?).any (fun fn => fn.body.isSome && !(fn.name == "runtime.NumGoroutine")) = true)
    (hin : canon 0 (ops2.toList.map (opnd T)) M = some (args, mc, bs)) (hM : backRows bs mc' (backRen bs M.length) 0 M = M) (hN : (mc'.drop bs.length).map (Row.ren (backRen bs M.length)) = news) (hv : v.ren (backRen bs M.length) = v') :
    Ev P (.op (.call { callee := .value (.func f), args := ops2, argTypes := ts }) (opnd T) M) (.val v' (M ++ news)) := by
  have := Ev.fn (c := { callee := .value (.func f), args := ops2, argTypes := ts }) (e := opnd T) f rfl rfl hf hin h
  simp only [linkOut, hM, hN, hv] at this
  exact this
/-- A call that only looks at what was there. -/
theorem e_callR {f : FuncId} {ops2 : Array Operand} {ts : Array TypeId} {args : List AV} {mc mc' : Mem} {bs : List Nat} {v v' : AV} {news : Mem} (h : Ev P (.call f args mc) (.val v mc')) (hf : (P.funcs[f]?).any (fun fn => fn.body.isSome && !(fn.name == "runtime.NumGoroutine")) = true)
    (hin : canon 0 (ops2.toList.map (opnd T)) (roMem M) = some (args, mc, bs)) (hM : backRows bs mc' (backRen bs (roMem M).length) 0 (roMem M) = roMem M) (hN : (mc'.drop bs.length).map (Row.ren (backRen bs (roMem M).length)) = news) (hv : v.ren (backRen bs (roMem M).length) = v') :
    Ev P (.op (.call { callee := .value (.func f), args := ops2, argTypes := ts }) (opnd T) M) (.val v' (M ++ news)) :=
  .ro (e_call h hf hin hM hN hv)
/-- A call that takes its only slice over. -/
theorem e_callK {f : FuncId} {ops2 : Array Operand} {ts : Array TypeId} {args : List AV} {mc mc' : Mem} {bs : List Nat} {v v' : AV} {news M1 : Mem} (h : Ev P (.call f args mc) (.val v mc')) (hf : (P.funcs[f]?).any (fun fn => fn.body.isSome && !(fn.name == "runtime.NumGoroutine")) = true)
    (hin : canon 0 (ops2.toList.map (opnd T)) M = some (args, mc, bs)) (hM : backRows bs mc' (backRen bs M.length) 0 M = M1) (hN : (mc'.drop bs.length).map (Row.ren (backRen bs M.length)) = news) (hv : v.ren (backRen bs M.length) = v') (hA : M1 ++ news = M') :
    Ev P (.op (.call { callee := .value (.func f), args := ops2, argTypes := ts }) (opnd T) M) (.val v' M') := by
  have := Ev.fn (c := { callee := .value (.func f), args := ops2, argTypes := ts }) (e := opnd T) f rfl rfl hf hin h
  simp only [linkOut, hM, hN, hv, hA] at this
  exact this
/-- A call told by rows under other names: r says where the callee's rows lie. -/
def viewOf (r : List (Option Nat)) (j : Nat) : Option Nat := (r[j]?).bind id
theorem viewOf_some {r : List (Option Nat)} {j i : Nat} (h : viewOf r j = some i) : j < r.length ∧ r[j]? = some (some i) := by
  unfold viewOf at h
  obtain ⟨x, hx, hi⟩ := Option.bind_eq_some_iff.1 h
  cases (show x = some i from hi)
  exact ⟨(List.getElem?_eq_some_iff.1 hx).1, hx⟩
theorem e_add {f : FuncId} {x y z : Operand} {ts : Array TypeId} {a b : BitVec 64} {cv : Value} {c : BitVec 64} (hf : ExtIs P f add64Entry) (hx : opnd T x = .c (.val (U64 a))) (hy : opnd T y = .c (.val (U64 b))) (hz : opnd T z = .c (.val cv)) (hcv : cv = U64 c) (hc : c.toNat ≤ 1) :
    Ev P (.op (.call { callee := .value (.func f), args := #[x, y, z], argTypes := ts }) (opnd T) M) (.val (addAV a b c) (M ++ [])) := by
  rw [List.append_nil]
  refine Ev.add64 f rfl rfl hf ?_
  show ev64 addAV [opnd T x, opnd T y, opnd T z] = _
  rw [hx, hy, hz, hcv]
  simp [ev64, hc]
theorem e_sub {f : FuncId} {x y z : Operand} {ts : Array TypeId} {a b : BitVec 64} {cv : Value} {c : BitVec 64} (hf : ExtIs P f sub64Entry) (hx : opnd T x = .c (.val (U64 a))) (hy : opnd T y = .c (.val (U64 b))) (hz : opnd T z = .c (.val cv)) (hcv : cv = U64 c) (hc : c.toNat ≤ 1) :
    Ev P (.op (.call { callee := .value (.func f), args := #[x, y, z], argTypes := ts }) (opnd T) M) (.val (subAV a b c) (M ++ [])) := by
  rw [List.append_nil]
  refine Ev.sub64 f rfl rfl hf ?_
  show ev64 subAV [opnd T x, opnd T y, opnd T z] = _
  rw [hx, hy, hz, hcv]
  simp [ev64, hc]
end
end Go.Proofs.Ytlnekohkbhidnaa
