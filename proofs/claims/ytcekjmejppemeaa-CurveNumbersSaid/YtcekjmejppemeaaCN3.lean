/- The texts AvTac2, AvTac3, PlainL, FBytes, FPrime, FNum, AvPart, AvMore, AvTac4, AvMore2, AvStruct, AvTy, FCarry, FOf, FCarried, FLBytes, FAddSub, merged into one. -/
import Derived.Test.YtcekjmejppemeaaCN2
/- Abstract data: further steps of a walk: slices, literals, appending, calls. -/
namespace Go.Proofs.Ytcekjmejppemeaa
open Go.RowKit
section
variable {P : Program} {k N : Nat} {ops : Array Oper} {d : Nat} {ty : TypeId} {pos : String} {af : Array Edge} {l0 : List Oper} {T : Nat → AV} {M M' : Mem} {K : St → Prop} {t t' : TypeId}
theorem v_lenS {x : Operand} {b o n cap sz el : Nat} (hx : opnd T x = .c (.sl b o n cap sz)) (hu : P.underlying t = some (.slice el)) : evVal P (opnd T) M (.call { callee := .builtin .len, args := #[x], argTypes := #[t] }) = some (.c (.val (.int .i64 (n : Int)))) := by
  show evLen P t (opnd T x) = _
  rw [hx]; simp [evLen, isSliceT, hu]
theorem v_lenN {x : Operand} {el : Nat} (hx : opnd T x = .c .nsl) (hu : P.underlying t = some (.slice el)) : evVal P (opnd T) M (.call { callee := .builtin .len, args := #[x], argTypes := #[t] }) = some (.c (.val (.int .i64 ((0 : Nat) : Int)))) := by
  show evLen P t (opnd T x) = _
  rw [hx]; simp [evLen, isSliceT, hu]
theorem v_lenE {x : Operand} {el : Nat} (hx : opnd T x = .c .esl) (hu : P.underlying t = some (.slice el)) : evVal P (opnd T) M (.call { callee := .builtin .len, args := #[x], argTypes := #[t] }) = some (.c (.val (.int .i64 ((0 : Nat) : Int)))) := by
  show evLen P t (opnd T x) = _
  rw [hx]; simp [evLen, isSliceT, hu]
theorem v_lenA {x : Operand} {n el : Nat} {y : Arr} (hu : P.underlying t = some (.array n el)) (hx : opnd T x = .agg y) : evVal P (opnd T) M (.call { callee := .builtin .len, args := #[x], argTypes := #[t] }) = some (.c (.val (.int .i64 (n : Int)))) := by
  show evLen P t (opnd T x) = _
  rw [hx]; simp [evLen, hu]
theorem v_lenP {x : Operand} {n el b o : Nat} (hu : P.underlying t = some (.array n el)) (hx : opnd T x = .c (.ptr b o)) : evVal P (opnd T) M (.call { callee := .builtin .len, args := #[x], argTypes := #[t] }) = some (.c (.val (.int .i64 (n : Int)))) := by
  show evLen P t (opnd T x) = _
  rw [hx]; simp [evLen, hu]
theorem v_minN {x y : Operand} {ts : Array TypeId} {a b : Nat} (hx : opnd T x = .c (.val (.int .i64 (a : Int)))) (hy : opnd T y = .c (.val (.int .i64 (b : Int)))) : evVal P (opnd T) M (.call { callee := .builtin .min, args := #[x, y], argTypes := ts }) = some (.c (.val (.int .i64 ((min a b : Nat) : Int)))) := by
  show evMin [opnd T x, opnd T y] = _
  rw [hx, hy]; simp only [evMin, if_true]
  congr 4
  split <;> omega
theorem v_maxN {x y : Operand} {ts : Array TypeId} {a b : Nat} (hx : opnd T x = .c (.val (.int .i64 (a : Int)))) (hy : opnd T y = .c (.val (.int .i64 (b : Int)))) : evVal P (opnd T) M (.call { callee := .builtin .max, args := #[x, y], argTypes := ts }) = some (.c (.val (.int .i64 ((max a b : Nat) : Int)))) := by
  show evMax [opnd T x, opnd T y] = _
  rw [hx, hy]; simp only [evMax, if_true]
  congr 4
  split <;> omega
theorem v_arrP {x : Operand} {n el b o len cap sz : Nat} (hx : opnd T x = .c (.sl b o len cap sz)) (hu : P.underlying t = some (.array n el)) (h1 : n ≤ len) (h0 : 0 < n) : evVal P (opnd T) M (.sliceToArrayPointer t x) = some (.c (.ptr b o)) := by
  show evArrPtr P t (opnd T x) = _
  rw [hx]; simp [evArrPtr, hu, h1, h0]
theorem v_slA {x : Operand} {lo hi : Option Operand} {n el b o sz l h : Nat} {own : Bool} {y : Arr} (hx : opnd T x = .c (.ptr b o)) (hu : P.underlying t = some (.array n el)) (hs : szT P el = some sz) (hm : M[b]? = some (.row own y))
    (hl : bnd 0 (lo.map (opnd T)) = some (l : Int)) (hh : bnd n (hi.map (opnd T)) = some (h : Int)) (h1 : l ≤ h) (h2 : h ≤ n) (hf : o + n * sz ≤ y.size) : evVal P (opnd T) M (.slice t x lo hi none) = some (.c (.sl b (o + l * sz) (h - l) (n - l) sz)) := by
  show evSlice P M t (opnd T x) (lo.map (opnd T)) (hi.map (opnd T)) = _
  rw [hx]
  simp only [evSlice, hu, hs, hl, hh, hm]
  rw [if_pos ⟨by omega, by omega, by omega, hf⟩]
  congr 3 <;> omega
theorem v_slA1 {x : Operand} {lo hi : Option Operand} {n el b l h len cp : Nat} {own : Bool} {y : Arr} (hx : opnd T x = .c (.ptr b 0)) (hu : P.underlying t = some (.array n el)) (hs : szT P el = some 1) (hm : M[b]? = some (.row own y))
    (hl : bnd 0 (lo.map (opnd T)) = some (l : Int)) (hh : bnd n (hi.map (opnd T)) = some (h : Int)) (h1 : l ≤ h) (h2 : h ≤ n) (hf : n ≤ y.size) (hlen : h - l = len) (hcp : n - l = cp) : evVal P (opnd T) M (.slice t x lo hi none) = some (.c (.sl b l len cp 1)) := by
  subst hlen; subst hcp
  rw [v_slA hx hu hs hm hl hh h1 h2 (by omega), Nat.zero_add, Nat.mul_one]
theorem v_slS {x : Operand} {lo hi : Option Operand} {el b o sz len cap l h : Nat} (hx : opnd T x = .c (.sl b o len cap sz)) (hu : P.underlying t = some (.slice el)) (hs : szT P el = some sz)
    (hl : bnd 0 (lo.map (opnd T)) = some (l : Int)) (hh : bnd len (hi.map (opnd T)) = some (h : Int)) (h1 : l ≤ h) (h2 : h ≤ max len cap) : evVal P (opnd T) M (.slice t x lo hi none) = some (.c (.sl b (o + l * sz) (h - l) (cap - l) sz)) := by
  show evSlice P M t (opnd T x) (lo.map (opnd T)) (hi.map (opnd T)) = _
  rw [hx]
  simp only [evSlice, hu, hl, hh]
  rw [if_pos ⟨hs, by omega, by omega, by omega⟩]
  congr 3 <;> omega
theorem v_slS1 {x : Operand} {lo hi : Option Operand} {el b len cap l h : Nat} (hx : opnd T x = .c (.sl b 0 len cap 1)) (hu : P.underlying t = some (.slice el)) (hs : szT P el = some 1)
    (hl : bnd 0 (lo.map (opnd T)) = some (l : Int)) (hh : bnd len (hi.map (opnd T)) = some (h : Int)) (h1 : l ≤ h) (h2 : h ≤ max len cap) : evVal P (opnd T) M (.slice t x lo hi none) = some (.c (.sl b l (h - l) (cap - l) 1)) := by
  rw [v_slS hx hu hs hl hh h1 h2, Nat.zero_add, Nat.mul_one]
theorem v_slSo {x : Operand} {lo hi : Option Operand} {el b o len cap l h : Nat} (hx : opnd T x = .c (.sl b o len cap 1)) (hu : P.underlying t = some (.slice el)) (hs : szT P el = some 1)
    (hl : bnd 0 (lo.map (opnd T)) = some (l : Int)) (hh : bnd len (hi.map (opnd T)) = some (h : Int)) (h1 : l ≤ h) (h2 : h ≤ max len cap) : evVal P (opnd T) M (.slice t x lo hi none) = some (.c (.sl b (o + l) (h - l) (cap - l) 1)) := by
  rw [v_slS hx hu hs hl hh h1 h2, Nat.mul_one]
theorem v_slS0 {x : Operand} {hi : Option Operand} {el b o sz len cap h : Nat} (hx : opnd T x = .c (.sl b o len cap sz)) (hu : P.underlying t = some (.slice el)) (hs : szT P el = some sz)
    (hh : bnd len (hi.map (opnd T)) = some (h : Int)) (h2 : h ≤ max len cap) : evVal P (opnd T) M (.slice t x none hi none) = some (.c (.sl b o h cap sz)) := by
  rw [v_slS (lo := none) (l := 0) hx hu hs rfl hh (Nat.zero_le _) h2]; simp
/- literals -/
theorem all_map {α : Type} {f : Value → Option α} {g : α → Value} (h : ∀ x, f (g x) = some x) : ∀ l : List α, all? f (l.map g) = some l
  | [] => rfl
  | x :: l => by simp [all?, h, all_map h l]
theorem abs8 (l : List (BitVec 8)) : absArr (l.map U8) = .a8 l := by unfold absArr; rw [all_map w8?_U8]
theorem all_none {α β : Type} {f : Value → Option α} {g : β → Value} (h : ∀ x, f (g x) = none) : ∀ l : List β, l ≠ [] → all? f (l.map g) = none
  | [], hl => absurd rfl hl
  | x :: l, _ => by simp [all?, h]
theorem abs32 {l : List (BitVec 32)} (hl : l ≠ []) : absArr (l.map U32) = .a32 l := by unfold absArr; rw [all_none (fun _ => rfl) l hl, all_map w32?_U32]
theorem abs64 {l : List (BitVec 64)} (hl : l ≠ []) : absArr (l.map U64) = .a64 l := by unfold absArr; rw [all_none (fun _ => rfl) l hl, all_none (fun _ => rfl) l hl, all_map w64?_U64]
theorem absI {l : List Int} (hl : l ≠ []) : absArr (l.map (Value.int .i64)) = .ai l := by unfold absArr; rw [all_none (fun _ => rfl) l hl, all_none (fun _ => rfl) l hl, all_none (fun _ => rfl) l hl, all_map (f := i?) (g := Value.int .i64) (fun _ => rfl)]
theorem m_bs0 {el sz by' : Nat} (hu : P.underlying t = some (.slice el)) (he : elemOk P el = some (sz, by')) : evMem P (opnd T) M (.buildSlice t 0 #[]) = some (.c .esl, M ++ []) := by
  show evBuildSlice P M t 0 [] = _
  simp [evBuildSlice, hu, he]
theorem m_bs {el by' len n : Nat} {ps : Array (Nat × Operand)} {vs : List Value} (hu : P.underlying t = some (.slice el)) (he : elemOk P el = some (1, by')) (hd : denseA 0 (ps.toList.map fun p => (p.1, opnd T p.2)) = some vs) (hl : ps.toList.length = len) (h0 : ¬ len = 0) (h1 : len ≤ 16777216) (hn : M.length = n) :
    evMem P (opnd T) M (.buildSlice t len ps) = some (.c (.sl n 0 len len 1), M ++ [.row true (absArr vs)]) := by
  show evBuildSlice P M t len (ps.toList.map fun p => (p.1, opnd T p.2)) = _
  subst hn
  simp only [evBuildSlice, hu, he, Nat.mul_one]
  rw [if_neg h0, if_pos h1, if_pos ⟨trivial, by simpa using hl⟩, hd]
theorem m_bs8 {l : List (BitVec 8)} {el by' len n : Nat} {ps : Array (Nat × Operand)} (hu : P.underlying t = some (.slice el)) (he : elemOk P el = some (1, by')) (hd : denseA 0 (ps.toList.map fun p => (p.1, opnd T p.2)) = some (l.map U8)) (hl : ps.toList.length = len) (h0 : ¬ len = 0) (h1 : len ≤ 16777216) (hn : M.length = n) :
    evMem P (opnd T) M (.buildSlice t len ps) = some (.c (.sl n 0 len len 1), M ++ [.row true (.a8 l)]) := by
  have hn0 : l ≠ [] := by
    intro e; subst e
    have := denseA_len hd
    have h9 : ps.toList.length = ps.size := by simp
    simp at this
    omega
  rw [m_bs hu he hd hl h0 h1 hn, abs8 l]
theorem v_bld8 {l : List (BitVec 8)} {n el : Nat} {ps : Array (Nat × Operand)} (hz : (P.info? t).bind (fun i => i.zero.map (·.cells.size)) = some n) (hu : P.underlying t = some (.array n el)) (hs : szT P el = some 1) (hd : denseA 0 (ps.toList.map fun p => (p.1, opnd T p.2)) = some (l.map U8)) (hl : ps.toList.length = n) (h0 : ¬ n = 0) :
    evVal P (opnd T) M (.build t ps) = some (.agg (.a8 l)) := by
  show evBuild P t (ps.toList.map fun p => (p.1, opnd T p.2)) = _
  obtain ⟨it, hi, hz2⟩ := Option.bind_eq_some_iff.1 hz
  obtain ⟨z, hz3, hz4⟩ := Option.map_eq_some_iff.1 hz2
  obtain ⟨ie, hie, h1⟩ := Option.map_eq_some_iff.1 hs
  have hn0 : l ≠ [] := by
    intro e; subst e
    have := denseA_len hd
    have h9 : ps.toList.length = ps.size := by simp
    simp at this
    omega
  simp only [evBuild, hi, hu, hz3, hie]
  rw [if_pos ⟨h1, by simpa using hl, hz4⟩, hd]
  simp only [abs8 l]
theorem v_ix8 {x i : Operand} {n el j : Nat} {kd : IntKind} {y : List (BitVec 8)} (hx : opnd T x = .agg (.a8 y)) (hi : opnd T i = .c (.val (.int kd (j : Int)))) (hu : P.underlying t = some (.array n el)) (hs : szT P el = some 1) (hr : isRowT P el = some false) (h0 : j < n) (hl : j < y.length) :
    evVal P (opnd T) M (.index t x i) = some (.c (.val (U8 (nth y j)))) := by
  show evIdx P t (opnd T x) (opnd T i) = _
  rw [hx, hi]
  have h1 : (0 : Int) ≤ (j : Int) ∧ (j : Int) < (n : Int) := by omega
  simp only [evIdx, hu, intOf?, hs, h1, and_self, if_true, Int.toNat_natCast, Nat.mul_one, partA, hr]
  rw [if_pos (show j < Arr.size (.a8 y) from hl)]
  rfl
theorem m_make8 {x y : Operand} {el by' a b n : Nat} {ka kb : IntKind} (hu : P.underlying t = some (.slice el)) (hx : opnd T x = .c (.val (.int ka (a : Int)))) (hy : opnd T y = .c (.val (.int kb (b : Int)))) (he : elemOk P el = some (1, by')) (hrep : ∀ n, repArr P el n = some (.a8 (zer8 n))) (h1 : a ≤ b) (h2 : b * by' ≤ 281474976710656) (h3 : b ≤ 9223372036854775807) (hn : M.length = n) :
    evMem P (opnd T) M (.makeSlice t x y) = some (.c (.sl n 0 a b 1), M ++ [.row true (.a8 (zer8 b))]) := by
  show evMakeSlice P M t (opnd T x) (opnd T y) = _
  subst hn
  rw [hx, hy]
  simp only [evMakeSlice, hu, intOf?, he]
  rw [if_pos ⟨by omega, by omega, by rw [← Int.natCast_mul]; omega, by omega⟩]
  simp [hrep]
theorem m_appE8 {s x : Operand} {el by' b n c m : Nat} {own : Bool} {r : List (BitVec 8)} {e2 : TypeId} (hs : opnd T s = .c .esl) (hx : opnd T x = .c (.sl b 0 n c 1)) (hm : M[b]? = some (.row own (.a8 r))) (hu : P.underlying t = some (.slice el)) (hu2 : P.underlying t' = some (.slice e2)) (he : elemOk P el = some (1, by')) (hl : r.length = n) (hb : n * by' ≤ 140737488355328 ∧ n ≤ 9223372036854775807) (hn : M.length = m) :
    evMem P (opnd T) M (.call { callee := .builtin .append, args := #[s, x], argTypes := #[t, t'] }) = some (.c (.sl m 0 n n 1), M ++ [.row true (.a8 r)]) := by
  show evAppend P M t t' (opnd T s) (opnd T x) = _
  subst hn
  rw [hs, hx]
  have hz : Arr.size (.a8 r) = n := hl
  simp [evAppend, hu, noIntT, hu2, he, srcOf, hm, hz, winA, Arr.one, hb.1, hb.2]
theorem m_appE8c {s x : Operand} {el by' b o n c m : Nat} {own : Bool} {r : List (BitVec 8)} {e2 : TypeId} (hs : opnd T s = .c .esl) (hx : opnd T x = .c (.sl b o n c 1)) (hm : M[b]? = some (.row own (.a8 r))) (hu : P.underlying t = some (.slice el)) (hu2 : P.underlying t' = some (.slice e2)) (he : elemOk P el = some (1, by')) (hl : o + n ≤ r.length) (hb : n * by' ≤ 140737488355328 ∧ n ≤ 9223372036854775807) (hn : M.length = m) :
    evMem P (opnd T) M (.call { callee := .builtin .append, args := #[s, x], argTypes := #[t, t'] }) = some (.c (.sl m 0 n n 1), M ++ [.row true (.a8 (cut r o n))]) := by
  show evAppend P M t t' (opnd T s) (opnd T x) = _
  subst hn
  rw [hs, hx]
  have hw : winA (.a8 r) o (n * 1) = .a8 (cut r o n) := by
    unfold winA
    split
    · rename_i h
      have h2 : r.length = n := by have := h.2; simp [Arr.size] at this; omega
      rw [h.1]; subst h2; simp [cut]
    · rw [Nat.mul_one]; rfl
  have hsz : o + n * 1 ≤ Arr.size (.a8 r) := by simp [Arr.size]; exact hl
  have hsrc : srcOf M 1 (.c (.sl b o n c 1)) = some (n, .a8 (cut r o n)) := by
    simp only [srcOf, hm]
    rw [if_pos ⟨trivial, hsz⟩, hw]
  simp [evAppend, hu, noIntT, hu2, he, hsrc, Arr.one, hb.1, hb.2]
theorem m_appN8 {s x : Operand} {el by' b n c m : Nat} {own : Bool} {r : List (BitVec 8)} {e2 : TypeId} (hs : opnd T s = .c .nsl) (hx : opnd T x = .c (.sl b 0 n c 1)) (hm : M[b]? = some (.row own (.a8 r))) (hu : P.underlying t = some (.slice el)) (hu2 : P.underlying t' = some (.slice e2)) (he : elemOk P el = some (1, by')) (hl : r.length = n) (hb : n * by' ≤ 140737488355328 ∧ n ≤ 9223372036854775807) (hn : M.length = m) :
    evMem P (opnd T) M (.call { callee := .builtin .append, args := #[s, x], argTypes := #[t, t'] }) = some (.c (.sl m 0 n n 1), M ++ [.row true (.a8 r)]) := by
  show evAppend P M t t' (opnd T s) (opnd T x) = _
  subst hn
  rw [hs, hx]
  have hz : Arr.size (.a8 r) = n := hl
  simp [evAppend, hu, noIntT, hu2, he, srcOf, hm, hz, winA, Arr.one, hb.1, hb.2]
theorem m_appN8c {s x : Operand} {el by' b o n c m : Nat} {own : Bool} {r : List (BitVec 8)} {e2 : TypeId} (hs : opnd T s = .c .nsl) (hx : opnd T x = .c (.sl b o n c 1)) (hm : M[b]? = some (.row own (.a8 r))) (hu : P.underlying t = some (.slice el)) (hu2 : P.underlying t' = some (.slice e2)) (he : elemOk P el = some (1, by')) (hl : o + n ≤ r.length) (hb : n * by' ≤ 140737488355328 ∧ n ≤ 9223372036854775807) (hn : M.length = m) :
    evMem P (opnd T) M (.call { callee := .builtin .append, args := #[s, x], argTypes := #[t, t'] }) = some (.c (.sl m 0 n n 1), M ++ [.row true (.a8 (cut r o n))]) := by
  show evAppend P M t t' (opnd T s) (opnd T x) = _
  subst hn
  rw [hs, hx]
  have hw : winA (.a8 r) o (n * 1) = .a8 (cut r o n) := by
    unfold winA
    split
    · rename_i h
      have h2 : r.length = n := by have := h.2; simp [Arr.size] at this; omega
      rw [h.1]; subst h2; simp [cut]
    · rw [Nat.mul_one]; rfl
  have hsz : o + n * 1 ≤ Arr.size (.a8 r) := by simp [Arr.size]; exact hl
  have hsrc : srcOf M 1 (.c (.sl b o n c 1)) = some (n, .a8 (cut r o n)) := by
    simp only [srcOf, hm]
    rw [if_pos ⟨trivial, hsz⟩, hw]
  simp [evAppend, hu, noIntT, hu2, he, hsrc, Arr.one, hb.1, hb.2]
theorem s_app8 {s x : Operand} {el by' b0 len cap b n c m : Nat} {own : Bool} {u r : List (BitVec 8)} {e2 : TypeId} (hs : opnd T s = .c (.sl b0 0 len cap 1)) (hms : M[b0]? = some (.row true (.a8 u))) (hx : opnd T x = .c (.sl b 0 n c 1)) (hm : M[b]? = some (.row own (.a8 r))) (hu : P.underlying t = some (.slice el)) (hu2 : P.underlying t' = some (.slice e2)) (he : elemOk P el = some (1, by'))
    (hlu : u.length = len) (hl : r.length = n) (hb : (len + n) * by' ≤ 140737488355328 ∧ len + n ≤ 9223372036854775807 ∧ n * by' ≤ 140737488355328) (hn : M.length = m) (hM : M.set b0 .dead ++ [.row true (.a8 (u ++ r))] = M') (hd : decide (d < N) = true) (hk : WO P k ops l0 ⟨N, upd T d (.c (.sl m 0 (len + n) (len + n) 1)), M'⟩ K) :
    WO P k ops (⟨some d, .call { callee := .builtin .append, args := #[s, x], argTypes := #[t, t'] }, ty, pos, af, none⟩ :: l0) ⟨N, T, M⟩ K :=
  s_mem (by
    show evAppend P M t t' (opnd T s) (opnd T x) = _
    subst hn; subst hM
    rw [hs, hx]
    have hz : Arr.size (.a8 r) = n := hl
    have hz2 : Arr.size (.a8 u) = len := hlu
    have hn9 : n ≤ 9223372036854775807 := by omega
    simp [evAppend, hu, noIntT, hu2, he, srcOf, hm, hms, hz, hz2, winA, Arr.one, Arr.app, hb.1, hb.2.1, hb.2.2, hn9]) hd hk
theorem s_app8c {s x : Operand} {el by' b0 len cap b o n c m : Nat} {own : Bool} {u r : List (BitVec 8)} {e2 : TypeId} (hs : opnd T s = .c (.sl b0 0 len cap 1)) (hms : M[b0]? = some (.row true (.a8 u))) (hx : opnd T x = .c (.sl b o n c 1)) (hm : M[b]? = some (.row own (.a8 r))) (hu : P.underlying t = some (.slice el)) (hu2 : P.underlying t' = some (.slice e2)) (he : elemOk P el = some (1, by'))
    (hlu : u.length = len) (hl : o + n ≤ r.length) (hb : (len + n) * by' ≤ 140737488355328 ∧ len + n ≤ 9223372036854775807 ∧ n * by' ≤ 140737488355328) (hn : M.length = m) (hM : M.set b0 .dead ++ [.row true (.a8 (u ++ cut r o n))] = M') (hd : decide (d < N) = true) (hk : WO P k ops l0 ⟨N, upd T d (.c (.sl m 0 (len + n) (len + n) 1)), M'⟩ K) :
    WO P k ops (⟨some d, .call { callee := .builtin .append, args := #[s, x], argTypes := #[t, t'] }, ty, pos, af, none⟩ :: l0) ⟨N, T, M⟩ K :=
  s_mem (by
    show evAppend P M t t' (opnd T s) (opnd T x) = _
    subst hn; subst hM
    rw [hs, hx]
    have hw : winA (.a8 r) o (n * 1) = .a8 (cut r o n) := by
      unfold winA
      split
      · rename_i h
        have h2 : r.length = n := by have := h.2; simp [Arr.size] at this; omega
        rw [h.1]; subst h2; simp [cut]
      · rw [Nat.mul_one]; rfl
    have hsz : o + n * 1 ≤ Arr.size (.a8 r) := by simp [Arr.size]; exact hl
    have hsrc : srcOf M 1 (.c (.sl b o n c 1)) = some (n, .a8 (cut r o n)) := by
      simp only [srcOf, hm]
      rw [if_pos ⟨trivial, hsz⟩, hw]
    have hz2 : Arr.size (.a8 u) = len := hlu
    have hn9 : n ≤ 9223372036854775807 := by omega
    simp [evAppend, hu, noIntT, hu2, he, hsrc, hms, hz2, winA, Arr.one, Arr.app, hb.1, hb.2.1, hb.2.2, hn9]) hd hk
theorem m_bs32 {l : List (BitVec 32)} {el by' len n : Nat} {ps : Array (Nat × Operand)} (hu : P.underlying t = some (.slice el)) (he : elemOk P el = some (1, by')) (hd : denseA 0 (ps.toList.map fun p => (p.1, opnd T p.2)) = some (l.map U32)) (hl : ps.toList.length = len) (h0 : ¬ len = 0) (h1 : len ≤ 16777216) (hn : M.length = n) :
    evMem P (opnd T) M (.buildSlice t len ps) = some (.c (.sl n 0 len len 1), M ++ [.row true (.a32 l)]) := by
  have hn0 : l ≠ [] := by
    intro e; subst e
    have := denseA_len hd
    have h9 : ps.toList.length = ps.size := by simp
    simp at this
    omega
  rw [m_bs hu he hd hl h0 h1 hn, abs32 hn0]
theorem v_bld32 {l : List (BitVec 32)} {n el : Nat} {ps : Array (Nat × Operand)} (hz : (P.info? t).bind (fun i => i.zero.map (·.cells.size)) = some n) (hu : P.underlying t = some (.array n el)) (hs : szT P el = some 1) (hd : denseA 0 (ps.toList.map fun p => (p.1, opnd T p.2)) = some (l.map U32)) (hl : ps.toList.length = n) (h0 : ¬ n = 0) :
    evVal P (opnd T) M (.build t ps) = some (.agg (.a32 l)) := by
  show evBuild P t (ps.toList.map fun p => (p.1, opnd T p.2)) = _
  obtain ⟨it, hi, hz2⟩ := Option.bind_eq_some_iff.1 hz
  obtain ⟨z, hz3, hz4⟩ := Option.map_eq_some_iff.1 hz2
  obtain ⟨ie, hie, h1⟩ := Option.map_eq_some_iff.1 hs
  have hn0 : l ≠ [] := by
    intro e; subst e
    have := denseA_len hd
    have h9 : ps.toList.length = ps.size := by simp
    simp at this
    omega
  simp only [evBuild, hi, hu, hz3, hie]
  rw [if_pos ⟨h1, by simpa using hl, hz4⟩, hd]
  simp only [abs32 hn0]
theorem v_ix32 {x i : Operand} {n el j : Nat} {kd : IntKind} {y : List (BitVec 32)} (hx : opnd T x = .agg (.a32 y)) (hi : opnd T i = .c (.val (.int kd (j : Int)))) (hu : P.underlying t = some (.array n el)) (hs : szT P el = some 1) (hr : isRowT P el = some false) (h0 : j < n) (hl : j < y.length) :
    evVal P (opnd T) M (.index t x i) = some (.c (.val (U32 (nth y j)))) := by
  show evIdx P t (opnd T x) (opnd T i) = _
  rw [hx, hi]
  have h1 : (0 : Int) ≤ (j : Int) ∧ (j : Int) < (n : Int) := by omega
  simp only [evIdx, hu, intOf?, hs, h1, and_self, if_true, Int.toNat_natCast, Nat.mul_one, partA, hr]
  rw [if_pos (show j < Arr.size (.a32 y) from hl)]
  rfl
theorem m_make32 {x y : Operand} {el by' a b n : Nat} {ka kb : IntKind} (hu : P.underlying t = some (.slice el)) (hx : opnd T x = .c (.val (.int ka (a : Int)))) (hy : opnd T y = .c (.val (.int kb (b : Int)))) (he : elemOk P el = some (1, by')) (hrep : ∀ n, repArr P el n = some (.a32 (zer32 n))) (h1 : a ≤ b) (h2 : b * by' ≤ 281474976710656) (h3 : b ≤ 9223372036854775807) (hn : M.length = n) :
    evMem P (opnd T) M (.makeSlice t x y) = some (.c (.sl n 0 a b 1), M ++ [.row true (.a32 (zer32 b))]) := by
  show evMakeSlice P M t (opnd T x) (opnd T y) = _
  subst hn
  rw [hx, hy]
  simp only [evMakeSlice, hu, intOf?, he]
  rw [if_pos ⟨by omega, by omega, by rw [← Int.natCast_mul]; omega, by omega⟩]
  simp [hrep]
theorem m_appE32 {s x : Operand} {el by' b n c m : Nat} {own : Bool} {r : List (BitVec 32)} {e2 : TypeId} (hs : opnd T s = .c .esl) (hx : opnd T x = .c (.sl b 0 n c 1)) (hm : M[b]? = some (.row own (.a32 r))) (hu : P.underlying t = some (.slice el)) (hu2 : P.underlying t' = some (.slice e2)) (he : elemOk P el = some (1, by')) (hl : r.length = n) (hb : n * by' ≤ 140737488355328 ∧ n ≤ 9223372036854775807) (hn : M.length = m) :
    evMem P (opnd T) M (.call { callee := .builtin .append, args := #[s, x], argTypes := #[t, t'] }) = some (.c (.sl m 0 n n 1), M ++ [.row true (.a32 r)]) := by
  show evAppend P M t t' (opnd T s) (opnd T x) = _
  subst hn
  rw [hs, hx]
  have hz : Arr.size (.a32 r) = n := hl
  simp [evAppend, hu, noIntT, hu2, he, srcOf, hm, hz, winA, Arr.one, hb.1, hb.2]
theorem m_appE32c {s x : Operand} {el by' b o n c m : Nat} {own : Bool} {r : List (BitVec 32)} {e2 : TypeId} (hs : opnd T s = .c .esl) (hx : opnd T x = .c (.sl b o n c 1)) (hm : M[b]? = some (.row own (.a32 r))) (hu : P.underlying t = some (.slice el)) (hu2 : P.underlying t' = some (.slice e2)) (he : elemOk P el = some (1, by')) (hl : o + n ≤ r.length) (hb : n * by' ≤ 140737488355328 ∧ n ≤ 9223372036854775807) (hn : M.length = m) :
    evMem P (opnd T) M (.call { callee := .builtin .append, args := #[s, x], argTypes := #[t, t'] }) = some (.c (.sl m 0 n n 1), M ++ [.row true (.a32 (cut r o n))]) := by
  show evAppend P M t t' (opnd T s) (opnd T x) = _
  subst hn
  rw [hs, hx]
  have hw : winA (.a32 r) o (n * 1) = .a32 (cut r o n) := by
    unfold winA
    split
    · rename_i h
      have h2 : r.length = n := by have := h.2; simp [Arr.size] at this; omega
      rw [h.1]; subst h2; simp [cut]
    · rw [Nat.mul_one]; rfl
  have hsz : o + n * 1 ≤ Arr.size (.a32 r) := by simp [Arr.size]; exact hl
  have hsrc : srcOf M 1 (.c (.sl b o n c 1)) = some (n, .a32 (cut r o n)) := by
    simp only [srcOf, hm]
    rw [if_pos ⟨trivial, hsz⟩, hw]
  simp [evAppend, hu, noIntT, hu2, he, hsrc, Arr.one, hb.1, hb.2]
theorem m_appN32 {s x : Operand} {el by' b n c m : Nat} {own : Bool} {r : List (BitVec 32)} {e2 : TypeId} (hs : opnd T s = .c .nsl) (hx : opnd T x = .c (.sl b 0 n c 1)) (hm : M[b]? = some (.row own (.a32 r))) (hu : P.underlying t = some (.slice el)) (hu2 : P.underlying t' = some (.slice e2)) (he : elemOk P el = some (1, by')) (hl : r.length = n) (hb : n * by' ≤ 140737488355328 ∧ n ≤ 9223372036854775807) (hn : M.length = m) :
    evMem P (opnd T) M (.call { callee := .builtin .append, args := #[s, x], argTypes := #[t, t'] }) = some (.c (.sl m 0 n n 1), M ++ [.row true (.a32 r)]) := by
  show evAppend P M t t' (opnd T s) (opnd T x) = _
  subst hn
  rw [hs, hx]
  have hz : Arr.size (.a32 r) = n := hl
  simp [evAppend, hu, noIntT, hu2, he, srcOf, hm, hz, winA, Arr.one, hb.1, hb.2]
theorem m_appN32c {s x : Operand} {el by' b o n c m : Nat} {own : Bool} {r : List (BitVec 32)} {e2 : TypeId} (hs : opnd T s = .c .nsl) (hx : opnd T x = .c (.sl b o n c 1)) (hm : M[b]? = some (.row own (.a32 r))) (hu : P.underlying t = some (.slice el)) (hu2 : P.underlying t' = some (.slice e2)) (he : elemOk P el = some (1, by')) (hl : o + n ≤ r.length) (hb : n * by' ≤ 140737488355328 ∧ n ≤ 9223372036854775807) (hn : M.length = m) :
    evMem P (opnd T) M (.call { callee := .builtin .append, args := #[s, x], argTypes := #[t, t'] }) = some (.c (.sl m 0 n n 1), M ++ [.row true (.a32 (cut r o n))]) := by
  show evAppend P M t t' (opnd T s) (opnd T x) = _
  subst hn
  rw [hs, hx]
  have hw : winA (.a32 r) o (n * 1) = .a32 (cut r o n) := by
    unfold winA
    split
    · rename_i h
      have h2 : r.length = n := by have := h.2; simp [Arr.size] at this; omega
      rw [h.1]; subst h2; simp [cut]
    · rw [Nat.mul_one]; rfl
  have hsz : o + n * 1 ≤ Arr.size (.a32 r) := by simp [Arr.size]; exact hl
  have hsrc : srcOf M 1 (.c (.sl b o n c 1)) = some (n, .a32 (cut r o n)) := by
    simp only [srcOf, hm]
    rw [if_pos ⟨trivial, hsz⟩, hw]
  simp [evAppend, hu, noIntT, hu2, he, hsrc, Arr.one, hb.1, hb.2]
theorem s_app32 {s x : Operand} {el by' b0 len cap b n c m : Nat} {own : Bool} {u r : List (BitVec 32)} {e2 : TypeId} (hs : opnd T s = .c (.sl b0 0 len cap 1)) (hms : M[b0]? = some (.row true (.a32 u))) (hx : opnd T x = .c (.sl b 0 n c 1)) (hm : M[b]? = some (.row own (.a32 r))) (hu : P.underlying t = some (.slice el)) (hu2 : P.underlying t' = some (.slice e2)) (he : elemOk P el = some (1, by'))
    (hlu : u.length = len) (hl : r.length = n) (hb : (len + n) * by' ≤ 140737488355328 ∧ len + n ≤ 9223372036854775807 ∧ n * by' ≤ 140737488355328) (hn : M.length = m) (hM : M.set b0 .dead ++ [.row true (.a32 (u ++ r))] = M') (hd : decide (d < N) = true) (hk : WO P k ops l0 ⟨N, upd T d (.c (.sl m 0 (len + n) (len + n) 1)), M'⟩ K) :
    WO P k ops (⟨some d, .call { callee := .builtin .append, args := #[s, x], argTypes := #[t, t'] }, ty, pos, af, none⟩ :: l0) ⟨N, T, M⟩ K :=
  s_mem (by
    show evAppend P M t t' (opnd T s) (opnd T x) = _
    subst hn; subst hM
    rw [hs, hx]
    have hz : Arr.size (.a32 r) = n := hl
    have hz2 : Arr.size (.a32 u) = len := hlu
    have hn9 : n ≤ 9223372036854775807 := by omega
    simp [evAppend, hu, noIntT, hu2, he, srcOf, hm, hms, hz, hz2, winA, Arr.one, Arr.app, hb.1, hb.2.1, hb.2.2, hn9]) hd hk
theorem s_app32c {s x : Operand} {el by' b0 len cap b o n c m : Nat} {own : Bool} {u r : List (BitVec 32)} {e2 : TypeId} (hs : opnd T s = .c (.sl b0 0 len cap 1)) (hms : M[b0]? = some (.row true (.a32 u))) (hx : opnd T x = .c (.sl b o n c 1)) (hm : M[b]? = some (.row own (.a32 r))) (hu : P.underlying t = some (.slice el)) (hu2 : P.underlying t' = some (.slice e2)) (he : elemOk P el = some (1, by'))
    (hlu : u.length = len) (hl : o + n ≤ r.length) (hb : (len + n) * by' ≤ 140737488355328 ∧ len + n ≤ 9223372036854775807 ∧ n * by' ≤ 140737488355328) (hn : M.length = m) (hM : M.set b0 .dead ++ [.row true (.a32 (u ++ cut r o n))] = M') (hd : decide (d < N) = true) (hk : WO P k ops l0 ⟨N, upd T d (.c (.sl m 0 (len + n) (len + n) 1)), M'⟩ K) :
    WO P k ops (⟨some d, .call { callee := .builtin .append, args := #[s, x], argTypes := #[t, t'] }, ty, pos, af, none⟩ :: l0) ⟨N, T, M⟩ K :=
  s_mem (by
    show evAppend P M t t' (opnd T s) (opnd T x) = _
    subst hn; subst hM
    rw [hs, hx]
    have hw : winA (.a32 r) o (n * 1) = .a32 (cut r o n) := by
      unfold winA
      split
      · rename_i h
        have h2 : r.length = n := by have := h.2; simp [Arr.size] at this; omega
        rw [h.1]; subst h2; simp [cut]
      · rw [Nat.mul_one]; rfl
    have hsz : o + n * 1 ≤ Arr.size (.a32 r) := by simp [Arr.size]; exact hl
    have hsrc : srcOf M 1 (.c (.sl b o n c 1)) = some (n, .a32 (cut r o n)) := by
      simp only [srcOf, hm]
      rw [if_pos ⟨trivial, hsz⟩, hw]
    have hz2 : Arr.size (.a32 u) = len := hlu
    have hn9 : n ≤ 9223372036854775807 := by omega
    simp [evAppend, hu, noIntT, hu2, he, hsrc, hms, hz2, winA, Arr.one, Arr.app, hb.1, hb.2.1, hb.2.2, hn9]) hd hk
theorem m_bs64 {l : List (BitVec 64)} {el by' len n : Nat} {ps : Array (Nat × Operand)} (hu : P.underlying t = some (.slice el)) (he : elemOk P el = some (1, by')) (hd : denseA 0 (ps.toList.map fun p => (p.1, opnd T p.2)) = some (l.map U64)) (hl : ps.toList.length = len) (h0 : ¬ len = 0) (h1 : len ≤ 16777216) (hn : M.length = n) :
    evMem P (opnd T) M (.buildSlice t len ps) = some (.c (.sl n 0 len len 1), M ++ [.row true (.a64 l)]) := by
  have hn0 : l ≠ [] := by
    intro e; subst e
    have := denseA_len hd
    have h9 : ps.toList.length = ps.size := by simp
    simp at this
    omega
  rw [m_bs hu he hd hl h0 h1 hn, abs64 hn0]
theorem v_bld64 {l : List (BitVec 64)} {n el : Nat} {ps : Array (Nat × Operand)} (hz : (P.info? t).bind (fun i => i.zero.map (·.cells.size)) = some n) (hu : P.underlying t = some (.array n el)) (hs : szT P el = some 1) (hd : denseA 0 (ps.toList.map fun p => (p.1, opnd T p.2)) = some (l.map U64)) (hl : ps.toList.length = n) (h0 : ¬ n = 0) :
    evVal P (opnd T) M (.build t ps) = some (.agg (.a64 l)) := by
  show evBuild P t (ps.toList.map fun p => (p.1, opnd T p.2)) = _
  obtain ⟨it, hi, hz2⟩ := Option.bind_eq_some_iff.1 hz
  obtain ⟨z, hz3, hz4⟩ := Option.map_eq_some_iff.1 hz2
  obtain ⟨ie, hie, h1⟩ := Option.map_eq_some_iff.1 hs
  have hn0 : l ≠ [] := by
    intro e; subst e
    have := denseA_len hd
    have h9 : ps.toList.length = ps.size := by simp
    simp at this
    omega
  simp only [evBuild, hi, hu, hz3, hie]
  rw [if_pos ⟨h1, by simpa using hl, hz4⟩, hd]
  simp only [abs64 hn0]
theorem v_ix64 {x i : Operand} {n el j : Nat} {kd : IntKind} {y : List (BitVec 64)} (hx : opnd T x = .agg (.a64 y)) (hi : opnd T i = .c (.val (.int kd (j : Int)))) (hu : P.underlying t = some (.array n el)) (hs : szT P el = some 1) (hr : isRowT P el = some false) (h0 : j < n) (hl : j < y.length) :
    evVal P (opnd T) M (.index t x i) = some (.c (.val (U64 (nth y j)))) := by
  show evIdx P t (opnd T x) (opnd T i) = _
  rw [hx, hi]
  have h1 : (0 : Int) ≤ (j : Int) ∧ (j : Int) < (n : Int) := by omega
  simp only [evIdx, hu, intOf?, hs, h1, and_self, if_true, Int.toNat_natCast, Nat.mul_one, partA, hr]
  rw [if_pos (show j < Arr.size (.a64 y) from hl)]
  rfl
theorem m_make64 {x y : Operand} {el by' a b n : Nat} {ka kb : IntKind} (hu : P.underlying t = some (.slice el)) (hx : opnd T x = .c (.val (.int ka (a : Int)))) (hy : opnd T y = .c (.val (.int kb (b : Int)))) (he : elemOk P el = some (1, by')) (hrep : ∀ n, repArr P el n = some (.a64 (zer64 n))) (h1 : a ≤ b) (h2 : b * by' ≤ 281474976710656) (h3 : b ≤ 9223372036854775807) (hn : M.length = n) :
    evMem P (opnd T) M (.makeSlice t x y) = some (.c (.sl n 0 a b 1), M ++ [.row true (.a64 (zer64 b))]) := by
  show evMakeSlice P M t (opnd T x) (opnd T y) = _
  subst hn
  rw [hx, hy]
  simp only [evMakeSlice, hu, intOf?, he]
  rw [if_pos ⟨by omega, by omega, by rw [← Int.natCast_mul]; omega, by omega⟩]
  simp [hrep]
theorem m_appE64 {s x : Operand} {el by' b n c m : Nat} {own : Bool} {r : List (BitVec 64)} {e2 : TypeId} (hs : opnd T s = .c .esl) (hx : opnd T x = .c (.sl b 0 n c 1)) (hm : M[b]? = some (.row own (.a64 r))) (hu : P.underlying t = some (.slice el)) (hu2 : P.underlying t' = some (.slice e2)) (he : elemOk P el = some (1, by')) (hl : r.length = n) (hb : n * by' ≤ 140737488355328 ∧ n ≤ 9223372036854775807) (hn : M.length = m) :
    evMem P (opnd T) M (.call { callee := .builtin .append, args := #[s, x], argTypes := #[t, t'] }) = some (.c (.sl m 0 n n 1), M ++ [.row true (.a64 r)]) := by
  show evAppend P M t t' (opnd T s) (opnd T x) = _
  subst hn
  rw [hs, hx]
  have hz : Arr.size (.a64 r) = n := hl
  simp [evAppend, hu, noIntT, hu2, he, srcOf, hm, hz, winA, Arr.one, hb.1, hb.2]
theorem m_appE64c {s x : Operand} {el by' b o n c m : Nat} {own : Bool} {r : List (BitVec 64)} {e2 : TypeId} (hs : opnd T s = .c .esl) (hx : opnd T x = .c (.sl b o n c 1)) (hm : M[b]? = some (.row own (.a64 r))) (hu : P.underlying t = some (.slice el)) (hu2 : P.underlying t' = some (.slice e2)) (he : elemOk P el = some (1, by')) (hl : o + n ≤ r.length) (hb : n * by' ≤ 140737488355328 ∧ n ≤ 9223372036854775807) (hn : M.length = m) :
    evMem P (opnd T) M (.call { callee := .builtin .append, args := #[s, x], argTypes := #[t, t'] }) = some (.c (.sl m 0 n n 1), M ++ [.row true (.a64 (cut r o n))]) := by
  show evAppend P M t t' (opnd T s) (opnd T x) = _
  subst hn
  rw [hs, hx]
  have hw : winA (.a64 r) o (n * 1) = .a64 (cut r o n) := by
    unfold winA
    split
    · rename_i h
      have h2 : r.length = n := by have := h.2; simp [Arr.size] at this; omega
      rw [h.1]; subst h2; simp [cut]
    · rw [Nat.mul_one]; rfl
  have hsz : o + n * 1 ≤ Arr.size (.a64 r) := by simp [Arr.size]; exact hl
  have hsrc : srcOf M 1 (.c (.sl b o n c 1)) = some (n, .a64 (cut r o n)) := by
    simp only [srcOf, hm]
    rw [if_pos ⟨trivial, hsz⟩, hw]
  simp [evAppend, hu, noIntT, hu2, he, hsrc, Arr.one, hb.1, hb.2]
theorem m_appN64 {s x : Operand} {el by' b n c m : Nat} {own : Bool} {r : List (BitVec 64)} {e2 : TypeId} (hs : opnd T s = .c .nsl) (hx : opnd T x = .c (.sl b 0 n c 1)) (hm : M[b]? = some (.row own (.a64 r))) (hu : P.underlying t = some (.slice el)) (hu2 : P.underlying t' = some (.slice e2)) (he : elemOk P el = some (1, by')) (hl : r.length = n) (hb : n * by' ≤ 140737488355328 ∧ n ≤ 9223372036854775807) (hn : M.length = m) :
    evMem P (opnd T) M (.call { callee := .builtin .append, args := #[s, x], argTypes := #[t, t'] }) = some (.c (.sl m 0 n n 1), M ++ [.row true (.a64 r)]) := by
  show evAppend P M t t' (opnd T s) (opnd T x) = _
  subst hn
  rw [hs, hx]
  have hz : Arr.size (.a64 r) = n := hl
  simp [evAppend, hu, noIntT, hu2, he, srcOf, hm, hz, winA, Arr.one, hb.1, hb.2]
theorem m_appN64c {s x : Operand} {el by' b o n c m : Nat} {own : Bool} {r : List (BitVec 64)} {e2 : TypeId} (hs : opnd T s = .c .nsl) (hx : opnd T x = .c (.sl b o n c 1)) (hm : M[b]? = some (.row own (.a64 r))) (hu : P.underlying t = some (.slice el)) (hu2 : P.underlying t' = some (.slice e2)) (he : elemOk P el = some (1, by')) (hl : o + n ≤ r.length) (hb : n * by' ≤ 140737488355328 ∧ n ≤ 9223372036854775807) (hn : M.length = m) :
    evMem P (opnd T) M (.call { callee := .builtin .append, args := #[s, x], argTypes := #[t, t'] }) = some (.c (.sl m 0 n n 1), M ++ [.row true (.a64 (cut r o n))]) := by
  show evAppend P M t t' (opnd T s) (opnd T x) = _
  subst hn
  rw [hs, hx]
  have hw : winA (.a64 r) o (n * 1) = .a64 (cut r o n) := by
    unfold winA
    split
    · rename_i h
      have h2 : r.length = n := by have := h.2; simp [Arr.size] at this; omega
      rw [h.1]; subst h2; simp [cut]
    · rw [Nat.mul_one]; rfl
  have hsz : o + n * 1 ≤ Arr.size (.a64 r) := by simp [Arr.size]; exact hl
  have hsrc : srcOf M 1 (.c (.sl b o n c 1)) = some (n, .a64 (cut r o n)) := by
    simp only [srcOf, hm]
    rw [if_pos ⟨trivial, hsz⟩, hw]
  simp [evAppend, hu, noIntT, hu2, he, hsrc, Arr.one, hb.1, hb.2]
theorem s_app64 {s x : Operand} {el by' b0 len cap b n c m : Nat} {own : Bool} {u r : List (BitVec 64)} {e2 : TypeId} (hs : opnd T s = .c (.sl b0 0 len cap 1)) (hms : M[b0]? = some (.row true (.a64 u))) (hx : opnd T x = .c (.sl b 0 n c 1)) (hm : M[b]? = some (.row own (.a64 r))) (hu : P.underlying t = some (.slice el)) (hu2 : P.underlying t' = some (.slice e2)) (he : elemOk P el = some (1, by'))
    (hlu : u.length = len) (hl : r.length = n) (hb : (len + n) * by' ≤ 140737488355328 ∧ len + n ≤ 9223372036854775807 ∧ n * by' ≤ 140737488355328) (hn : M.length = m) (hM : M.set b0 .dead ++ [.row true (.a64 (u ++ r))] = M') (hd : decide (d < N) = true) (hk : WO P k ops l0 ⟨N, upd T d (.c (.sl m 0 (len + n) (len + n) 1)), M'⟩ K) :
    WO P k ops (⟨some d, .call { callee := .builtin .append, args := #[s, x], argTypes := #[t, t'] }, ty, pos, af, none⟩ :: l0) ⟨N, T, M⟩ K :=
  s_mem (by
    show evAppend P M t t' (opnd T s) (opnd T x) = _
    subst hn; subst hM
    rw [hs, hx]
    have hz : Arr.size (.a64 r) = n := hl
    have hz2 : Arr.size (.a64 u) = len := hlu
    have hn9 : n ≤ 9223372036854775807 := by omega
    simp [evAppend, hu, noIntT, hu2, he, srcOf, hm, hms, hz, hz2, winA, Arr.one, Arr.app, hb.1, hb.2.1, hb.2.2, hn9]) hd hk
theorem s_app64c {s x : Operand} {el by' b0 len cap b o n c m : Nat} {own : Bool} {u r : List (BitVec 64)} {e2 : TypeId} (hs : opnd T s = .c (.sl b0 0 len cap 1)) (hms : M[b0]? = some (.row true (.a64 u))) (hx : opnd T x = .c (.sl b o n c 1)) (hm : M[b]? = some (.row own (.a64 r))) (hu : P.underlying t = some (.slice el)) (hu2 : P.underlying t' = some (.slice e2)) (he : elemOk P el = some (1, by'))
    (hlu : u.length = len) (hl : o + n ≤ r.length) (hb : (len + n) * by' ≤ 140737488355328 ∧ len + n ≤ 9223372036854775807 ∧ n * by' ≤ 140737488355328) (hn : M.length = m) (hM : M.set b0 .dead ++ [.row true (.a64 (u ++ cut r o n))] = M') (hd : decide (d < N) = true) (hk : WO P k ops l0 ⟨N, upd T d (.c (.sl m 0 (len + n) (len + n) 1)), M'⟩ K) :
    WO P k ops (⟨some d, .call { callee := .builtin .append, args := #[s, x], argTypes := #[t, t'] }, ty, pos, af, none⟩ :: l0) ⟨N, T, M⟩ K :=
  s_mem (by
    show evAppend P M t t' (opnd T s) (opnd T x) = _
    subst hn; subst hM
    rw [hs, hx]
    have hw : winA (.a64 r) o (n * 1) = .a64 (cut r o n) := by
      unfold winA
      split
      · rename_i h
        have h2 : r.length = n := by have := h.2; simp [Arr.size] at this; omega
        rw [h.1]; subst h2; simp [cut]
      · rw [Nat.mul_one]; rfl
    have hsz : o + n * 1 ≤ Arr.size (.a64 r) := by simp [Arr.size]; exact hl
    have hsrc : srcOf M 1 (.c (.sl b o n c 1)) = some (n, .a64 (cut r o n)) := by
      simp only [srcOf, hm]
      rw [if_pos ⟨trivial, hsz⟩, hw]
    have hz2 : Arr.size (.a64 u) = len := hlu
    have hn9 : n ≤ 9223372036854775807 := by omega
    simp [evAppend, hu, noIntT, hu2, he, hsrc, hms, hz2, winA, Arr.one, Arr.app, hb.1, hb.2.1, hb.2.2, hn9]) hd hk
theorem m_bsI {l : List (Int)} {el by' len n : Nat} {ps : Array (Nat × Operand)} (hu : P.underlying t = some (.slice el)) (he : elemOk P el = some (1, by')) (hd : denseA 0 (ps.toList.map fun p => (p.1, opnd T p.2)) = some (l.map (Value.int .i64))) (hl : ps.toList.length = len) (h0 : ¬ len = 0) (h1 : len ≤ 16777216) (hn : M.length = n) :
    evMem P (opnd T) M (.buildSlice t len ps) = some (.c (.sl n 0 len len 1), M ++ [.row true (.ai l)]) := by
  have hn0 : l ≠ [] := by
    intro e; subst e
    have := denseA_len hd
    have h9 : ps.toList.length = ps.size := by simp
    simp at this
    omega
  rw [m_bs hu he hd hl h0 h1 hn, absI hn0]
theorem v_bldI {l : List (Int)} {n el : Nat} {ps : Array (Nat × Operand)} (hz : (P.info? t).bind (fun i => i.zero.map (·.cells.size)) = some n) (hu : P.underlying t = some (.array n el)) (hs : szT P el = some 1) (hd : denseA 0 (ps.toList.map fun p => (p.1, opnd T p.2)) = some (l.map (Value.int .i64))) (hl : ps.toList.length = n) (h0 : ¬ n = 0) :
    evVal P (opnd T) M (.build t ps) = some (.agg (.ai l)) := by
  show evBuild P t (ps.toList.map fun p => (p.1, opnd T p.2)) = _
  obtain ⟨it, hi, hz2⟩ := Option.bind_eq_some_iff.1 hz
  obtain ⟨z, hz3, hz4⟩ := Option.map_eq_some_iff.1 hz2
  obtain ⟨ie, hie, h1⟩ := Option.map_eq_some_iff.1 hs
  have hn0 : l ≠ [] := by
    intro e; subst e
    have := denseA_len hd
    have h9 : ps.toList.length = ps.size := by simp
    simp at this
    omega
  simp only [evBuild, hi, hu, hz3, hie]
  rw [if_pos ⟨h1, by simpa using hl, hz4⟩, hd]
  simp only [absI hn0]
theorem v_ixI {x i : Operand} {n el j : Nat} {kd : IntKind} {y : List (Int)} (hx : opnd T x = .agg (.ai y)) (hi : opnd T i = .c (.val (.int kd (j : Int)))) (hu : P.underlying t = some (.array n el)) (hs : szT P el = some 1) (hr : isRowT P el = some false) (h0 : j < n) (hl : j < y.length) :
    evVal P (opnd T) M (.index t x i) = some (.c (.val (.int .i64 (geti y j)))) := by
  show evIdx P t (opnd T x) (opnd T i) = _
  rw [hx, hi]
  have h1 : (0 : Int) ≤ (j : Int) ∧ (j : Int) < (n : Int) := by omega
  simp only [evIdx, hu, intOf?, hs, h1, and_self, if_true, Int.toNat_natCast, Nat.mul_one, partA, hr]
  rw [if_pos (show j < Arr.size (.ai y) from hl)]
  rfl
theorem m_makeI {x y : Operand} {el by' a b n : Nat} {ka kb : IntKind} (hu : P.underlying t = some (.slice el)) (hx : opnd T x = .c (.val (.int ka (a : Int)))) (hy : opnd T y = .c (.val (.int kb (b : Int)))) (he : elemOk P el = some (1, by')) (hrep : ∀ n, repArr P el n = some (.ai (zeri n))) (h1 : a ≤ b) (h2 : b * by' ≤ 281474976710656) (h3 : b ≤ 9223372036854775807) (hn : M.length = n) :
    evMem P (opnd T) M (.makeSlice t x y) = some (.c (.sl n 0 a b 1), M ++ [.row true (.ai (zeri b))]) := by
  show evMakeSlice P M t (opnd T x) (opnd T y) = _
  subst hn
  rw [hx, hy]
  simp only [evMakeSlice, hu, intOf?, he]
  rw [if_pos ⟨by omega, by omega, by rw [← Int.natCast_mul]; omega, by omega⟩]
  simp [hrep]
theorem m_appEI {s x : Operand} {el by' b n c m : Nat} {own : Bool} {r : List (Int)} {e2 : TypeId} (hs : opnd T s = .c .esl) (hx : opnd T x = .c (.sl b 0 n c 1)) (hm : M[b]? = some (.row own (.ai r))) (hu : P.underlying t = some (.slice el)) (hu2 : P.underlying t' = some (.slice e2)) (he : elemOk P el = some (1, by')) (hl : r.length = n) (hb : n * by' ≤ 140737488355328 ∧ n ≤ 9223372036854775807) (hn : M.length = m) :
    evMem P (opnd T) M (.call { callee := .builtin .append, args := #[s, x], argTypes := #[t, t'] }) = some (.c (.sl m 0 n n 1), M ++ [.row true (.ai r)]) := by
  show evAppend P M t t' (opnd T s) (opnd T x) = _
  subst hn
  rw [hs, hx]
  have hz : Arr.size (.ai r) = n := hl
  simp [evAppend, hu, noIntT, hu2, he, srcOf, hm, hz, winA, Arr.one, hb.1, hb.2]
theorem m_appEIc {s x : Operand} {el by' b o n c m : Nat} {own : Bool} {r : List (Int)} {e2 : TypeId} (hs : opnd T s = .c .esl) (hx : opnd T x = .c (.sl b o n c 1)) (hm : M[b]? = some (.row own (.ai r))) (hu : P.underlying t = some (.slice el)) (hu2 : P.underlying t' = some (.slice e2)) (he : elemOk P el = some (1, by')) (hl : o + n ≤ r.length) (hb : n * by' ≤ 140737488355328 ∧ n ≤ 9223372036854775807) (hn : M.length = m) :
    evMem P (opnd T) M (.call { callee := .builtin .append, args := #[s, x], argTypes := #[t, t'] }) = some (.c (.sl m 0 n n 1), M ++ [.row true (.ai (cut r o n))]) := by
  show evAppend P M t t' (opnd T s) (opnd T x) = _
  subst hn
  rw [hs, hx]
  have hw : winA (.ai r) o (n * 1) = .ai (cut r o n) := by
    unfold winA
    split
    · rename_i h
      have h2 : r.length = n := by have := h.2; simp [Arr.size] at this; omega
      rw [h.1]; subst h2; simp [cut]
    · rw [Nat.mul_one]; rfl
  have hsz : o + n * 1 ≤ Arr.size (.ai r) := by simp [Arr.size]; exact hl
  have hsrc : srcOf M 1 (.c (.sl b o n c 1)) = some (n, .ai (cut r o n)) := by
    simp only [srcOf, hm]
    rw [if_pos ⟨trivial, hsz⟩, hw]
  simp [evAppend, hu, noIntT, hu2, he, hsrc, Arr.one, hb.1, hb.2]
theorem m_appNI {s x : Operand} {el by' b n c m : Nat} {own : Bool} {r : List (Int)} {e2 : TypeId} (hs : opnd T s = .c .nsl) (hx : opnd T x = .c (.sl b 0 n c 1)) (hm : M[b]? = some (.row own (.ai r))) (hu : P.underlying t = some (.slice el)) (hu2 : P.underlying t' = some (.slice e2)) (he : elemOk P el = some (1, by')) (hl : r.length = n) (hb : n * by' ≤ 140737488355328 ∧ n ≤ 9223372036854775807) (hn : M.length = m) :
    evMem P (opnd T) M (.call { callee := .builtin .append, args := #[s, x], argTypes := #[t, t'] }) = some (.c (.sl m 0 n n 1), M ++ [.row true (.ai r)]) := by
  show evAppend P M t t' (opnd T s) (opnd T x) = _
  subst hn
  rw [hs, hx]
  have hz : Arr.size (.ai r) = n := hl
  simp [evAppend, hu, noIntT, hu2, he, srcOf, hm, hz, winA, Arr.one, hb.1, hb.2]
theorem m_appNIc {s x : Operand} {el by' b o n c m : Nat} {own : Bool} {r : List (Int)} {e2 : TypeId} (hs : opnd T s = .c .nsl) (hx : opnd T x = .c (.sl b o n c 1)) (hm : M[b]? = some (.row own (.ai r))) (hu : P.underlying t = some (.slice el)) (hu2 : P.underlying t' = some (.slice e2)) (he : elemOk P el = some (1, by')) (hl : o + n ≤ r.length) (hb : n * by' ≤ 140737488355328 ∧ n ≤ 9223372036854775807) (hn : M.length = m) :
    evMem P (opnd T) M (.call { callee := .builtin .append, args := #[s, x], argTypes := #[t, t'] }) = some (.c (.sl m 0 n n 1), M ++ [.row true (.ai (cut r o n))]) := by
  show evAppend P M t t' (opnd T s) (opnd T x) = _
  subst hn
  rw [hs, hx]
  have hw : winA (.ai r) o (n * 1) = .ai (cut r o n) := by
    unfold winA
    split
    · rename_i h
      have h2 : r.length = n := by have := h.2; simp [Arr.size] at this; omega
      rw [h.1]; subst h2; simp [cut]
    · rw [Nat.mul_one]; rfl
  have hsz : o + n * 1 ≤ Arr.size (.ai r) := by simp [Arr.size]; exact hl
  have hsrc : srcOf M 1 (.c (.sl b o n c 1)) = some (n, .ai (cut r o n)) := by
    simp only [srcOf, hm]
    rw [if_pos ⟨trivial, hsz⟩, hw]
  simp [evAppend, hu, noIntT, hu2, he, hsrc, Arr.one, hb.1, hb.2]
theorem s_appI {s x : Operand} {el by' b0 len cap b n c m : Nat} {own : Bool} {u r : List (Int)} {e2 : TypeId} (hs : opnd T s = .c (.sl b0 0 len cap 1)) (hms : M[b0]? = some (.row true (.ai u))) (hx : opnd T x = .c (.sl b 0 n c 1)) (hm : M[b]? = some (.row own (.ai r))) (hu : P.underlying t = some (.slice el)) (hu2 : P.underlying t' = some (.slice e2)) (he : elemOk P el = some (1, by'))
    (hlu : u.length = len) (hl : r.length = n) (hb : (len + n) * by' ≤ 140737488355328 ∧ len + n ≤ 9223372036854775807 ∧ n * by' ≤ 140737488355328) (hn : M.length = m) (hM : M.set b0 .dead ++ [.row true (.ai (u ++ r))] = M') (hd : decide (d < N) = true) (hk : WO P k ops l0 ⟨N, upd T d (.c (.sl m 0 (len + n) (len + n) 1)), M'⟩ K) :
    WO P k ops (⟨some d, .call { callee := .builtin .append, args := #[s, x], argTypes := #[t, t'] }, ty, pos, af, none⟩ :: l0) ⟨N, T, M⟩ K :=
  s_mem (by
    show evAppend P M t t' (opnd T s) (opnd T x) = _
    subst hn; subst hM
    rw [hs, hx]
    have hz : Arr.size (.ai r) = n := hl
    have hz2 : Arr.size (.ai u) = len := hlu
    have hn9 : n ≤ 9223372036854775807 := by omega
    simp [evAppend, hu, noIntT, hu2, he, srcOf, hm, hms, hz, hz2, winA, Arr.one, Arr.app, hb.1, hb.2.1, hb.2.2, hn9]) hd hk
theorem s_appIc {s x : Operand} {el by' b0 len cap b o n c m : Nat} {own : Bool} {u r : List (Int)} {e2 : TypeId} (hs : opnd T s = .c (.sl b0 0 len cap 1)) (hms : M[b0]? = some (.row true (.ai u))) (hx : opnd T x = .c (.sl b o n c 1)) (hm : M[b]? = some (.row own (.ai r))) (hu : P.underlying t = some (.slice el)) (hu2 : P.underlying t' = some (.slice e2)) (he : elemOk P el = some (1, by'))
    (hlu : u.length = len) (hl : o + n ≤ r.length) (hb : (len + n) * by' ≤ 140737488355328 ∧ len + n ≤ 9223372036854775807 ∧ n * by' ≤ 140737488355328) (hn : M.length = m) (hM : M.set b0 .dead ++ [.row true (.ai (u ++ cut r o n))] = M') (hd : decide (d < N) = true) (hk : WO P k ops l0 ⟨N, upd T d (.c (.sl m 0 (len + n) (len + n) 1)), M'⟩ K) :
    WO P k ops (⟨some d, .call { callee := .builtin .append, args := #[s, x], argTypes := #[t, t'] }, ty, pos, af, none⟩ :: l0) ⟨N, T, M⟩ K :=
  s_mem (by
    show evAppend P M t t' (opnd T s) (opnd T x) = _
    subst hn; subst hM
    rw [hs, hx]
    have hw : winA (.ai r) o (n * 1) = .ai (cut r o n) := by
      unfold winA
      split
      · rename_i h
        have h2 : r.length = n := by have := h.2; simp [Arr.size] at this; omega
        rw [h.1]; subst h2; simp [cut]
      · rw [Nat.mul_one]; rfl
    have hsz : o + n * 1 ≤ Arr.size (.ai r) := by simp [Arr.size]; exact hl
    have hsrc : srcOf M 1 (.c (.sl b o n c 1)) = some (n, .ai (cut r o n)) := by
      simp only [srcOf, hm]
      rw [if_pos ⟨trivial, hsz⟩, hw]
    have hz2 : Arr.size (.ai u) = len := hlu
    have hn9 : n ≤ 9223372036854775807 := by omega
    simp [evAppend, hu, noIntT, hu2, he, hsrc, hms, hz2, winA, Arr.one, Arr.app, hb.1, hb.2.1, hb.2.2, hn9]) hd hk
theorem v_pickT {c a b : Operand} {p : Bool} {v : AV} (hc : opnd T c = .c (.val (.bool p))) (hp : p = true) (ha : opnd T a = v) : evVal P (opnd T) M (.pick c a b) = some v := by
  subst hp
  simp only [evVal, hc, if_true, ha]
theorem v_pickF {c a b : Operand} {p : Bool} {v : AV} (hc : opnd T c = .c (.val (.bool p))) (hp : p = false) (hb : opnd T b = v) : evVal P (opnd T) M (.pick c a b) = some v := by
  subst hp
  simp only [evVal, hc, hb]
  rfl
theorem s_mark {x : Operand} {e b o len cap sz m : Nat} {y : List (BitVec 8)} {u : Option TypeDesc} (hx : opnd T x = .c (.sl b o len cap sz)) (ht : P.underlying t = some (.slice e)) (hu : P.underlying e = u) (he : u = some (.int .u8)) (hm : M[b]? = some (.row true (.a8 y))) (h0 : 0 < len) (hn : M.length = m) (hM : M.set b .dead ++ [.row false (.a8 y)] = M') (hd : decide (d < N) = true)
    (hk : WO P k ops l0 ⟨N, upd T d (.c (.sl m o len cap sz)), M'⟩ K) : WO P k ops (⟨some d, .convert t t x, ty, pos, af, none⟩ :: l0) ⟨N, T, M⟩ K :=
  s_mem (by
    subst hn; subst hM; subst he
    show evConvM P M t t (opnd T x) = _
    rw [hx]
    simp [evConvM, evStrBytes, evMark, ht, hu, hm, h0]) hd hk
theorem v_unxor64 {x : Operand} {a : BitVec 64} (hx : opnd T x = .c (.val (U64 a))) : evVal P (opnd T) M (.unOp .xor t x) = some (.c (.val (U64 (~~~a)))) := by
  simp only [evVal, hx, not64]; rfl
theorem v_unxor32 {x : Operand} {a : BitVec 32} (hx : opnd T x = .c (.val (U32 a))) : evVal P (opnd T) M (.unOp .xor t x) = some (.c (.val (U32 (~~~a)))) := by
  simp only [evVal, hx, not32]; rfl
theorem v_unnotB {x : Operand} {a : Bool} (hx : opnd T x = .c (.val (.bool a))) : evVal P (opnd T) M (.unOp .not t x) = some (.c (.val (.bool (!a)))) := by
  simp only [evVal, hx]; rfl
theorem v_eqlB {x y : Operand} {a b : Bool} (hx : opnd T x = .c (.val (.bool a))) (hy : opnd T y = .c (.val (.bool b))) (hu : P.underlying t = some .bool) : evVal P (opnd T) M (.binOp .eql t x y t') = some (.c (.val (.bool (a == b)))) := by
  show evBin P .eql t x y (opnd T x) (opnd T y) = _
  rw [hx, hy]; simp [evBin, isBoolT, hu]
theorem v_neqB {x y : Operand} {a b : Bool} (hx : opnd T x = .c (.val (.bool a))) (hy : opnd T y = .c (.val (.bool b))) (hu : P.underlying t = some .bool) : evVal P (opnd T) M (.binOp .neq t x y t') = some (.c (.val (.bool (!(a == b))))) := by
  show evBin P .neq t x y (opnd T x) (opnd T y) = _
  rw [hx, hy]; simp [evBin, isBoolT, hu]
theorem v_eqlI {x y : Operand} {a b : Int} (hx : opnd T x = .c (.val (.int .i64 a))) (hy : opnd T y = .c (.val (.int .i64 b))) : evVal P (opnd T) M (.binOp .eql t x y t') = some (.c (.val (.bool (a == b)))) := v_bin hx hy eqlI
theorem v_neqI {x y : Operand} {a b : Int} (hx : opnd T x = .c (.val (.int .i64 a))) (hy : opnd T y = .c (.val (.int .i64 b))) : evVal P (opnd T) M (.binOp .neq t x y t') = some (.c (.val (.bool (a != b)))) := v_bin hx hy neqI
theorem m_str {x : Operand} {s2 : ByteArray} {e : TypeId} {n : Nat} {s t : TypeId} (hx : opnd T x = .c (.val (.string s2))) (hs : P.underlying s = some .string) (ht : P.underlying t = some (.slice e)) (he : P.underlying e = some (.int .u8)) (hn : M.length = n) :
    evMem P (opnd T) M (.convert s t x) = some (.c (.sl n 0 s2.size s2.size 1), M ++ [.row false (.a8 (strBytes s2))]) := by
  show evConvM P M s t (opnd T x) = _
  subst hn
  rw [hx]; simp only [evConvM, evStrBytes, hs, ht, he]
/- calls of functions of the program -/
/-- A call that changes nothing that was there. -/
theorem e_call {f : FuncId} {ops2 : Array Operand} {ts : Array TypeId} {args : List AV} {mc mc' : Mem} {bs : List Nat} {v v' : AV} {news : Mem} (h : Ev P (.call f args mc) (.val v mc')) (hf : (P.funcs[f]?).any (fun fn => fn.body.isSome && !(fn.name == "runtime.NumGoroutine")) = true)
    (hin : canon 0 (ops2.toList.map (opnd T)) M = some (args, mc, bs)) (hM : backRows bs mc' (backRen bs M.length) 0 M = M) (hN : (mc'.drop bs.length).map (Row.ren (backRen bs M.length)) = news) (hv : v.ren (backRen bs M.length) = v') :
    Ev P (.op (.call { callee := .value (.func f), args := ops2, argTypes := ts }) (opnd T) M) (.val v' (M ++ news)) := by
  have := Ev.fn (c := { callee := .value (.func f), args := ops2, argTypes := ts }) (e := opnd T) f rfl rfl hf hin h
  simp only [linkOut, hM, hN, hv] at this
  exact this
/-- A call that only looks at what was there. -/
theorem e_callR {f : FuncId} {ops2 : Array Operand} {ts : Array TypeId} {args : List AV} {mc mc' : Mem} {bs : List Nat} {v v' : AV} {news : Mem} (h : Ev P (.call f args mc) (.val v mc')) (hf : (P.funcs[f]?).any (fun fn => fn.body.isSome && !(fn.name == "runtime.NumGoroutine")) = true)
    (hin : canon 0 (ops2.toList.map (opnd T)) (roMem M) = some (args, mc, bs)) (hM : backRows bs mc' (backRen bs (roMem M).length) 0 (roMem M) = roMem M) (hN : (mc'.drop bs.length).map (Row.ren (backRen bs (roMem M).length)) = news) (hv : v.ren (backRen bs (roMem M).length) = v') :
    Ev P (.op (.call { callee := .value (.func f), args := ops2, argTypes := ts }) (opnd T) M) (.val v' (M ++ news)) :=
  .ro (e_call h hf hin hM hN hv)
/-- A call that takes its only slice over. -/
theorem e_callK {f : FuncId} {ops2 : Array Operand} {ts : Array TypeId} {args : List AV} {mc mc' : Mem} {bs : List Nat} {v v' : AV} {news M1 : Mem} (h : Ev P (.call f args mc) (.val v mc')) (hf : (P.funcs[f]?).any (fun fn => fn.body.isSome && !(fn.name == "runtime.NumGoroutine")) = true)
    (hin : canon 0 (ops2.toList.map (opnd T)) M = some (args, mc, bs)) (hM : backRows bs mc' (backRen bs M.length) 0 M = M1) (hN : (mc'.drop bs.length).map (Row.ren (backRen bs M.length)) = news) (hv : v.ren (backRen bs M.length) = v') (hA : M1 ++ news = M') :
    Ev P (.op (.call { callee := .value (.func f), args := ops2, argTypes := ts }) (opnd T) M) (.val v' M') := by
  have := Ev.fn (c := { callee := .value (.func f), args := ops2, argTypes := ts }) (e := opnd T) f rfl rfl hf hin h
  simp only [linkOut, hM, hN, hv, hA] at this
  exact this
/-- A call told by rows under other names: r says where the callee's rows lie. -/
def viewOf (r : List (Option Nat)) (j : Nat) : Option Nat := (r[j]?).bind id
theorem viewOf_some {r : List (Option Nat)} {j i : Nat} (h : viewOf r j = some i) : j < r.length ∧ r[j]? = some (some i) := by
  unfold viewOf at h
  obtain ⟨x, hx, hi⟩ := Option.bind_eq_some_iff.1 h
  cases (show x = some i from hi)
  exact ⟨(List.getElem?_eq_some_iff.1 hx).1, hx⟩
theorem e_add {f : FuncId} {x y z : Operand} {ts : Array TypeId} {a b : BitVec 64} {cv : Value} {c : BitVec 64} (hf : ExtIs P f add64Entry) (hx : opnd T x = .c (.val (U64 a))) (hy : opnd T y = .c (.val (U64 b))) (hz : opnd T z = .c (.val cv)) (hcv : cv = U64 c) (hc : c.toNat ≤ 1) :
    Ev P (.op (.call { callee := .value (.func f), args := #[x, y, z], argTypes := ts }) (opnd T) M) (.val (addAV a b c) (M ++ [])) := by
  rw [List.append_nil]
  refine Ev.add64 f rfl rfl hf ?_
  show ev64 addAV [opnd T x, opnd T y, opnd T z] = _
  rw [hx, hy, hz, hcv]
  simp [ev64, hc]
theorem e_sub {f : FuncId} {x y z : Operand} {ts : Array TypeId} {a b : BitVec 64} {cv : Value} {c : BitVec 64} (hf : ExtIs P f sub64Entry) (hx : opnd T x = .c (.val (U64 a))) (hy : opnd T y = .c (.val (U64 b))) (hz : opnd T z = .c (.val cv)) (hcv : cv = U64 c) (hc : c.toNat ≤ 1) :
    Ev P (.op (.call { callee := .value (.func f), args := #[x, y, z], argTypes := ts }) (opnd T) M) (.val (subAV a b c) (M ++ [])) := by
  rw [List.append_nil]
  refine Ev.sub64 f rfl rfl hf ?_
  show ev64 subAV [opnd T x, opnd T y, opnd T z] = _
  rw [hx, hy, hz, hcv]
  simp [ev64, hc]
end
end Go.Proofs.Ytcekjmejppemeaa
/- Abstract data: less is known: a nil slice as an empty own row; an own row under a new name; a round of a loop by itself. -/
namespace Go.Proofs.Ytcekjmejppemeaa
open Go.RowKit
theorem cut_all {α : Type} {l : List α} {n : Nat} (h : l.length = n) : cut l 0 n = l := by subst h; simp [cut]
theorem emb_lt {ι : Emb} {M : Mem} {w : World} (hR : R ι M w) {b : Nat} {l : Loc} (h : ι b = some l) : b < M.length := by
  rcases Nat.lt_or_ge b M.length with h1 | h1
  · exact h1
  · rw [hR.dom b h1] at h; cases h
theorem app_lt {M : Mem} {x : Row} {b : Nat} (h : b < M.length) : (M ++ [x])[b]? = M[b]? := List.getElem?_append_left h
theorem nil_step {k : Nat} {ι : Emb} {M : Mem} {w : World} {x : Arr} (hk : k ≤ M.length) (hR : R ι M w) : Step k ι M w ι (M ++ [.row true x]) w := by
  have lt := fun {b : Nat} {l : Loc} (h : ι b = some l) => emb_lt hR h
  refine ⟨⟨fun b hb => hR.dom b (by simp at hb; omega), fun b l own y h1 h2 => ?_, fun b b' l l' own own' y y' hne h1 h2 h3 h4 ho => ?_⟩, ⟨rfl, rfl, rfl, Nat.le_refl _, fun _ _ _ => rfl, ?_⟩, fun _ _ => rfl, by simp; omega, fun b y hb h => ?_, fun b own y hb h => ?_, fun b l own y hb h1 h2 => ?_⟩
  · rw [app_lt (lt h1)] at h2; exact hR.rows b l own y h1 h2
  · rw [app_lt (lt h1)] at h3; rw [app_lt (lt h2)] at h4; exact hR.inj b b' l l' own own' y y' hne h1 h2 h3 h4 ho
  · rintro c ⟨b, l, y, h1, h2, h3⟩
    rw [app_lt (lt h1)] at h2; exact .inr ⟨b, l, y, h1, h2, h3⟩
  · rw [app_lt (by omega)]; exact h
  · rw [app_lt (by omega)] at h; exact ⟨y, h⟩
  · rw [app_lt (lt h1)] at h2; exact .inr (.inr ⟨b, l, own, y, hb, h1, h2, rfl⟩)
def moveEmb (n b : Nat) (ι : Emb) : Emb := fun i => if i = n then ι b else ι i
theorem move_le {ι : Emb} {M : Mem} {w : World} (hR : R ι M w) (b : Nat) : ι.le (moveEmb M.length b ι) := fun i l h => by
  have := emb_lt hR h
  unfold moveEmb
  rw [if_neg (by omega)]; exact h
theorem move_step {k : Nat} {ι : Emb} {M : Mem} {w : World} {b : Nat} {x : Arr} (hk : k ≤ M.length) (hR : R ι M w) (hb : M[b]? = some (.row true x)) : Step k ι M w (moveEmb M.length b ι) (M.set b .dead ++ [.row true x]) w := by
  have hbl : b < M.length := by
    rcases Nat.lt_or_ge b M.length with h1 | h1
    · exact h1
    · rw [List.getElem?_eq_none h1] at hb; cases hb
  have e1 : ∀ {i : Nat}, i ≠ M.length → moveEmb M.length b ι i = ι i := fun h => if_neg h
  have e2 : moveEmb M.length b ι M.length = ι b := if_pos rfl
  -- a row that is there after it
  have src : ∀ {i : Nat} {own : Bool} {y : Arr}, (M.set b .dead ++ [.row true x])[i]? = some (.row own y) → (i = M.length ∧ own = true ∧ y = x) ∨ (i < M.length ∧ i ≠ b ∧ M[i]? = some (.row own y)) := by
    intro i own y h
    rcases Nat.lt_trichotomy i M.length with h1 | h1 | h1
    · right
      rw [List.getElem?_append_left (by simp; exact h1), List.getElem?_set] at h
      by_cases e : b = i
      · subst e; simp [h1] at h
      · rw [if_neg e] at h; exact ⟨h1, fun h => e h.symm, h⟩
    · left
      subst h1
      rw [List.getElem?_append_right (by simp)] at h
      simp only [List.length_set, Nat.sub_self, List.getElem?_cons_zero, Option.some.injEq, Row.row.injEq] at h
      exact ⟨rfl, h.1.symm, h.2.symm⟩
    · rw [List.getElem?_eq_none (by simp; omega)] at h; cases h
  -- where it was
  have org : ∀ {i : Nat} {l : Loc} {own : Bool} {y : Arr}, moveEmb M.length b ι i = some l → (M.set b .dead ++ [.row true x])[i]? = some (.row own y) → ∃ i0, ι i0 = some l ∧ M[i0]? = some (.row own y) ∧ (i0 = i ∨ (i0 = b ∧ i = M.length)) := by
    intro i l own y h1 h2
    rcases src h2 with ⟨rfl, rfl, rfl⟩ | ⟨h3, h4, h5⟩
    · rw [e2] at h1; exact ⟨b, h1, hb, .inr ⟨rfl, rfl⟩⟩
    · rw [e1 (by omega)] at h1; exact ⟨i, h1, h5, .inl rfl⟩
  refine ⟨⟨fun i hi => ?_, fun i l own y h1 h2 => ?_, fun i i' l l' own own' y y' hne h1 h2 h3 h4 ho => ?_⟩, ⟨rfl, rfl, rfl, Nat.le_refl _, fun _ _ _ => rfl, ?_⟩, fun i hi => e1 (by omega), by simp; omega, fun i y hi h => ?_, fun i own y hi h => ?_, fun i l own y hi h1 h2 => ?_⟩
  · simp at hi
    rw [e1 (by omega)]; exact hR.dom i (by omega)
  · obtain ⟨i0, h3, h4, _⟩ := org h1 h2
    obtain ⟨cs, t, fr, g1, g2, g3, g4⟩ := hR.rows i0 l own y h3 h4
    exact ⟨cs, t, fr, g1, g2, g3.mono' (move_le hR b), g4⟩
  · obtain ⟨j, k1, k2, k3⟩ := org h1 h3
    obtain ⟨j', g1, g2, g3⟩ := org h2 h4
    have hs := src h3
    have hs' := src h4
    refine hR.inj j j' l l' own own' y y' (fun e => ?_) k1 g1 k2 g2 ho
    subst e
    rcases k3 with k3 | k3 <;> rcases g3 with g3 | g3
    · exact hne (by omega)
    · rcases hs with hs | hs
      · have := emb_lt hR k1; omega
      · omega
    · rcases hs' with hs' | hs'
      · have := emb_lt hR k1; omega
      · omega
    · omega
  · rintro c ⟨i, l, y, h1, h2, h3⟩
    obtain ⟨i0, h4, h5, _⟩ := org h1 h2
    exact .inr ⟨i0, l, y, h4, h5, h3⟩
  · rw [List.getElem?_append_left (by simp; omega), List.getElem?_set]
    by_cases e : b = i
    · subst e; rw [hb] at h; cases h
    · rw [if_neg e]; exact h
  · rcases src h with ⟨h1, _⟩ | ⟨_, _, h1⟩
    · omega
    · exact ⟨y, h1⟩
  · obtain ⟨i0, h3, h4, h5⟩ := org h1 h2
    rcases h5 with rfl | ⟨rfl, rfl⟩
    · exact .inr (.inr ⟨i0, l, own, y, hi, h3, h4, rfl⟩)
    · rcases src h2 with ⟨_, rfl, rfl⟩ | ⟨h6, _⟩
      · exact .inr (.inl ⟨i0, l, y, h3, hb, rfl⟩)
      · omega
section
variable {P : Program} {k N n : Nat} {c : Code} {T : Nat → AV} {M M' : Mem} {Φ : Ex → St → Prop}
theorem frel_upd {ι : Emb} {s s' : St} {a : Act} (d : Nat) {v : AV} (h : FRel ι s a) (hn : s'.n = s.n) (ht : s'.t = upd s.t d v) (hv : ∀ u, (s.t d).rel ι u → v.rel ι u) : FRel ι s' a := by
  refine ⟨h.size.trans hn.symm, fun t => ?_⟩
  rw [ht]
  unfold upd
  split
  · rename_i e; subst e; exact hv _ (h.rel t)
  · exact h.rel t
/-- A nil slice in a slot as an empty own row. -/
theorem c_nil (d sz : Nat) (x : Arr) (_hx : x.size = 0) (hd : T d = .c .nsl) (hn : M.length = n) (hM : M ++ [.row true x] = M') (h : WC P k c ⟨N, upd T d (.c (.sl n 0 0 0 sz)), M'⟩ Φ) : WC P k c ⟨N, T, M⟩ Φ := by
  subst hM; subst hn
  obtain ⟨e, r, h1, h2⟩ := h.h
  refine ⟨⟨e, r, Ev.weak ?_ h1, h2⟩⟩
  intro ι w a hk hR hf
  refine ⟨ι, frel_upd (s := ⟨N, T, M⟩) d hf rfl rfl ?_, nil_step hk hR⟩
  intro u hu
  change (T d).rel ι u at hu
  rw [hd] at hu
  change u = _ at hu
  subst hu
  exact ⟨none, 0, rfl, Nat.le_refl _, Nat.le_refl _, .inl rfl⟩
theorem c_emp (d sz : Nat) (x : Arr) (_hx : x.size = 0) (hd : T d = .c .esl) (hn : M.length = n) (hM : M ++ [.row true x] = M') (h : WC P k c ⟨N, upd T d (.c (.sl n 0 0 0 sz)), M'⟩ Φ) : WC P k c ⟨N, T, M⟩ Φ := by
  subst hM; subst hn
  obtain ⟨e, r, h1, h2⟩ := h.h
  refine ⟨⟨e, r, Ev.weak ?_ h1, h2⟩⟩
  intro ι w a hk hR hf
  refine ⟨ι, frel_upd (s := ⟨N, T, M⟩) d hf rfl rfl ?_, nil_step hk hR⟩
  intro u hu
  change (T d).rel ι u at hu
  rw [hd] at hu
  obtain ⟨p, rfl⟩ := hu
  exact ⟨p, 0, rfl, Nat.le_refl _, Nat.le_refl _, .inl rfl⟩
/-- A slot's own row under a new name. -/
theorem c_move (d : Nat) {b o len cap sz : Nat} {x : Arr} (hd : T d = .c (.sl b o len cap sz)) (hb : M[b]? = some (.row true x)) (hn : M.length = n) (hM : M.set b .dead ++ [.row true x] = M') (h : WC P k c ⟨N, upd T d (.c (.sl n o len len sz)), M'⟩ Φ) : WC P k c ⟨N, T, M⟩ Φ := by
  subst hM; subst hn
  obtain ⟨e, r, h1, h2⟩ := h.h
  refine ⟨⟨e, r, Ev.weak ?_ h1, h2⟩⟩
  intro ι w a hk hR hf
  refine ⟨_, frel_upd (s := ⟨N, T, M⟩) d (hf.mono (move_le hR b) M) rfl rfl ?_, move_step hk hR hb⟩
  intro u hu
  have hu' := hf.rel d
  change (T d).rel _ u at hu
  rw [hd] at hu
  obtain ⟨p, c', rfl, h3, h4, h5⟩ := hu
  refine ⟨p, c', rfl, h4, h4, h5.imp id ?_⟩
  rintro ⟨l, h6, h7⟩
  refine ⟨l, ?_, h7⟩
  show (if M.length = M.length then ι b else ι M.length) = some l
  rw [if_pos rfl]
  unfold moveEmb at h6
  split at h6
  · exact h6
  · exact h6
def peelK (P : Program) (k : Nat) (c : Code) (Φ : Ex → St → Prop) : Ex → St → Prop
  | .normal, s => WC P k (.loop c) s Φ
  | e, s => Φ e s
/-- One round of a loop by itself. -/
theorem c_peel {s : St} (h : WC P k c s (peelK P k c Φ)) : WC P k (.loop c) s Φ := by
  obtain ⟨e, r, h1, h2⟩ := h.h
  cases e with
  | normal => obtain ⟨e', r', h3, h4⟩ := WC.h h2; exact ⟨⟨e', r', Ev.loop h1 h3, h4⟩⟩
  | exit i => exact ⟨⟨_, r, Ev.loopx h1 (by simp), h2⟩⟩
  | ret => exact ⟨⟨_, r, Ev.loopx h1 (by simp), h2⟩⟩
end
section
variable {P : Program} {k N : Nat} {ops : Array Oper} {d : Nat} {ty : TypeId} {pos : String} {af : Array Edge} {l0 : List Oper} {T : Nat → AV} {M M' : Mem} {K : St → Prop} {t t' : TypeId} {x y : Operand}
theorem v_unnegN {a : Nat} (hx : opnd T x = .c (.val (.int .i64 (a : Int)))) (h : a ≤ 9223372036854775807) : evVal P (opnd T) M (.unOp .neg t x) = some (.c (.val (.int .i64 (-(a : Int))))) := by
  show (match opnd T x with | .c (.val v) => (pureOf (Op.unary .neg v)).map fun u => AV.c (.val u) | _ => none) = _
  rw [hx]
  have e : Op.unary .neg (.int .i64 (a : Int)) = (pure (.int .i64 (-(a : Int))) : Sem Value) := by
    have e2 := subI (t := 0) (a := 0) (b := (a : Int)) (by omega)
    rw [Int.zero_sub] at e2
    exact e2
  simp only [e]; rfl
end
end Go.Proofs.Ytcekjmejppemeaa
/- Lists of words, place by place. No program in sight. -/
namespace Go.Proofs.Ytcekjmejppemeaa
open Go.RowKit
theorem nthZ8 (n j : Nat) : nth (zer8 n) j = 0#8 := by
  unfold nth zer8
  rw [List.getD_eq_getElem?_getD, List.getElem?_replicate]
  split <;> rfl
theorem nthCut {n : Nat} (l : List (BitVec n)) (o k i : Nat) (h : i < k) : nth (cut l o k) i = nth l (o + i) := by
  unfold nth; exact cut_get l o k i 0 h
theorem nthOut {n : Nat} (l : List (BitVec n)) (i : Nat) (h : l.length ≤ i) : nth l i = 0 := by
  unfold nth; rw [List.getD_eq_getElem?_getD, List.getElem?_eq_none h]; rfl
theorem nthApp {n : Nat} (a b : List (BitVec n)) (i : Nat) : nth (a ++ b) i = if i < a.length then nth a i else nth b (i - a.length) := by
  unfold nth; exact app_getD a b i 0
theorem extNth {n : Nat} {a b : List (BitVec n)} (hl : a.length = b.length) (h : ∀ i, i < a.length → nth a i = nth b i) : a = b := by
  refine List.ext_getElem hl fun i h1 h2 => ?_
  have := h i h1
  rwa [nth_eq a i h1, nth_eq b i h2] at this
end Go.Proofs.Ytcekjmejppemeaa
/- The field's numbers as bytes. No program in sight. -/
namespace Go.Proofs.Ytcekjmejppemeaa
open Go.RowKit
/-- The number of the first bytes, the lowest first. -/
def leS (b : List (BitVec 8)) : Nat → Nat
  | 0 => 0
  | n + 1 => leS b n + (nth b n).toNat * 256 ^ n
theorem leS_lt (b : List (BitVec 8)) (n : Nat) : leS b n < 256 ^ n := by
  induction n with
  | zero => exact Nat.one_pos
  | succ n ih =>
    rw [leS, Nat.pow_succ]
    have h := (nth b n).isLt
    have : (nth b n).toNat * 256 ^ n ≤ 255 * 256 ^ n := Nat.mul_le_mul_right _ (by omega)
    omega
theorem leS_digit (b : List (BitVec 8)) (n i : Nat) (h : i < n) : leS b n / 256 ^ i % 256 = (nth b i).toNat := by
  induction n with
  | zero => omega
  | succ n ih =>
    rw [leS]
    have hp : 0 < 256 ^ i := Nat.pow_pos (by decide)
    by_cases e : i = n
    · subst e
      rw [Nat.add_mul_div_right _ _ hp, Nat.div_eq_of_lt (leS_lt b i), Nat.zero_add, Nat.mod_eq_of_lt (nth b i).isLt]
    · obtain ⟨k, hk⟩ : ∃ k, n = i + (k + 1) := ⟨n - i - 1, by omega⟩
      rw [← ih (by omega), hk, Nat.pow_add, Nat.pow_succ, show (nth b (i + (k + 1))).toNat * (256 ^ i * (256 ^ k * 256)) = ((nth b (i + (k + 1))).toNat * 256 ^ k * 256) * 256 ^ i from by grobner, Nat.add_mul_div_right _ _ hp, Nat.add_mul_mod_self_right]
def toB (n : Nat) : List (BitVec 8) := (List.range 32).map fun i => BitVec.ofNat 8 (n / 256 ^ i)
@[simp] theorem toB_len (n : Nat) : (toB n).length = 32 := by simp [toB]
theorem toB_nth (n i : Nat) (h : i < 32) : nth (toB n) i = BitVec.ofNat 8 (n / 256 ^ i) := by
  rw [nth_eq _ _ (by rw [toB_len]; exact h)]
  simp [toB]
theorem leS_toB (n k : Nat) (h : k ≤ 32) : leS (toB n) k = n % 256 ^ k := by
  induction k with
  | zero => rw [leS, Nat.pow_zero, Nat.mod_one]
  | succ k ih =>
    have e := @Nat.mod_mul (256 ^ k) 256 n
    rw [leS, ih (by omega), toB_nth _ _ (by omega), BitVec.toNat_ofNat, show (256 : Nat) ^ (k + 1) = 256 ^ k * 256 from Nat.pow_succ .., e, Nat.mul_comm (256 ^ k)]
theorem toB_leS {b : List (BitVec 8)} (h : b.length = 32) : toB (leS b 32) = b := by
  refine extNth (by rw [toB_len, h]) fun i hi => ?_
  rw [toB_len] at hi
  rw [toB_nth _ _ hi]
  apply BitVec.eq_of_toNat_eq
  rw [BitVec.toNat_ofNat]
  exact leS_digit b 32 i hi
theorem leS_inj {a b : List (BitVec 8)} (ha : a.length = 32) (hb : b.length = 32) (h : leS a 32 = leS b 32) : a = b := by
  rw [← toB_leS ha, h, toB_leS hb]
/-- The number of so many words, the lowest first. -/
def wvb (b : List (BitVec 8)) (t : Nat) : Nat → Nat
  | 0 => 0
  | m + 1 => wvb b t m + (nth b (8 * t + m)).toNat * 256 ^ m
theorem wvb_lt (b : List (BitVec 8)) (t m : Nat) : wvb b t m < 256 ^ m := by
  induction m with
  | zero => exact Nat.one_pos
  | succ m ih =>
    rw [wvb, Nat.pow_succ]
    have h := (nth b (8 * t + m)).isLt
    have : (nth b (8 * t + m)).toNat * 256 ^ m ≤ 255 * 256 ^ m := Nat.mul_le_mul_right _ (by omega)
    omega
theorem leS_wvb (b : List (BitVec 8)) : leS b 32 = wvb b 0 8 + wvb b 1 8 * 18446744073709551616 + wvb b 2 8 * 340282366920938463463374607431768211456 + wvb b 3 8 * 6277101735386680763835789423207666416102355444464034512896 := by
  simp only [leS, wvb, Nat.mul_zero, Nat.zero_add, Nat.reduceMul, Nat.reduceAdd, Nat.reducePow]
  omega
/-- A byte laid into a word, above what stands there. -/
theorem or_byte (x : BitVec 64) (b : BitVec 8) (k : Nat) (hk : k < 8) (hx : x.toNat < 256 ^ k) : (x ||| (b.setWidth 64 <<< (8 * k))).toNat = x.toNat + b.toNat * 256 ^ k := by
  have e : (256 : Nat) ^ k = 2 ^ (8 * k) := by rw [Nat.pow_mul]
  rw [e] at hx ⊢
  have hb := b.isLt
  have hp : b.toNat * 2 ^ (8 * k) < 2 ^ 64 := by
    have h1 : b.toNat * 2 ^ (8 * k) < 2 ^ 8 * 2 ^ (8 * k) := Nat.mul_lt_mul_of_pos_right hb (Nat.pow_pos (by decide))
    rw [← Nat.pow_add] at h1
    exact Nat.lt_of_lt_of_le h1 (Nat.pow_le_pow_right (by decide) (by omega))
  rw [BitVec.toNat_or, BitVec.toNat_shiftLeft, BitVec.toNat_setWidth, Nat.mod_eq_of_lt (show b.toNat < 2 ^ 64 by omega), Nat.shiftLeft_eq, Nat.mod_eq_of_lt hp, Nat.or_comm, ← Nat.shiftLeft_eq, ← Nat.shiftLeft_add_eq_or_of_lt hx, Nat.shiftLeft_eq, Nat.add_comm]
/-- Two parts of a word, side by side: what is shifted down, and what is shifted up. -/
theorem or_shift (x y : BitVec 64) (k : Nat) (hk : k ≤ 64) : (x >>> k ||| y <<< (64 - k)).toNat = x.toNat / 2 ^ k + y.toNat * 2 ^ (64 - k) % 2 ^ 64 := by
  have hx : x.toNat / 2 ^ k < 2 ^ (64 - k) := by
    rw [Nat.div_lt_iff_lt_mul (Nat.pow_pos (by decide)), ← Nat.pow_add, show 64 - k + k = 64 by omega]
    exact x.isLt
  have e : y.toNat * 2 ^ (64 - k) % 2 ^ 64 = y.toNat % 2 ^ k * 2 ^ (64 - k) := by
    have : (2 : Nat) ^ 64 = 2 ^ k * 2 ^ (64 - k) := by rw [← Nat.pow_add, show k + (64 - k) = 64 by omega]
    rw [this, Nat.mul_mod_mul_right]
  rw [BitVec.toNat_or, BitVec.toNat_shiftLeft, BitVec.toNat_ushiftRight, Nat.shiftRight_eq_div_pow, Nat.shiftLeft_eq, e, Nat.or_comm, ← Nat.shiftLeft_eq, ← Nat.shiftLeft_add_eq_or_of_lt hx, Nat.shiftLeft_eq, Nat.add_comm]
theorem mask_toNat (x : BitVec 64) : (x &&& 2251799813685247#64).toNat = x.toNat % 2251799813685248 := by
  rw [BitVec.toNat_and]
  exact Nat.and_two_pow_sub_one_eq_mod x.toNat 51
end Go.Proofs.Ytcekjmejppemeaa
/- Primes: Fermat's little theorem, Pocklington's test. No program in sight. -/
namespace Go.Proofs.Ytcekjmejppemeaa
/-- A prime. -/
def Pri (p : Nat) : Prop := 1 < p ∧ ∀ m, m ∣ p → m = 1 ∨ m = p
theorem Pri.pos {p : Nat} (h : Pri p) : 0 < p := by have := h.1; omega
theorem Pri.cop {p a : Nat} (h : Pri p) (ha : ¬ p ∣ a) : Nat.gcd p a = 1 := by
  rcases h.2 _ (Nat.gcd_dvd_left p a) with h1 | h1
  · exact h1
  · exact absurd (h1 ▸ Nat.gcd_dvd_right p a) ha
theorem Pri.euclid {p a b : Nat} (h : Pri p) (hd : p ∣ a * b) : p ∣ a ∨ p ∣ b := by
  by_cases ha : p ∣ a
  · exact .inl ha
  · exact .inr (Nat.Coprime.dvd_of_dvd_mul_left (h.cop ha) hd)
def cho : Nat → Nat → Nat
  | _, 0 => 1
  | 0, _ + 1 => 0
  | n + 1, k + 1 => cho n k + cho n (k + 1)
theorem cho_zero (n : Nat) : cho n 0 = 1 := by cases n <;> rfl
theorem cho_big : ∀ n k : Nat, n < k → cho n k = 0 := by
  intro n
  induction n with
  | zero => intro k hk; cases k with
    | zero => omega
    | succ k => rfl
  | succ n ih => intro k hk; cases k with
    | zero => omega
    | succ k => rw [cho, ih k (by omega), ih (k + 1) (by omega)]
theorem cho_self (n : Nat) : cho n n = 1 := by
  induction n with
  | zero => rfl
  | succ n ih => rw [cho, ih, cho_big n (n + 1) (by omega)]
theorem cho_mul : ∀ n k : Nat, (k + 1) * cho (n + 1) (k + 1) = (n + 1) * cho n k := by
  intro n
  induction n with
  | zero =>
    intro k
    cases k with
    | zero => rfl
    | succ k => simp [cho]
  | succ n ih =>
    intro k
    cases k with
    | zero =>
      have h := ih 0
      rw [cho_zero] at h ⊢
      show (0 + 1) * (cho (n + 1) 0 + cho (n + 1) (0 + 1)) = _
      rw [cho_zero]
      omega
    | succ k =>
      have h1 := ih k
      have h2 := ih (k + 1)
      rw [cho, Nat.mul_add, h2]
      have h3 : cho (n + 1) (k + 1) = cho n k + cho n (k + 1) := rfl
      rw [h3] at h1 ⊢
      grind
def csum (a n : Nat) : Nat → Nat
  | 0 => 0
  | m + 1 => csum a n m + cho n m * a ^ m
theorem csum_step (a n : Nat) : ∀ m, csum a (n + 1) (m + 1) = csum a n (m + 1) + a * csum a n m := by
  intro m
  induction m with
  | zero => simp [csum, cho_zero]
  | succ m ih =>
    rw [csum, ih]
    show _ = csum a n (m + 1) + cho n (m + 1) * a ^ (m + 1) + a * (csum a n m + cho n m * a ^ m)
    rw [cho, Nat.pow_succ]
    grind
theorem binom (a n : Nat) : (a + 1) ^ n = csum a n (n + 1) := by
  induction n with
  | zero => rfl
  | succ n ih =>
    rw [Nat.pow_succ, ih, csum_step]
    rw [show csum a n (n + 1 + 1) = csum a n (n + 1) + cho n (n + 1) * a ^ (n + 1) from rfl, cho_big n (n + 1) (by omega)]
    grind
theorem cho_dvd {p : Nat} (h : Pri p) (k : Nat) (h1 : 0 < k) (h2 : k < p) : p ∣ cho p k := by
  obtain ⟨q, rfl⟩ : ∃ q, p = q + 1 := ⟨p - 1, by omega⟩
  obtain ⟨j, rfl⟩ : ∃ j, k = j + 1 := ⟨k - 1, by omega⟩
  have := cho_mul q j
  rcases h.euclid (a := j + 1) (b := cho (q + 1) (j + 1)) (by rw [this]; exact Nat.dvd_mul_right _ _) with h3 | h3
  · have := Nat.le_of_dvd (by omega) h3; omega
  · exact h3
theorem csum_mod {p : Nat} (h : Pri p) (a : Nat) : ∀ m, m < p → csum a p (m + 1) % p = 1 % p := by
  intro m
  induction m with
  | zero => intro _; simp [csum, cho_zero]
  | succ m ih =>
    intro hm
    obtain ⟨c, hc⟩ := cho_dvd h (m + 1) (by omega) hm
    rw [csum, hc, Nat.mul_assoc, Nat.add_mul_mod_self_left, ih (by omega)]
theorem fermat {p : Nat} (h : Pri p) (a : Nat) : a ^ p % p = a % p := by
  induction a with
  | zero => rw [Nat.zero_pow h.pos]
  | succ a ih =>
    obtain ⟨q, rfl⟩ : ∃ q, p = q + 1 := ⟨p - 1, by have := h.pos; omega⟩
    rw [binom, csum, cho_self, Nat.one_mul, Nat.add_mod, csum_mod h a q (by omega), ih, ← Nat.add_mod, Nat.add_comm]
theorem dvd_of_mod {p x y : Nat} (h : x % p = y % p) : p ∣ x - y := Nat.dvd_of_mod_eq_zero (Nat.sub_mod_eq_zero_of_mod_eq h)
theorem mod_of_dvd {p x y : Nat} (h : p ∣ x - y) (hl : y ≤ x) : x % p = y % p := by
  obtain ⟨c, hc⟩ := h
  rw [show x = y + p * c from by omega, Nat.add_mul_mod_self_left]
/-- What stands on both sides goes, where it is no multiple of the prime. -/
theorem Pri.cancel {p a x y : Nat} (h : Pri p) (ha : ¬ p ∣ a) (he : a * x % p = a * y % p) : x % p = y % p := by
  have key : ∀ x y : Nat, y ≤ x → a * x % p = a * y % p → x % p = y % p := fun x y hl he => by
    have := dvd_of_mod he
    rw [← Nat.mul_sub] at this
    rcases h.euclid this with h1 | h1
    · exact absurd h1 ha
    · exact mod_of_dvd h1 hl
  rcases Nat.le_total y x with hl | hl
  · exact key x y hl he
  · exact (key y x hl he.symm).symm
theorem fermat1 {p a : Nat} (h : Pri p) (ha : ¬ p ∣ a) : a ^ (p - 1) % p = 1 := by
  have h1 := fermat h a
  obtain ⟨q, rfl⟩ : ∃ q, p = q + 1 := ⟨p - 1, by have := h.pos; omega⟩
  rw [Nat.add_sub_cancel]
  have h2 : a * a ^ q % (q + 1) = a * 1 % (q + 1) := by rw [← Nat.pow_succ', h1, Nat.mul_one]
  have h3 := h.cancel ha h2
  rw [h3, Nat.mod_eq_of_lt h.1]
theorem pow_mod_one {n a k : Nat} (m : Nat) (hn : 1 < n) (h : a ^ k % n = 1) : a ^ (k * m) % n = 1 := by
  rw [Nat.pow_mul, Nat.pow_mod, h, Nat.one_pow, Nat.mod_eq_of_lt hn]
/-- Powers that are 1: so is that to the greatest common divisor. -/
theorem pow_gcd {n a : Nat} (hn : 1 < n) : ∀ j k : Nat, a ^ j % n = 1 → a ^ k % n = 1 → a ^ Nat.gcd j k % n = 1 := by
  intro j
  induction j using Nat.strongRecOn with
  | _ j ih =>
    intro k hj hk
    cases j with
    | zero => rwa [Nat.gcd_zero_left]
    | succ j =>
      rw [Nat.gcd_succ]
      refine ih (k % (j + 1)) (Nat.mod_lt _ (by omega)) (j + 1) ?_ hj
      have h1 : a ^ k = a ^ ((j + 1) * (k / (j + 1))) * a ^ (k % (j + 1)) := by rw [← Nat.pow_add, Nat.div_add_mod]
      rw [h1, Nat.mul_mod, pow_mod_one _ hn hj, Nat.one_mul, Nat.mod_mod] at hk
      exact hk
/-- Each number above 1 has a prime divisor. -/
theorem exists_pri : ∀ n : Nat, 1 < n → ∃ r, Pri r ∧ r ∣ n := by
  intro n
  induction n using Nat.strongRecOn with
  | _ n ih =>
    intro hn
    by_cases h : Pri n
    · exact ⟨n, h, Nat.dvd_refl n⟩
    · have : ∃ m, m ∣ n ∧ m ≠ 1 ∧ m ≠ n := by
        refine Classical.byContradiction fun hc => h ⟨hn, fun m hm => ?_⟩
        refine Classical.byContradiction fun hc2 => hc ⟨m, hm, fun e => hc2 (.inl e), fun e => hc2 (.inr e)⟩
      obtain ⟨m, h1, h2, h3⟩ := this
      have hm0 : 0 < m := Nat.pos_of_dvd_of_pos h1 (by omega)
      have hml : m ≤ n := Nat.le_of_dvd (by omega) h1
      obtain ⟨r, hr, hrm⟩ := ih m (by omega) (by omega)
      exact ⟨r, hr, Nat.dvd_trans hrm h1⟩
/-- No divisor of less than its root: it is a prime. -/
theorem pri_of_no {n : Nat} (hn : 1 < n) (h : ∀ r, Pri r → r ∣ n → n < r * r) : Pri n := by
  refine ⟨hn, fun m hm => ?_⟩
  refine Classical.byContradiction fun hc => ?_
  obtain ⟨k, hk⟩ := hm
  have hm1 : m ≠ 1 := fun e => hc (.inl e)
  have hmn : m ≠ n := fun e => hc (.inr e)
  have hm0 : m ≠ 0 := fun e => by subst e; omega
  have hk0 : k ≠ 0 := fun e => by subst e; omega
  have hk1 : k ≠ 1 := fun e => by subst e; omega
  -- the smaller one of both has a prime divisor
  rcases Nat.le_total m k with hl | hl
  · obtain ⟨r, hr, hrm⟩ := exists_pri m (by omega)
    have h1 := h r hr (Nat.dvd_trans hrm ⟨k, hk⟩)
    have h2 := Nat.le_of_dvd (by omega) hrm
    have h3 : r * r ≤ m * k := Nat.mul_le_mul h2 (by omega)
    omega
  · obtain ⟨r, hr, hrm⟩ := exists_pri k (by omega)
    have h1 := h r hr (Nat.dvd_trans hrm ⟨m, by rw [hk, Nat.mul_comm]⟩)
    have h2 := Nat.le_of_dvd (by omega) hrm
    have h3 : r * r ≤ m * k := Nat.mul_le_mul (by omega) h2
    omega
/-- One step of Pocklington's test: a prime divisor of n is 1 modulo q. -/
theorem pock {n q k a r : Nat} (hq : Pri q) (hn : n = q * k + 1) (h1 : a ^ (n - 1) % n = 1) (h2 : Nat.gcd (a ^ k % n + (n - 1)) n = 1) (hr : Pri r) (hd : r ∣ n) : q ∣ r - 1 := by
  have hr1 := hr.1
  have hn1 : 1 < n := by have := Nat.le_of_dvd (by omega) hd; omega
  have red : ∀ x, x % n = 1 → x % r = 1 := fun x hx => by
    obtain ⟨c, hc⟩ := hd
    have : x % n % r = x % r := Nat.mod_mod_of_dvd x ⟨c, hc⟩
    rw [← this, hx, Nat.mod_eq_of_lt hr1]
  have g1 : a ^ (q * k) % r = 1 := red _ (by rw [← h1, hn, Nat.add_sub_cancel])
  refine Classical.byContradiction fun hc => ?_
  have hra : ¬ r ∣ a := fun hh => by
    have : a ^ (q * k) % r = 0 := by
      have hpos : 0 < q * k := by omega
      obtain ⟨e, he⟩ : ∃ e, q * k = e + 1 := ⟨q * k - 1, by omega⟩
      rw [he, Nat.pow_succ]
      exact Nat.mod_eq_zero_of_dvd (Nat.dvd_trans hh (Nat.dvd_mul_left _ _))
    omega
  have g2 : a ^ (k * (r - 1)) % r = 1 := by rw [Nat.mul_comm]; exact pow_mod_one k hr1 (fermat1 hr hra)
  have g3 := pow_gcd hr1 (k * q) (k * (r - 1)) (by rw [Nat.mul_comm k q]; exact g1) g2
  rw [Nat.gcd_mul_left, hq.cop hc, Nat.mul_one] at g3
  -- so r divides a ^ k - 1 and n
  have g4 : r ∣ Nat.gcd (a ^ k % n + (n - 1)) n := by
    refine Nat.dvd_gcd ?_ hd
    refine Nat.dvd_of_mod_eq_zero ?_
    have e1 : (a ^ k % n) % r = 1 := by rw [Nat.mod_mod_of_dvd _ hd]; exact g3
    obtain ⟨c, hc⟩ := hd
    obtain ⟨c', rfl⟩ : ∃ c', c = c' + 1 := ⟨c - 1, by cases c with | zero => simp at hc; omega | succ c => omega⟩
    have e2 : n - 1 = (r - 1) + r * c' := by rw [hc, Nat.mul_add]; omega
    rw [e2, ← Nat.add_assoc, Nat.add_mul_mod_self_left, Nat.add_mod, e1, Nat.mod_eq_of_lt (show r - 1 < r by omega), show 1 + (r - 1) = r by omega, Nat.mod_self]
  rw [h2] at g4
  have := Nat.le_of_dvd (by omega) g4
  omega
theorem pock1 {n q k a : Nat} (hq : Pri q) (hn : n = q * k + 1) (hk : 0 < k) (h1 : a ^ (n - 1) % n = 1) (h2 : Nat.gcd (a ^ k % n + (n - 1)) n = 1) (hl : n < q * q) : Pri n := by
  have hq1 := hq.1
  refine pri_of_no (by have := Nat.mul_le_mul (show 1 ≤ q by omega) (show 1 ≤ k by omega); omega) fun r hr hd => ?_
  have := Nat.le_of_dvd (by have := hr.1; omega) (pock hq hn h1 h2 hr hd)
  exact Nat.lt_of_lt_of_le hl (Nat.mul_le_mul (by omega) (by omega))
theorem pock2 {n q k a q' k' a' : Nat} (hq : Pri q) (hq' : Pri q') (hne : ¬ q ∣ q') (hn : n = q * k + 1) (hn' : n = q' * k' + 1) (hk : 0 < k) (h1 : a ^ (n - 1) % n = 1) (h2 : Nat.gcd (a ^ k % n + (n - 1)) n = 1)
    (h1' : a' ^ (n - 1) % n = 1) (h2' : Nat.gcd (a' ^ k' % n + (n - 1)) n = 1) (hl : n < (q * q') * (q * q')) : Pri n := by
  have hq1 := hq.1
  refine pri_of_no (by have := Nat.mul_le_mul (show 1 ≤ q by omega) (show 1 ≤ k by omega); omega) fun r hr hd => ?_
  have hc : Nat.Coprime q q' := hq.cop hne
  have := Nat.le_of_dvd (by have := hr.1; omega) (Nat.Coprime.mul_dvd_of_dvd_of_dvd hc (pock hq hn h1 h2 hr hd) (pock hq' hn' h1' h2' hr hd))
  exact Nat.lt_of_lt_of_le hl (Nat.mul_le_mul (by omega) (by omega))
/-- Powers, square by square; the exponent's bits from the lowest on. -/
def pmod (n : Nat) : Nat → Nat → Nat → Nat → Nat
  | 0, _, _, acc => acc
  | f + 1, b, e, acc => if e % 2 = 1 then pmod n f (b * b % n) (e / 2) (acc * b % n) else pmod n f (b * b % n) (e / 2) acc
theorem pmod_eq (n : Nat) : ∀ f b e acc, e < 2 ^ f → pmod n f b e acc % n = acc * b ^ e % n := by
  intro f
  induction f with
  | zero => intro b e acc h; rw [show e = 0 by omega]; simp [pmod]
  | succ f ih =>
    intro b e acc h
    have h2 : e / 2 < 2 ^ f := by rw [Nat.pow_succ] at h; omega
    have sq : ∀ x, x * (b * b % n) ^ (e / 2) % n = x * b ^ (2 * (e / 2)) % n := fun x => by
      rw [Nat.mul_mod, ← Nat.pow_mod, ← Nat.mul_mod, Nat.pow_mul, show b ^ 2 = b * b from by rw [Nat.pow_succ, Nat.pow_one]]
    unfold pmod
    split
    · rename_i h1
      rw [ih _ _ _ h2, sq, Nat.mul_mod, Nat.mod_mod, ← Nat.mul_mod, Nat.mul_assoc, ← Nat.pow_succ', show (2 * (e / 2)).succ = e by omega]
    · rename_i h1
      rw [ih _ _ _ h2, sq, show 2 * (e / 2) = e by omega]
theorem pmod_of {n b e r : Nat} (f : Nat) (he : e < 2 ^ f) (h : pmod n f b e 1 % n = r) : b ^ e % n = r := by
  rw [← h, pmod_eq n f b e 1 he, Nat.one_mul]
/-- Small primes: no divisor from 2 on up to the root. -/
def noDiv (n : Nat) : Nat → Nat → Bool
  | 0, _ => true
  | f + 1, d => (n % d != 0) && noDiv n f (d + 1)
theorem noDiv_spec (n : Nat) : ∀ f d, noDiv n f d = true → ∀ m, d ≤ m → m < d + f → ¬ m ∣ n := by
  intro f
  induction f with
  | zero => intro d _ m h1 h2; omega
  | succ f ih =>
    intro d h m h1 h2
    simp only [noDiv, Bool.and_eq_true, bne_iff_ne, ne_eq] at h
    by_cases e : m = d
    · subst e; exact fun hd => h.1 (Nat.mod_eq_zero_of_dvd hd)
    · exact ih (d + 1) h.2 m (by omega) (by omega)
theorem pri_small {n : Nat} (f : Nat) (hn : 1 < n) (hf : n < (f + 2) * (f + 2)) (h : noDiv n f 2 = true) : Pri n := by
  refine pri_of_no hn fun r hr hd => ?_
  have hr1 := hr.1
  refine Classical.byContradiction fun hc => ?_
  refine noDiv_spec n f 2 h r (by omega) ?_ hd
  refine Classical.byContradiction fun hc2 => ?_
  have : (f + 2) * (f + 2) ≤ r * r := Nat.mul_le_mul (by omega) (by omega)
  omega
/-- The test's premises, worked out. -/
theorem pockA {n q k a : Nat} (f : Nat) (hq : Pri q) (hf : n < 2 ^ f) (hn : n = q * k + 1) (hk : 0 < k) (h1 : pmod n f a (n - 1) 1 % n = 1) (h2 : Nat.gcd (pmod n f a k 1 % n + (n - 1)) n = 1) (hl : n < q * q) : Pri n :=
  pock1 hq hn hk (pmod_of f (by omega) h1) (by rw [pmod_of f (by have := Nat.mul_le_mul (show 1 ≤ q from hq.pos) (Nat.le_refl k); omega) rfl]; exact h2) hl
theorem pockB {n q k a q' k' a' : Nat} (f : Nat) (hq : Pri q) (hq' : Pri q') (hf : n < 2 ^ f) (hne : ¬ q ∣ q') (hn : n = q * k + 1) (hn' : n = q' * k' + 1) (hk : 0 < k) (h1 : pmod n f a (n - 1) 1 % n = 1) (h2 : Nat.gcd (pmod n f a k 1 % n + (n - 1)) n = 1)
    (h1' : pmod n f a' (n - 1) 1 % n = 1) (h2' : Nat.gcd (pmod n f a' k' 1 % n + (n - 1)) n = 1) (hl : n < (q * q') * (q * q')) : Pri n :=
  pock2 hq hq' hne hn hn' hk (pmod_of f (by omega) h1) (by rw [pmod_of f (by have := Nat.mul_le_mul (show 1 ≤ q from hq.pos) (Nat.le_refl k); omega) rfl]; exact h2)
    (pmod_of f (by omega) h1') (by rw [pmod_of f (by have := Nat.mul_le_mul (show 1 ≤ q' from hq'.pos) (Nat.le_refl k'); omega) rfl]; exact h2') hl
theorem pr0 : Pri 8574133 := pri_small 2929 (by decide) (by decide) (by decide +kernel)
theorem pr1 : Pri 7 := pri_small 3 (by decide) (by decide) (by decide +kernel)
theorem pr2 : Pri 1919519569386763 := pockB (q := 8574133) (k := 223873314) (a := 2) (q' := 7) (k' := 274217081340966) (a' := 2) 51 pr0 pr1 (by decide +kernel) (by decide +kernel) (by decide +kernel) (by decide +kernel) (by decide +kernel) (by decide +kernel) (by decide +kernel) (by decide +kernel) (by decide +kernel) (by decide +kernel)
theorem pr3 : Pri 75707 := pri_small 276 (by decide) (by decide) (by decide +kernel)
theorem pr4 : Pri 75445702479781427272750846543864801 := pockB (q := 1919519569386763) (k := 39304471641247389600) (a := 2) (q' := 75707) (k' := 996548568557483816196003626400) (a' := 2) 116 pr2 pr3 (by decide +kernel) (by decide +kernel) (by decide +kernel) (by decide +kernel) (by decide +kernel) (by decide +kernel) (by decide +kernel) (by decide +kernel) (by decide +kernel) (by decide +kernel)
theorem pr5 : Pri 353 := pri_small 19 (by decide) (by decide) (by decide +kernel)
theorem pr6 : Pri 74058212732561358302231226437062788676166966415465897661863160754340907 := pockB (q := 75445702479781427272750846543864801) (k := 981609426360740691344999861639072106) (a := 2) (q' := 353) (k' := 209796636636151156663544550813209033076960244803019540118592523383402) (a' := 2) 236 pr4 pr5 (by decide +kernel) (by decide +kernel) (by decide +kernel) (by decide +kernel) (by decide +kernel) (by decide +kernel) (by decide +kernel) (by decide +kernel) (by decide +kernel) (by decide +kernel)
theorem prP : Pri 57896044618658097711785492504343953926634992332820282019728792003956564819949 := pockA (q := 74058212732561358302231226437062788676166966415465897661863160754340907) (k := 781764) (a := 2) 255 pr6 (by decide +kernel) (by decide +kernel) (by decide +kernel) (by decide +kernel) (by decide +kernel) (by decide +kernel)
end Go.Proofs.Ytcekjmejppemeaa
/- The field of 2^255 - 19: numbers, their bytes, inverses, roots. No program in sight. -/
namespace Go.Proofs.Ytcekjmejppemeaa
abbrev PP : Nat := 57896044618658097711785492504343953926634992332820282019728792003956564819949
abbrev Fp := Fin PP
def zf (n : Nat) : Fp := Fin.ofNat PP n
theorem zf_val (n : Nat) : (zf n).val = n % PP := rfl
theorem zf_eq {a b : Nat} : zf a = zf b ↔ a % PP = b % PP := by
  rw [← Fin.val_inj, zf_val, zf_val]
theorem zf_add (a b : Nat) : zf (a + b) = zf a + zf b := by
  apply Fin.ext
  rw [Fin.val_add, zf_val, zf_val, zf_val, ← Nat.add_mod]
theorem zf_mul (a b : Nat) : zf (a * b) = zf a * zf b := by
  apply Fin.ext
  rw [Fin.val_mul, zf_val, zf_val, zf_val, ← Nat.mul_mod]
theorem pow_succF (u : Fp) (k : Nat) : u ^ (k + 1) = u ^ k * u := by grobner
theorem pow_zeroF (u : Fp) : u ^ 0 = 1 := by grobner
theorem pow_addF (u : Fp) (j k : Nat) : u ^ (j + k) = u ^ j * u ^ k := by
  induction k with
  | zero => rw [pow_zeroF, Nat.add_zero]; grobner
  | succ k ih => rw [← Nat.add_assoc, pow_succF, pow_succF, ih]; grobner
theorem mul_powF (u v : Fp) (k : Nat) : (u * v) ^ k = u ^ k * v ^ k := by
  induction k with
  | zero => rw [pow_zeroF, pow_zeroF, pow_zeroF]; grobner
  | succ k ih => rw [pow_succF, pow_succF, pow_succF, ih]; grobner
theorem pow_mulF (u : Fp) (j k : Nat) : u ^ (j * k) = (u ^ j) ^ k := by
  induction k with
  | zero => rw [Nat.mul_zero, pow_zeroF, pow_zeroF]
  | succ k ih => rw [Nat.mul_succ, pow_addF, ih, pow_succF]
theorem one_powF (k : Nat) : (1 : Fp) ^ k = 1 := by
  induction k with
  | zero => rw [pow_zeroF]
  | succ k ih => rw [pow_succF, ih]; grobner
theorem zf_zero : zf 0 = 0 := rfl
theorem zf_one : zf 1 = 1 := rfl
theorem zf_pow (a k : Nat) : zf (a ^ k) = zf a ^ k := by
  induction k with
  | zero => rw [Nat.pow_zero, pow_zeroF, zf_one]
  | succ k ih => rw [Nat.pow_succ, zf_mul, ih, pow_succF]
theorem zf_self (u : Fp) : zf u.val = u := by
  apply Fin.ext
  rw [zf_val, Nat.mod_eq_of_lt u.isLt]
theorem zf_P : zf PP = 0 := by apply Fin.ext; rw [zf_val, Nat.mod_self]; rfl
theorem zf_mod (n : Nat) : zf (n % PP) = zf n := by rw [zf_eq, Nat.mod_mod]
theorem zf_eq_zero {n : Nat} : zf n = 0 ↔ PP ∣ n := by
  rw [← zf_zero, zf_eq, Nat.zero_mod]
  exact ⟨Nat.dvd_of_mod_eq_zero, Nat.mod_eq_zero_of_dvd⟩
theorem zf_sub (a b : Nat) (h : b ≤ a) : zf (a - b) = zf a - zf b := by
  have h1 : zf (a - b) + zf b = zf a := by rw [← zf_add, Nat.sub_add_cancel h]
  rw [← h1]; grobner
theorem nozero {u v : Fp} (h : u * v = 0) : u = 0 ∨ v = 0 := by
  rw [← zf_self u, ← zf_self v, ← zf_mul, zf_eq_zero] at h
  rcases prP.euclid h with h1 | h1
  · exact .inl (by rw [← zf_self u, zf_eq_zero]; exact h1)
  · exact .inr (by rw [← zf_self v, zf_eq_zero]; exact h1)
theorem zero_powF (k : Nat) : (0 : Fp) ^ (k + 1) = 0 := by rw [pow_succF]; generalize (0 : Fp) ^ k = x; grobner
def eOne : Nat := PP - 1
def eInv : Nat := PP - 2
def eHalf : Nat := (PP - 1) / 2
def eRoot : Nat := (PP + 3) / 8
def eI : Nat := (PP - 1) / 4
theorem eInv_one : eInv + 1 = eOne := by decide +kernel
theorem eInv_pos : ∃ k, eInv = k + 1 := ⟨PP - 3, by decide +kernel⟩
theorem eHalf_add : eHalf + eHalf = eOne := by decide +kernel
theorem eRoot_mul : eRoot * 4 = eHalf + 2 := by decide +kernel
theorem eRoot_pos : ∃ k, eRoot = k + 1 := ⟨(PP + 3) / 8 - 1, by decide +kernel⟩
theorem eHalf_pos : ∃ k, eHalf = k + 1 := ⟨(PP - 1) / 2 - 1, by decide +kernel⟩
theorem eI_lt : eI < 2 ^ 255 := by decide +kernel
theorem eOne_eq : PP - 1 = eOne := rfl
theorem eI_num : eI = 14474011154664524427946373126085988481658748083205070504932198000989141204987 := by decide +kernel
attribute [irreducible] eOne eInv eHalf eRoot eI
theorem fermatF {u : Fp} (h : u ≠ 0) : u ^ eOne = 1 := by
  have h1 : ¬ PP ∣ u.val := fun hd => h (by rw [← zf_self u, zf_eq_zero]; exact hd)
  have h2 := fermat1 prP h1
  rw [eOne_eq] at h2
  rw [← zf_self u, ← zf_pow, ← zf_one, zf_eq, h2]
  decide +kernel
def invF (u : Fp) : Fp := u ^ eInv
theorem inv_mulF {u : Fp} (h : u ≠ 0) : invF u * u = 1 := by
  unfold invF
  rw [← pow_succF, eInv_one]
  exact fermatF h
theorem inv_zeroF : invF 0 = 0 := by
  unfold invF
  obtain ⟨k, hk⟩ := eInv_pos
  rw [hk, zero_powF]
attribute [irreducible] invF
theorem one_neF : (1 : Fp) ≠ 0 := by decide +kernel
theorem inv_ne {u : Fp} (h : u ≠ 0) : invF u ≠ 0 := fun e => by
  have := inv_mulF h
  rw [e] at this
  exact one_neF (by grobner)
theorem cancelF {u v w : Fp} (h : u ≠ 0) (e : u * v = u * w) : v = w := by
  have : u * (v - w) = 0 := by grobner
  rcases nozero this with h1 | h1
  · exact absurd h1 h
  · clear e this; grobner
theorem inv_uniq {u v : Fp} (h : u * v = 1) : v = invF u := by
  have hu : u ≠ 0 := fun e => by rw [e] at h; exact one_neF (by grobner)
  refine cancelF hu ?_
  have := inv_mulF hu
  clear hu
  grobner
theorem inv_invF (u : Fp) : invF (invF u) = u := by
  by_cases h : u = 0
  · rw [h, inv_zeroF, inv_zeroF]
  · exact (inv_uniq (inv_mulF h)).symm
theorem mul_ne {u v : Fp} (h : u ≠ 0) (h' : v ≠ 0) : u * v ≠ 0 := fun e => by
  rcases nozero e with h1 | h1
  · exact h h1
  · exact h' h1
theorem zero_mulF (v : Fp) : 0 * v = 0 := by grobner
theorem mul_zeroF (v : Fp) : v * 0 = 0 := by grobner
theorem inv_mul_inv (u v : Fp) : invF (u * v) = invF u * invF v := by
  by_cases h : u = 0
  · rw [h, inv_zeroF, zero_mulF, inv_zeroF, zero_mulF]
  · by_cases h' : v = 0
    · rw [h', inv_zeroF, mul_zeroF, inv_zeroF, mul_zeroF]
    · refine (inv_uniq ?_).symm
      have h1 := inv_mulF h
      have h2 := inv_mulF h'
      clear h h'
      grobner
theorem sq_one {u : Fp} (h : u * u = 1) : u = 1 ∨ u = -1 := by
  have : (u - 1) * (u + 1) = 0 := by grobner
  rcases nozero this with h1 | h1
  · exact .inl (by clear h this; grobner)
  · exact .inr (by clear h this; grobner)
theorem sq_eq {u v : Fp} (h : u * u = v * v) : u = v ∨ u = -v := by
  have : (u - v) * (u + v) = 0 := by grobner
  rcases nozero this with h1 | h1
  · exact .inl (by clear h this; grobner)
  · exact .inr (by clear h this; grobner)
/-- A root of -1. -/
def iF : Fp := zf 19681161376707505956807079304988542015446066515923890162744021073123829784752
theorem iF_sq : iF * iF = -1 := by decide +kernel
theorem two_powF (b e r f : Nat) (he : e < 2 ^ f) (h : pmod PP f b e 1 % PP = r) : zf b ^ e = zf r := by
  rw [← zf_pow, zf_eq, ← h, Nat.mod_mod, pmod_eq PP f b e 1 he, Nat.one_mul]
theorem iF_pow : (zf 2) ^ eI = iF := two_powF 2 eI _ 255 eI_lt (by rw [eI_num]; decide +kernel)
attribute [irreducible] iF
def rootF (a : Fp) : Fp := if a ^ eRoot * a ^ eRoot = a then a ^ eRoot else a ^ eRoot * iF
theorem root_four {a x : Fp} (hx : a ^ eRoot = x) (h : a ^ eHalf = 1) : (x * x) * (x * x) = a * a := by
  have e : (x * x) * (x * x) = a ^ (eRoot * 4) := by
    rw [pow_mulF, hx]; clear h hx; grobner
  rw [e, eRoot_mul, pow_addF, h]
  clear h hx e
  grobner
theorem root_case {a x : Fp} (h0 : ¬ x * x = a) (h4 : (x * x) * (x * x) = a * a) : x * iF * (x * iF) = a := by
  rcases sq_eq h4 with h5 | h5
  · exact absurd h5 h0
  · have := iF_sq
    clear h4 h0
    generalize iF = j at *
    grobner
theorem sq_half {s : Fp} (hs : s ≠ 0) : (s * s) ^ eHalf = 1 := by
  rw [mul_powF, ← pow_addF, eHalf_add, fermatF hs]
theorem rootF_sq (s : Fp) : rootF (s * s) * rootF (s * s) = s * s := by
  unfold rootF
  split
  · assumption
  · rename_i h
    by_cases hs : s = 0
    · exfalso
      apply h
      obtain ⟨k, hk⟩ := eRoot_pos
      rw [hs, zero_mulF, hk, zero_powF, zero_mulF]
    · exact root_case h (root_four rfl (sq_half hs))
theorem rootF_one {a : Fp} (h : a ^ eHalf = 1) : rootF a * rootF a = a := by
  unfold rootF
  split
  · assumption
  · rename_i h0
    exact root_case h0 (root_four rfl h)
attribute [irreducible] rootF
/-- Which have a root. -/
theorem root_iff (a : Fp) : rootF a * rootF a = a ↔ a = 0 ∨ a ^ eHalf = 1 := by
  constructor
  · intro h
    by_cases ha : a = 0
    · exact .inl ha
    · refine .inr ?_
      have hr : rootF a ≠ 0 := fun e => ha (by rw [e, zero_mulF] at h; exact h.symm)
      rw [← h]
      exact sq_half hr
  · rintro (h | h)
    · have := rootF_sq 0
      rw [zero_mulF] at this
      rw [h]; exact this
    · exact rootF_one h
theorem half_pow {a : Fp} (h : a ≠ 0) : a ^ eHalf = 1 ∨ a ^ eHalf = -1 := by
  refine sq_one ?_
  rw [← pow_addF, eHalf_add]
  exact fermatF h
end Go.Proofs.Ytcekjmejppemeaa
/- Abstract data: a call of parts of rows. -/
namespace Go.Proofs.Ytcekjmejppemeaa
open Go.RowKit
/-- What the callee looks at is a part of a row, from a place on. -/
def PartOf (ρ : Nat → Option (Nat × Nat)) (m m' : Mem) : Prop := ∀ j i o, ρ j = some (i, o) → j < m'.length ∧ ∃ own x y, m[i]? = some (.row own x) ∧ m'[j]? = some (.row false y) ∧ o + y.size ≤ x.size ∧ (∀ k, k < y.size → y.get k = x.get (o + k)) ∧ y.ren noRen = y
inductive PartC (ρ : Nat → Option (Nat × Nat)) : Cell → Cell → Prop
  | same {x : Cell} (h : x.ren noRen = x) : PartC ρ x x
  | ptr {b b' o k e : Nat} (h : ρ b' = some (b, o)) (he : e = o + k) : PartC ρ (.ptr b e) (.ptr b' k)
  | sl {b b' o k e len cap sz : Nat} (h : ρ b' = some (b, o)) (he : e = o + k) : PartC ρ (.sl b e len cap sz) (.sl b' k len cap sz)
  | nil {b' sz : Nat} : PartC ρ .nsl (.sl b' 0 0 0 sz)
  | emp {b' sz : Nat} : PartC ρ .esl (.sl b' 0 0 0 sz)
inductive PartL (ρ : Nat → Option (Nat × Nat)) : List AV → List AV → Prop
  | nil : PartL ρ [] []
  | c {x y : Cell} {l m : List AV} (h : PartC ρ x y) (hl : PartL ρ l m) : PartL ρ (.c x :: l) (.c y :: m)
  | agg {x : Arr} {l m : List AV} (h : x.ren noRen = x) (hl : PartL ρ l m) : PartL ρ (.agg x :: l) (.agg x :: m)
def partRen (n m j : Nat) : Option Nat := if j < n then none else some (j - n + m)
def partEmb (ρ : Nat → Option (Nat × Nat)) (ι : Emb) : Emb := fun j => (ρ j).bind fun q => (ι q.1).map fun l => ⟨l.c, l.off + q.2, l.n - q.2⟩
section
variable {ρ : Nat → Option (Nat × Nat)} {m m' N : Mem} {ι : Emb} {w : World}
theorem partEmb_of {j i o : Nat} (h : ρ j = some (i, o)) : partEmb ρ ι j = (ι i).map fun l => ⟨l.c, l.off + o, l.n - o⟩ := by
  unfold partEmb; rw [h]; rfl
theorem partEmb_some {j : Nat} {l : Loc} (h : partEmb ρ ι j = some l) : ∃ i o l0, ρ j = some (i, o) ∧ ι i = some l0 ∧ l = ⟨l0.c, l0.off + o, l0.n - o⟩ := by
  unfold partEmb at h
  obtain ⟨⟨i, o⟩, h1, h2⟩ := Option.bind_eq_some_iff.1 h
  obtain ⟨l0, h3, rfl⟩ := Option.map_eq_some_iff.1 h2
  exact ⟨i, o, l0, h1, h3, rfl⟩
theorem PartC.rel {x y : Cell} (h : PartC ρ x y) {v : Value} (hr : x.rel ι v) : y.rel (partEmb ρ ι) v := by
  cases h with
  | same h => rw [← h]; exact Cell.ren_rel (noRen_same ι _) hr
  | ptr h he =>
    obtain ⟨l, hl, rfl⟩ := hr
    subst he
    exact ⟨_, by rw [partEmb_of h, hl]; rfl, by simp [Nat.add_assoc]⟩
  | sl h he =>
    subst he
    obtain ⟨p, cap', rfl, h1, h2, h3⟩ := hr
    refine ⟨p, cap', rfl, h1, h2, h3.imp id ?_⟩
    rintro ⟨l, hl, rfl, hn⟩
    exact ⟨_, by rw [partEmb_of h, hl]; rfl, by simp [Nat.add_assoc], by show _ ≤ l.n - _; omega⟩
  | nil => simp only [Cell.rel] at hr; subst hr; exact ⟨none, 0, rfl, Nat.le_refl _, Nat.le_refl _, .inl rfl⟩
  | emp => obtain ⟨p, rfl⟩ := hr; exact ⟨p, 0, rfl, Nat.le_refl _, Nat.le_refl _, .inl rfl⟩
theorem PartL.rel {l m : List AV} (h : PartL ρ l m) : ∀ {vs : List Value}, ArgsRel ι l vs → ArgsRel (partEmb ρ ι) m vs := by
  induction h with
  | nil => intro vs hr; cases vs with
    | nil => trivial
    | cons v vs => exact hr.elim
  | c h _ ih => intro vs hr; cases vs with
    | nil => exact hr.elim
    | cons v vs => exact ⟨h.rel hr.1, ih hr.2⟩
  | @agg x l m h _ ih => intro vs hr; cases vs with
    | nil => exact hr.elim
    | cons v vs =>
      refine ⟨?_, ih hr.2⟩
      have := AV.ren_rel (noRen_same ι (partEmb ρ ι)) hr.1
      rwa [show AV.ren noRen (.agg x) = .agg x from congrArg AV.agg h] at this
theorem part_R (hρ : PartOf ρ m m') (hR : R ι m w) : R (partEmb ρ ι) m' w := by
  refine ⟨fun b hb => ?_, fun b l own x h1 h2 => ?_, fun b b' l l' own own' x x' _ h1 h1' h2 h2' ho => ?_⟩
  · cases hv : partEmb ρ ι b with
    | none => rfl
    | some l => obtain ⟨i, o, l0, hi, _⟩ := partEmb_some hv; have := (hρ b i o hi).1; omega
  · obtain ⟨i, o, l0, hi, hl, rfl⟩ := partEmb_some h1
    obtain ⟨_, ow, xx, y, g1, g2, g3, g4, g5⟩ := hρ b i o hi
    rw [g2] at h2; cases h2
    obtain ⟨cs, t, fr, k1, k2, k3, _⟩ := hR.rows i l0 ow _ hl g1
    refine ⟨cs, t, fr, k1, by show _ ≤ l0.n - o; omega, fun k hk => ?_, fun h => by cases h⟩
    obtain ⟨v, e1, e2⟩ := k3 (o + k) (by omega)
    refine ⟨v, by rw [show l0.off + o + k = l0.off + (o + k) from Nat.add_assoc _ _ _]; exact e1, ?_⟩
    rw [← g4 k hk] at e2
    have := Cell.ren_rel (noRen_same ι (partEmb ρ ι)) e2
    rwa [← Arr.ren_get, g5] at this
  · obtain ⟨i, o, l0, hi, _⟩ := partEmb_some h1
    obtain ⟨i', o', l0', hi', _⟩ := partEmb_some h1'
    obtain ⟨_, _, _, _, _, g2, _⟩ := hρ b i o hi
    obtain ⟨_, _, _, _, _, g2', _⟩ := hρ b' i' o' hi'
    rw [g2] at h2; cases h2
    rw [g2'] at h2'; cases h2'
    rcases ho with h | h <;> cases h
theorem part_step (hρ : PartOf ρ m m') (hR : R ι m w) {ι1 : Emb} {w' : World} (h : Step m'.length (partEmb ρ ι) m' w ι1 (m' ++ N) w') :
    ∃ ι2 : Emb, Same (partRen m'.length m.length) ι1 ι2 ∧ Step m.length ι m w ι2 (m ++ N.map (Row.ren (partRen m'.length m.length))) w' := by
  have unown : ∀ c, Owned (partEmb ρ ι) m' c → False := by
    rintro c ⟨b, l, x, h1, h2, _⟩
    obtain ⟨i, o, l0, hi, _⟩ := partEmb_some h1
    obtain ⟨_, _, _, _, _, g2, _⟩ := hρ b i o hi
    rw [g2] at h2; cases h2
  let ι2 : Emb := fun b => if b < m.length then ι b else ι1 (b - m.length + m'.length)
  have lo : ∀ {b}, b < m.length → ι2 b = ι b := fun hb => if_pos hb
  have hi : ∀ {b}, m.length ≤ b → ι2 b = ι1 (b - m.length + m'.length) := fun hb => if_neg (by omega)
  have hle : ι.le ι2 := fun b l hb => by
    have : b < m.length := by
      rcases Nat.lt_or_ge b m.length with h' | h'
      · exact h'
      · rw [hR.dom b h'] at hb; cases hb
    rw [lo this]; exact hb
  have same : Same (partRen m'.length m.length) ι1 ι2 := by
    intro j i hj
    unfold partRen at hj
    split at hj
    · cases hj
    · rename_i hge
      cases hj
      rw [hi (by omega)]
      congr 1
      omega
  have old : ∀ {b own x}, b < m.length → (m ++ N.map (Row.ren (partRen m'.length m.length)))[b]? = some (.row own x) → m[b]? = some (.row own x) := fun {b own x} hb hm => by rw [List.getElem?_append_left hb] at hm; exact hm
  have new : ∀ {b own x}, m.length ≤ b → (m ++ N.map (Row.ren (partRen m'.length m.length)))[b]? = some (.row own x) → ∃ y, (m' ++ N)[b - m.length + m'.length]? = some (.row own y) ∧ x = y.ren (partRen m'.length m.length) := fun {b own x} hb hm => by
    rw [List.getElem?_append_right hb, List.getElem?_map] at hm
    obtain ⟨r, hr, e⟩ := Option.map_eq_some_iff.1 hm
    obtain ⟨y, rfl, hy⟩ := row_ren e
    refine ⟨y, ?_, hy⟩
    rw [List.getElem?_append_right (by omega), show b - m.length + m'.length - m'.length = b - m.length by omega]
    exact hr
  have far : ∀ {b l own x}, m.length ≤ b → ι2 b = some l → (m ++ N.map (Row.ren (partRen m'.length m.length)))[b]? = some (.row own x) → w.heap.size ≤ l.c := fun {b l own x} hb hl hm => by
    obtain ⟨y, hy, _⟩ := new hb hm
    rw [hi hb] at hl
    rcases h.news _ l own y (by omega) hl hy with h3 | h3 | ⟨b0, l0, o0, x0, h4, h5, h6, _⟩
    · exact h3
    · exact (unown _ h3).elim
    · exact (no_row h4 h6).elim
  refine ⟨ι2, same, ⟨⟨fun b hb => ?_, fun b l own x hb hm => ?_, fun b b' l l' own own' x x' hne hb hb' hm hm' hoo => ?_⟩, ⟨h.trans.os, h.trans.tape, h.trans.output, h.trans.size, fun c hc _ => h.trans.keep c hc (unown c), fun c hc => ?_⟩, fun b hb => lo hb, by simp, fun b x hb hm => by rw [List.getElem?_append_left hb]; exact hm, fun b own x hb hm => ⟨x, old hb hm⟩, fun b l own x hb h1 h2 => .inl (far hb h1 h2)⟩⟩
  · rw [List.length_append, List.length_map] at hb
    rw [hi (by omega)]
    exact h.r.dom _ (by rw [List.length_append]; omega)
  · rcases Nat.lt_or_ge b m.length with hs | hs
    · rw [lo hs] at hb
      obtain ⟨cs, t, fr, k1, k2, k3, k4⟩ := hR.rows b l own x hb (old hs hm)
      exact ⟨cs, t, fr, by rw [h.trans.keep l.c (hR.lt hb (old hs hm)) (unown _)]; exact k1, k2, k3.mono' hle, k4⟩
    · obtain ⟨y, hy, rfl⟩ := new hs hm
      rw [hi hs] at hb
      obtain ⟨cs, t, fr, k1, k2, k3, k4⟩ := h.r.rows _ l own y hb hy
      exact ⟨cs, t, fr, k1, by rw [Arr.ren_size]; exact k2, Arr.ren_rel same k3, k4⟩
  · rcases Nat.lt_or_ge b m.length with hs | hs <;> rcases Nat.lt_or_ge b' m.length with hs' | hs'
    · rw [lo hs] at hb
      rw [lo hs'] at hb'
      exact hR.inj b b' l l' own own' x x' hne hb hb' (old hs hm) (old hs' hm') hoo
    · rw [lo hs] at hb
      have h1 := hR.lt hb (old hs hm)
      have h2 := far hs' hb' hm'
      omega
    · rw [lo hs'] at hb'
      have h1 := hR.lt hb' (old hs' hm')
      have h2 := far hs hb hm
      omega
    · obtain ⟨y, hy, _⟩ := new hs hm
      obtain ⟨y', hy', _⟩ := new hs' hm'
      rw [hi hs] at hb
      rw [hi hs'] at hb'
      exact h.r.inj _ _ l l' own own' y y' (by omega) hb hb' hy hy' hoo
  · obtain ⟨b, l, x, hb, hm, rfl⟩ := hc
    rcases Nat.lt_or_ge b m.length with hs | hs
    · rw [lo hs] at hb
      exact .inr ⟨b, l, x, hb, old hs hm, rfl⟩
    · exact .inl (far hs hb hm)
theorem Ev.part {P : Program} {f : FuncId} {args args' : List AV} {v : AV} (ρ : Nat → Option (Nat × Nat)) (hρ : PartOf ρ m m') (ha : PartL ρ args args')
    (h : Ev P (.call f args' m') (.val v (m' ++ N))) : Ev P (.call f args m) (.val (v.ren (partRen m'.length m.length)) (m ++ N.map (Row.ren (partRen m'.length m.length)))) :=
  Ev.semF fun ι w vs hR hargs => by
    refine (sound h (partEmb ρ ι) w vs (part_R hρ hR) (ha.rel hargs)).mono fun e' w' hq => ?_
    obtain ⟨u, ι1, rfl, hv, hs⟩ := hq
    obtain ⟨ι2, hsame, hst⟩ := part_step hρ hR hs
    exact ⟨u, ι2, rfl, AV.ren_rel hsame hv, hst⟩
end
/-- Each row of the callee is nobody's (none) or a part of a row of the caller, from a place on. -/
inductive PartRows (m : Mem) : List (Option (Nat × Nat)) → Mem → Prop
  | nil : PartRows m [] []
  | no {r : Row} {os : List (Option (Nat × Nat))} {m' : Mem} (hl : PartRows m os m') : PartRows m (none :: os) (r :: m')
  | a8 {i o n : Nat} {own : Bool} {b : List (BitVec 8)} {os : List (Option (Nat × Nat))} {m' : Mem} (hm : m[i]? = some (.row own (.a8 b))) (h : o + n ≤ b.length) (hl : PartRows m os m') : PartRows m (some (i, o) :: os) (.row false (.a8 (cut b o n)) :: m')
  | all {i : Nat} {own : Bool} {x : Arr} {os : List (Option (Nat × Nat))} {m' : Mem} (hm : m[i]? = some (.row own x)) (h : x.ren noRen = x) (hl : PartRows m os m') : PartRows m (some (i, 0) :: os) (.row false x :: m')
def partOfs (os : List (Option (Nat × Nat))) (j : Nat) : Option (Nat × Nat) := (os[j]?).bind id
theorem PartRows.get {m : Mem} {os : List (Option (Nat × Nat))} {m' : Mem} (h : PartRows m os m') : ∀ {j i o : Nat}, os[j]? = some (some (i, o)) → j < m'.length ∧ ∃ own x y, m[i]? = some (.row own x) ∧ m'[j]? = some (.row false y) ∧ o + y.size ≤ x.size ∧ (∀ k, k < y.size → y.get k = x.get (o + k)) ∧ y.ren noRen = y := by
  induction h with
  | nil => intro j i o hj; simp at hj
  | no _ ih =>
    intro j i o hj
    cases j with
    | zero => simp at hj
    | succ j =>
      rw [List.getElem?_cons_succ] at hj
      obtain ⟨h1, ow, x, y, h2, h3, h4⟩ := ih hj
      exact ⟨by simpa using h1, ow, x, y, h2, by rw [List.getElem?_cons_succ]; exact h3, h4⟩
  | @a8 i o n own b os m' hm h _ ih =>
    intro j i' o' hj
    cases j with
    | zero =>
      simp only [List.getElem?_cons_zero, Option.some.injEq, Prod.mk.injEq] at hj
      obtain ⟨rfl, rfl⟩ := hj
      have hl : (cut b o n).length = n := by simp [cut]; omega
      refine ⟨by simp, own, .a8 b, .a8 (cut b o n), hm, rfl, by show o + (cut b o n).length ≤ b.length; omega, fun k hk => ?_, rfl⟩
      have hk' : k < n := by have : k < (cut b o n).length := hk; omega
      show Cell.val (U8 (nth (cut b o n) k)) = Cell.val (U8 (nth b (o + k)))
      rw [show nth (cut b o n) k = nth b (o + k) from cut_get b o n k _ hk']
    | succ j =>
      rw [List.getElem?_cons_succ] at hj
      obtain ⟨h1, ow, x, y, h2, h3, h4⟩ := ih hj
      exact ⟨by simpa using h1, ow, x, y, h2, by rw [List.getElem?_cons_succ]; exact h3, h4⟩
  | @all i own x os m' hm h _ ih =>
    intro j i' o' hj
    cases j with
    | zero =>
      simp only [List.getElem?_cons_zero, Option.some.injEq, Prod.mk.injEq] at hj
      obtain ⟨rfl, rfl⟩ := hj
      exact ⟨by simp, own, x, x, hm, rfl, by omega, fun k hk => by rw [Nat.zero_add], h⟩
    | succ j =>
      rw [List.getElem?_cons_succ] at hj
      obtain ⟨h1, ow, x, y, h2, h3, h4⟩ := ih hj
      exact ⟨by simpa using h1, ow, x, y, h2, by rw [List.getElem?_cons_succ]; exact h3, h4⟩
theorem PartRows.of {m : Mem} {os : List (Option (Nat × Nat))} {m' : Mem} (h : PartRows m os m') : PartOf (partOfs os) m m' := by
  intro j i o hj
  unfold partOfs at hj
  obtain ⟨o', h1, h2⟩ := Option.bind_eq_some_iff.1 hj
  simp only [id_eq] at h2
  subst h2
  exact h.get h1
/-- A call of parts of rows, by what the function does with whole ones. -/
theorem Ev.parts {P : Program} {f : FuncId} {m m' N N' : Mem} {args args' : List AV} {v v' : AV} (os : List (Option (Nat × Nat))) (hr : PartRows m os m') (ha : PartL (partOfs os) args args')
    (h : Ev P (.call f args' m') (.val v (m' ++ N))) (hv : v.ren (partRen m'.length m.length) = v') (hN : N.map (Row.ren (partRen m'.length m.length)) = N') : Ev P (.call f args m) (.val v' (m ++ N')) := by
  subst hv hN
  exact Ev.part (partOfs os) hr.of ha h
end Go.Proofs.Ytcekjmejppemeaa
/- Abstract data: more steps: 'or' and 'and' of tests, copy, array literals that name some places only. -/
namespace Go.Proofs.Ytcekjmejppemeaa
open Go.RowKit
theorem ev_want {ops : Array Oper} {t : Nat → AV} {o : Oper} {j d : Nat} {want b c : Bool} (hg : o.guard = some (j, want)) (hd : (ops[j]?).bind (·.dst) = some d) (ht : t d = .c (.val (.bool b))) (hb : (b == want) = c) : evWanted ops t o = some c := by
  simp only [evWanted, hg, hd, ht, hb]
theorem ev_wantU {ops : Array Oper} {t : Nat → AV} {o : Oper} {j d : Nat} {want : Bool} {y : Array Value} (hg : o.guard = some (j, want)) (hd : (ops[j]?).bind (·.dst) = some d) (ht : t d = .c (.val (.tuple y))) : evWanted ops t o = some false := by
  simp only [evWanted, hg, hd, ht]
theorem beqT {p : Prop} [Decidable p] (h : p) : (decide p == true) = true := by simp [h]
theorem beqF {p : Prop} [Decidable p] (h : ¬ p) : (decide p == false) = true := by simp [h]
theorem beqTn {p : Prop} [Decidable p] (h : p) : (decide p == false) = false := by simp [h]
theorem beqFn {p : Prop} [Decidable p] (h : ¬ p) : (decide p == true) = false := by simp [h]
def zern (n : Nat) : List Nat := List.replicate n 0
@[simp] theorem zern_len (n : Nat) : (zern n).length = n := by simp [zern]
theorem cut_over0 {α : Type} (u m : List α) (n : Nat) (h : m.length = n) : cut (over u 0 m) 0 n = m := by
  subst h; simp [cut, over]
theorem over_all {α : Type} (u m : List α) (h : m.length = u.length) : over u 0 m = m := by
  simp [over, h]
theorem nth_over_hi {k : Nat} (u m : List (BitVec k)) (i : Nat) (h : m.length ≤ i) (hl : m.length ≤ u.length) : nth (over u 0 m) i = nth u i := by
  unfold nth
  rw [over_get u m 0 i 0 (by omega), if_neg (by omega)]
@[simp] theorem over_len {α : Type} (u m : List α) (o : Nat) : (over u o m).length = min o u.length + m.length + (u.length - (o + m.length)) := by simp [over, Nat.add_assoc]
section
variable {P : Program} {k N : Nat} {ops : Array Oper} {d : Nat} {ty : TypeId} {pos : String} {af : Array Edge} {l0 : List Oper} {T : Nat → AV} {M M' : Mem} {K : St → Prop} {t t' : TypeId}
theorem v_pickOr {c a b : Operand} {p q : Bool} (hc : opnd T c = .c (.val (.bool p))) (ha : opnd T a = .c (.val (.bool true))) (hb : opnd T b = .c (.val (.bool q))) : evVal P (opnd T) M (.pick c a b) = some (.c (.val (.bool (p || q)))) := by
  simp only [evVal, hc, ha, hb]
  cases p <;> rfl
theorem v_pickAnd {c a b : Operand} {p q : Bool} (hc : opnd T c = .c (.val (.bool p))) (ha : opnd T a = .c (.val (.bool q))) (hb : opnd T b = .c (.val (.bool false))) : evVal P (opnd T) M (.pick c a b) = some (.c (.val (.bool (p && q)))) := by
  simp only [evVal, hc, ha, hb]
  cases p <;> rfl
theorem copy8 {s x : Operand} {el b0 o len cap b o2 n c m : Nat} {own : Bool} {u r : List (BitVec 8)} (hs : opnd T s = .c (.sl b0 o len cap 1)) (hms : M[b0]? = some (.row true (.a8 u))) (hx : opnd T x = .c (.sl b o2 n c 1)) (hm : M[b]? = some (.row own (.a8 r))) (hu : P.underlying t = some (.slice el)) (hz : szT P el = some 1)
    (hlu : o + len ≤ u.length) (hl : o2 + n ≤ r.length) (hn : min n len = m) (hM : M.set b0 (.row true (.a8 (over u o (cut r o2 m)))) = M') :
    evMem P (opnd T) M (.call { callee := .builtin .copy, args := #[s, x], argTypes := #[t, t'] }) = some (.c (.val (.int .i64 ((m : Nat) : Int))), M') := by
  show evCopy P M t (opnd T s) (opnd T x) = _
  subst hM; subst hn
  rw [hs, hx]
  have h1 : o2 + min n len ≤ Arr.size (.a8 r) := by simp only [Arr.size]; omega
  have h2 : o + min n len ≤ Arr.size (.a8 u) := by simp only [Arr.size]; omega
  simp only [evCopy, hu, hz, hms, hm, true_and, Nat.lt_irrefl, if_true, Nat.zero_lt_one, h1, h2, Arr.win, Arr.one, and_self, Arr.putW, Option.map_some, Nat.mul_one]
theorem s_copy8 {s x : Operand} {el b0 o len cap b o2 n c m : Nat} {own : Bool} {u r : List (BitVec 8)} (hs : opnd T s = .c (.sl b0 o len cap 1)) (hms : M[b0]? = some (.row true (.a8 u))) (hx : opnd T x = .c (.sl b o2 n c 1)) (hm : M[b]? = some (.row own (.a8 r))) (hu : P.underlying t = some (.slice el)) (hz : szT P el = some 1)
    (hlu : o + len ≤ u.length) (hl : o2 + n ≤ r.length) (hn : min n len = m) (hM : M.set b0 (.row true (.a8 (over u o (cut r o2 m)))) = M') (hd : decide (d < N) = true) (hk : WO P k ops l0 ⟨N, upd T d (.c (.val (.int .i64 ((m : Nat) : Int)))), M'⟩ K) :
    WO P k ops (⟨some d, .call { callee := .builtin .copy, args := #[s, x], argTypes := #[t, t'] }, ty, pos, af, none⟩ :: l0) ⟨N, T, M⟩ K :=
  s_mem (copy8 hs hms hx hm hu hz hlu hl hn hM) hd hk
theorem s_copy8a {s x : Operand} {el b0 o len cap b n c m : Nat} {own : Bool} {u r : List (BitVec 8)} (hs : opnd T s = .c (.sl b0 o len cap 1)) (hms : M[b0]? = some (.row true (.a8 u))) (hx : opnd T x = .c (.sl b 0 n c 1)) (hm : M[b]? = some (.row own (.a8 r))) (hu : P.underlying t = some (.slice el)) (hz : szT P el = some 1)
    (hlu : o + len ≤ u.length) (hl : r.length = n) (hn : min n len = m) (he : m = n) (hM : M.set b0 (.row true (.a8 (over u o r))) = M') (hd : decide (d < N) = true) (hk : WO P k ops l0 ⟨N, upd T d (.c (.val (.int .i64 ((m : Nat) : Int)))), M'⟩ K) :
    WO P k ops (⟨some d, .call { callee := .builtin .copy, args := #[s, x], argTypes := #[t, t'] }, ty, pos, af, none⟩ :: l0) ⟨N, T, M⟩ K :=
  s_mem (copy8 hs hms hx hm hu hz hlu (by omega) hn (by rw [he, cut_all hl]; exact hM)) hd hk
theorem s_copy8w {s x : Operand} {el b0 len cap b o2 n c m : Nat} {own : Bool} {u r : List (BitVec 8)} (hs : opnd T s = .c (.sl b0 0 len cap 1)) (hms : M[b0]? = some (.row true (.a8 u))) (hx : opnd T x = .c (.sl b o2 n c 1)) (hm : M[b]? = some (.row own (.a8 r))) (hu : P.underlying t = some (.slice el)) (hz : szT P el = some 1)
    (hlu : u.length = len) (hl : o2 + n ≤ r.length) (hn : min n len = m) (he : m = len) (hM : M.set b0 (.row true (.a8 (cut r o2 m))) = M') (hd : decide (d < N) = true) (hk : WO P k ops l0 ⟨N, upd T d (.c (.val (.int .i64 ((m : Nat) : Int)))), M'⟩ K) :
    WO P k ops (⟨some d, .call { callee := .builtin .copy, args := #[s, x], argTypes := #[t, t'] }, ty, pos, af, none⟩ :: l0) ⟨N, T, M⟩ K :=
  s_mem (copy8 hs hms hx hm hu hz (by omega) hl hn (by rw [over_all _ _ (by rw [cut_length]; omega)]; exact hM)) hd hk
theorem s_copy8aw {s x : Operand} {el b0 len cap b n c m : Nat} {own : Bool} {u r : List (BitVec 8)} (hs : opnd T s = .c (.sl b0 0 len cap 1)) (hms : M[b0]? = some (.row true (.a8 u))) (hx : opnd T x = .c (.sl b 0 n c 1)) (hm : M[b]? = some (.row own (.a8 r))) (hu : P.underlying t = some (.slice el)) (hz : szT P el = some 1)
    (hlu : u.length = len) (hl : r.length = n) (hn : min n len = m) (he : m = len) (he2 : m = n) (hM : M.set b0 (.row true (.a8 r)) = M') (hd : decide (d < N) = true) (hk : WO P k ops l0 ⟨N, upd T d (.c (.val (.int .i64 ((m : Nat) : Int)))), M'⟩ K) :
    WO P k ops (⟨some d, .call { callee := .builtin .copy, args := #[s, x], argTypes := #[t, t'] }, ty, pos, af, none⟩ :: l0) ⟨N, T, M⟩ K :=
  s_mem (copy8 hs hms hx hm hu hz (by omega) (by omega) hn (by rw [he2, cut_all hl, over_all _ _ (by omega)]; exact hM)) hd hk
theorem v_blf8 {l : List (BitVec 8)} {n n' el : Nat} {ps : Array (Nat × Operand)} (hz : (P.info? t).bind (fun i => i.zero.map (fun z => absArr z.cells.toList)) = some (.a8 (zer8 n))) (hu : P.underlying t = some (.array n' el)) (hs : szT P el = some 1) (h0 : (decide (ps.toList.length = n')) = false)
    (hf : fillA (fun i => some (i * 1, 1)) (.a8 (zer8 n)) (ps.toList.map fun p => (p.1, opnd T p.2)) = some (.a8 l)) : evVal P (opnd T) M (.build t ps) = some (.agg (.a8 l)) := by
  show evBuild P t (ps.toList.map fun p => (p.1, opnd T p.2)) = _
  obtain ⟨it, hi, hz2⟩ := Option.bind_eq_some_iff.1 hz
  obtain ⟨z, hz3, hz4⟩ := Option.map_eq_some_iff.1 hz2
  obtain ⟨ie, hie, h1⟩ := Option.map_eq_some_iff.1 hs
  have h9 : ¬ (ie.size = 1 ∧ (ps.toList.map fun p => (p.1, opnd T p.2)).length = n' ∧ z.cells.size = n') := by
    rintro ⟨_, h, _⟩
    rw [List.length_map] at h
    exact of_decide_eq_false h0 h
  simp only [evBuild, hi, hu, hz3, hie]
  rw [if_neg h9]
  simp only [hz4, h1, hf, Option.map_some]
theorem v_blf32 {l : List (BitVec 32)} {n n' el : Nat} {ps : Array (Nat × Operand)} (hz : (P.info? t).bind (fun i => i.zero.map (fun z => absArr z.cells.toList)) = some (.a32 (zer32 n))) (hu : P.underlying t = some (.array n' el)) (hs : szT P el = some 1) (h0 : (decide (ps.toList.length = n')) = false)
    (hf : fillA (fun i => some (i * 1, 1)) (.a32 (zer32 n)) (ps.toList.map fun p => (p.1, opnd T p.2)) = some (.a32 l)) : evVal P (opnd T) M (.build t ps) = some (.agg (.a32 l)) := by
  show evBuild P t (ps.toList.map fun p => (p.1, opnd T p.2)) = _
  obtain ⟨it, hi, hz2⟩ := Option.bind_eq_some_iff.1 hz
  obtain ⟨z, hz3, hz4⟩ := Option.map_eq_some_iff.1 hz2
  obtain ⟨ie, hie, h1⟩ := Option.map_eq_some_iff.1 hs
  have h9 : ¬ (ie.size = 1 ∧ (ps.toList.map fun p => (p.1, opnd T p.2)).length = n' ∧ z.cells.size = n') := by
    rintro ⟨_, h, _⟩
    rw [List.length_map] at h
    exact of_decide_eq_false h0 h
  simp only [evBuild, hi, hu, hz3, hie]
  rw [if_neg h9]
  simp only [hz4, h1, hf, Option.map_some]
theorem v_blf64 {l : List (BitVec 64)} {n n' el : Nat} {ps : Array (Nat × Operand)} (hz : (P.info? t).bind (fun i => i.zero.map (fun z => absArr z.cells.toList)) = some (.a64 (zer64 n))) (hu : P.underlying t = some (.array n' el)) (hs : szT P el = some 1) (h0 : (decide (ps.toList.length = n')) = false)
    (hf : fillA (fun i => some (i * 1, 1)) (.a64 (zer64 n)) (ps.toList.map fun p => (p.1, opnd T p.2)) = some (.a64 l)) : evVal P (opnd T) M (.build t ps) = some (.agg (.a64 l)) := by
  show evBuild P t (ps.toList.map fun p => (p.1, opnd T p.2)) = _
  obtain ⟨it, hi, hz2⟩ := Option.bind_eq_some_iff.1 hz
  obtain ⟨z, hz3, hz4⟩ := Option.map_eq_some_iff.1 hz2
  obtain ⟨ie, hie, h1⟩ := Option.map_eq_some_iff.1 hs
  have h9 : ¬ (ie.size = 1 ∧ (ps.toList.map fun p => (p.1, opnd T p.2)).length = n' ∧ z.cells.size = n') := by
    rintro ⟨_, h, _⟩
    rw [List.length_map] at h
    exact of_decide_eq_false h0 h
  simp only [evBuild, hi, hu, hz3, hie]
  rw [if_neg h9]
  simp only [hz4, h1, hf, Option.map_some]
end
end Go.Proofs.Ytcekjmejppemeaa
/- Abstract data: short names for the side conditions of the steps, each proved by what stands in its statement. -/
namespace Go.Proofs.Ytcekjmejppemeaa
open Go.RowKit
attribute [simp] cut_length
theorem LEN_ {p : Prop} (h : p := by first | exact (rfl : _ = 0) | exact (rfl : _ = 1) | exact (rfl : _ = 2) | exact (rfl : _ = 3) | exact (rfl : _ = 4) | exact (rfl : _ = 5) | exact (rfl : _ = 6) | exact (rfl : _ = 7) | exact (rfl : _ = 8) | exact (rfl : _ = 9) | exact (rfl : _ = 10) | exact (rfl : _ = 11) | exact (rfl : _ = 12)) : p := h
theorem APP_ {p : Prop} (h : p := by first | exact (rfl : _ = []) | exact (rfl : _ = [_]) | exact (rfl : _ = [_, _]) | exact (rfl : _ = [_, _, _]) | exact (rfl : _ = [_, _, _, _]) | exact (rfl : _ = [_, _, _, _, _]) | exact (rfl : _ = [_, _, _, _, _, _]) | exact (rfl : _ = [_, _, _, _, _, _, _]) | exact (rfl : _ = [_, _, _, _, _, _, _, _]) | exact (rfl : _ = [_, _, _, _, _, _, _, _, _]) | exact (rfl : _ = [_, _, _, _, _, _, _, _, _, _]) | exact (rfl : _ = [_, _, _, _, _, _, _, _, _, _, _]) | exact (rfl : _ = [_, _, _, _, _, _, _, _, _, _, _, _]) | exact (rfl : _ = [_, _, _, _, _, _, _, _, _, _, _, _, _]) | exact (rfl : _ = [_, _, _, _, _, _, _, _, _, _, _, _, _, _]) | exact (rfl : _ = [_, _, _, _, _, _, _, _, _, _, _, _, _, _, _]) | exact (rfl : _ = [_, _, _, _, _, _, _, _, _, _, _, _, _, _, _, _]) | exact (rfl : _ = [_, _, _, _, _, _, _, _, _, _, _, _, _, _, _, _, _]) | exact (rfl : _ = [_, _, _, _, _, _, _, _, _, _, _, _, _, _, _, _, _, _]) | exact (rfl : _ = [_, _, _, _, _, _, _, _, _, _, _, _, _, _, _, _, _, _, _]) | exact (rfl : _ = [_, _, _, _, _, _, _, _, _, _, _, _, _, _, _, _, _, _, _, _]) | exact (rfl : _ = [_, _, _, _, _, _, _, _, _, _, _, _, _, _, _, _, _, _, _, _, _]) | exact (rfl : _ = [_, _, _, _, _, _, _, _, _, _, _, _, _, _, _, _, _, _, _, _, _, _])) : p := h
theorem KILL_ {p : Prop} (h : p := by first | exact (rfl : _ = []) | exact (rfl : _ = [_]) | exact (rfl : _ = [_, _]) | exact (rfl : _ = [_, _, _]) | exact (rfl : _ = [_, _, _, _]) | exact (rfl : _ = [_, _, _, _, _]) | exact (rfl : _ = [_, _, _, _, _, _]) | exact (rfl : _ = [_, _, _, _, _, _, _]) | exact (rfl : _ = [_, _, _, _, _, _, _, _]) | exact (rfl : _ = [_, _, _, _, _, _, _, _, _]) | exact (rfl : _ = [_, _, _, _, _, _, _, _, _, _]) | exact (rfl : _ = [_, _, _, _, _, _, _, _, _, _, _]) | exact (rfl : _ = [_, _, _, _, _, _, _, _, _, _, _, _]) | exact (rfl : _ = [_, _, _, _, _, _, _, _, _, _, _, _, _]) | exact (rfl : _ = [_, _, _, _, _, _, _, _, _, _, _, _, _, _]) | exact (rfl : _ = [_, _, _, _, _, _, _, _, _, _, _, _, _, _, _]) | exact (rfl : _ = [_, _, _, _, _, _, _, _, _, _, _, _, _, _, _, _]) | exact (rfl : _ = [_, _, _, _, _, _, _, _, _, _, _, _, _, _, _, _, _]) | exact (rfl : _ = [_, _, _, _, _, _, _, _, _, _, _, _, _, _, _, _, _, _]) | exact (rfl : _ = [_, _, _, _, _, _, _, _, _, _, _, _, _, _, _, _, _, _, _]) | exact (rfl : _ = [_, _, _, _, _, _, _, _, _, _, _, _, _, _, _, _, _, _, _, _]) | exact (rfl : _ = [_, _, _, _, _, _, _, _, _, _, _, _, _, _, _, _, _, _, _, _, _]) | exact (rfl : _ = [_, _, _, _, _, _, _, _, _, _, _, _, _, _, _, _, _, _, _, _, _, _])) : p := h
theorem FIT_ {p : Prop} (h : p := by show _ ≤ List.length _; first | omega | (simp only [put_length]; omega) | (simp only [zer8_length]; omega)) : p := h
theorem EQL_ {p : Prop} (h : p := by first | assumption | omega | rfl | (simp only [put_length]; first | assumption | omega) | (simp only [List.length_append]; omega) | (simp; done) | (simp [*]; omega)) : p := h
theorem LE_ {p : Prop} (h : p := by first | omega | (simp only [put_length]; omega) | (simp; done) | (simp; omega) | (simp [*]; omega)) : p := h
theorem NEW0_ {p : Prop} (h : p := by exact (rfl : _ = [])) : p := h
theorem NEW8_ {p : Prop} (h : p := by exact (rfl : _ = [.row true (.a8 _)])) : p := h
theorem VAL_ {p : Prop} (h : p := by first | exact (rfl : _ = AV.c (.val _)) | exact (rfl : _ = AV.agg (.a64 _)) | exact (rfl : _ = AV.agg (.a8 _)) | exact (rfl : _ = AV.agg (.a32 _)) | exact (rfl : _ = AV.c .nsl) | exact (rfl : _ = AV.c (.sl 0 _ _ _ _)) | exact (rfl : _ = AV.c (.sl 1 _ _ _ _)) | exact (rfl : _ = AV.c (.sl 2 _ _ _ _)) | exact (rfl : _ = AV.c (.sl 3 _ _ _ _)) | exact (rfl : _ = AV.c (.sl 4 _ _ _ _)) | exact (rfl : _ = AV.c (.sl 5 _ _ _ _)) | exact (rfl : _ = AV.c (.sl 6 _ _ _ _)) | exact (rfl : _ = AV.c (.sl 7 _ _ _ _)) | exact (rfl : _ = AV.c (.sl 8 _ _ _ _)) | exact (rfl : _ = AV.c (.sl 9 _ _ _ _)) | exact rfl) : p := h
theorem SLV_ {p : Prop} (h : p := by first | exact (rfl : _ = AV.c (.sl 0 _ _ _ _)) | exact (rfl : _ = AV.c (.sl 1 _ _ _ _)) | exact (rfl : _ = AV.c (.sl 2 _ _ _ _)) | exact (rfl : _ = AV.c (.sl 3 _ _ _ _)) | exact (rfl : _ = AV.c (.sl 4 _ _ _ _)) | exact (rfl : _ = AV.c (.sl 5 _ _ _ _)) | exact (rfl : _ = AV.c (.sl 6 _ _ _ _)) | exact (rfl : _ = AV.c (.sl 7 _ _ _ _)) | exact (rfl : _ = AV.c (.sl 8 _ _ _ _))) : p := h
theorem SET_ {p : Prop} (h : p := by first | exact (rfl : _ = []) | exact (rfl : _ = [_]) | exact (rfl : _ = [_, _]) | exact (rfl : _ = [_, _, _]) | exact (rfl : _ = [_, _, _, _]) | exact (rfl : _ = [_, _, _, _, _]) | exact (rfl : _ = [_, _, _, _, _, _]) | exact (rfl : _ = [_, _, _, _, _, _, _]) | exact (rfl : _ = [_, _, _, _, _, _, _, _]) | exact (rfl : _ = [_, _, _, _, _, _, _, _, _]) | exact (rfl : _ = [_, _, _, _, _, _, _, _, _, _]) | exact (rfl : _ = [_, _, _, _, _, _, _, _, _, _, _]) | exact (rfl : _ = [_, _, _, _, _, _, _, _, _, _, _, _]) | exact (rfl : _ = [_, _, _, _, _, _, _, _, _, _, _, _, _]) | exact (rfl : _ = [_, _, _, _, _, _, _, _, _, _, _, _, _, _]) | exact (rfl : _ = [_, _, _, _, _, _, _, _, _, _, _, _, _, _, _]) | exact (rfl : _ = [_, _, _, _, _, _, _, _, _, _, _, _, _, _, _, _]) | exact (rfl : _ = [_, _, _, _, _, _, _, _, _, _, _, _, _, _, _, _, _]) | exact (rfl : _ = [_, _, _, _, _, _, _, _, _, _, _, _, _, _, _, _, _, _]) | exact (rfl : _ = [_, _, _, _, _, _, _, _, _, _, _, _, _, _, _, _, _, _, _]) | exact (rfl : _ = [_, _, _, _, _, _, _, _, _, _, _, _, _, _, _, _, _, _, _, _]) | exact (rfl : _ = [_, _, _, _, _, _, _, _, _, _, _, _, _, _, _, _, _, _, _, _, _]) | exact (rfl : _ = [_, _, _, _, _, _, _, _, _, _, _, _, _, _, _, _, _, _, _, _, _, _])) : p := h
theorem LIT_ {p : Prop} (h : p := by simp only [BitVec.reduceOfInt]; rfl) : p := h
theorem BD_ {p : Prop} (h : p := by first | omega) : p := h
theorem NUM_ {p : Prop} (h : p := by first | exact add64 _ _ | exact add32 _ _ | exact add8 _ _ | exact sub64 _ _ | exact mul64 _ _ | exact mul32 _ _ | exact and64 _ _ | exact or64 _ _ | exact xor64 _ _ | exact and32 _ _ | exact or32 _ _ | exact xor32 _ _ | exact and8 _ _ | exact or8 _ _ | exact xor8 _ _ | exact lssN | exact leqN | exact gtrN | exact geqN | exact eqlN | exact neqN | exact addN (by omega) | exact subN (by omega) (by omega) | exact mulN (by omega) | exact quoN (by omega) (by omega) | exact remN (by omega) (by omega) | exact and64c (by simp only [BitVec.reduceOfInt]; rfl) | exact add64c (by simp only [BitVec.reduceOfInt]; rfl) | exact sub64c (by simp only [BitVec.reduceOfInt]; rfl) | exact sub64d (by simp only [BitVec.reduceOfInt]; rfl) | exact mul64c (by simp only [BitVec.reduceOfInt]; rfl) | exact mul64d (by simp only [BitVec.reduceOfInt]; rfl) | exact and32c (by simp only [BitVec.reduceOfInt]; rfl) | exact add32c (by simp only [BitVec.reduceOfInt]; rfl) | exact mul32d (by simp only [BitVec.reduceOfInt]; rfl) | exact and8c (by simp only [BitVec.reduceOfInt]; rfl) | exact or8c (by simp only [BitVec.reduceOfInt]; rfl) | exact xor8c (by simp only [BitVec.reduceOfInt]; rfl) | exact shl64n | exact shr64n | exact shl32n | exact shr32n | exact shl8n | exact shr8n | exact gtr64c | exact eql64 _ _ | exact neq64 _ _ | exact eql8 _ _ | exact neq8 _ _ | exact eql64c (by simp only [BitVec.reduceOfInt]; rfl) (by decide) | exact eql8c (by simp only [BitVec.reduceOfInt]; rfl) (by decide)) : p := h
theorem CONV_ {p : Prop} (h : p := by first | exact w8_64 _ | exact w8_32 _ | exact w64_32 _ | exact w64_8 _ | exact w32_8 _ | exact w32_64 _ | exact wi_64 _ | exact wi_32 _ | exact wi_8 _ | exact w8_i _) : p := h
theorem ARR_ {p : Prop} (h : p := by first | exact congrArg some (by first | rfl) | rfl) : p := h
theorem LT_ {p : Prop} (h : p := by first | omega | (simp only [put_length]; omega) | (simp only [zer64_length]; omega) | (simp only [zer8_length]; omega) | (simp only [zer32_length]; omega) | (simp only [zeri_length]; omega) | (simp only [puti_length]; omega) | (simp only [putn_length]; omega) | (simp only [Arr.size, List.length_cons, List.length_nil]; omega) | (simp only [List.length_cons, List.length_nil]; omega) | decide) : p := h
theorem EQ_ {p : Prop} (h : p := by first | (simp only [Arr.size, List.length_cons, List.length_nil, Nat.reduceAdd]; done) | (simp only [Arr.size, zer64_length, zer32_length, zer8_length, zeri_length]; done) | (show List.length _ = _; first | assumption | omega | (simp only [put_length]; first | assumption | omega) | (simp only [natI, List.length_map]; first | assumption | omega) | (simp; done) | (simp; assumption) | (simp; omega) | rfl | simp only [zer64_length] | simp only [zer8_length] | simp only [zer32_length] | simp only [zeri_length])) : p := h
theorem WR_ {p : Prop} (h : p := by first | exact set64 _ _ _ | exact set8 _ _ _ | exact set32 _ _ _ | exact seti _ _ _ | exact setc _ _ _) : p := h
theorem BX_ {p : Prop} (h : p := by first | rfl) : p := h
theorem HYP_ {p : Prop} (h : p := by first | omega | (simp; done) | (simp [*]; done) | (simp [*]; omega) | assumption) : p := h
theorem LQ_ {p : Prop} (h : p := by first | (simp; done) | (simp [*]; done) | (simp [*]; omega) | rfl) : p := h
theorem MN_ {p : Prop} (h : p := by first | rfl | omega | (rw [Nat.min_eq_left (by omega)]) | (rw [Nat.min_eq_right (by omega)])) : p := h
theorem PK_ {p : Prop} (h : p := by first | rfl | assumption | (apply decide_eq_true; omega) | (apply decide_eq_false; omega) | (rw [Bool.not_eq_true', decide_eq_false_iff_not]; omega) | (rw [Bool.not_eq_false', decide_eq_true_eq]; omega) | (simp [*]; done) | (simp; omega)) : p := h
theorem GO_ {p : Prop} (h : p := by first | rfl | exact ev_wantU rfl rfl rfl | exact ev_want rfl rfl rfl (by first | rfl | exact beqT (by omega) | exact beqF (by omega) | exact beqTn (by omega) | exact beqFn (by omega) | (simp [*]; done))) : p := h
theorem eq_self_not {n : Nat} : (!decide (n = n)) = false := by simp
structure Hid (r : Prop) : Prop where
  out : r
theorem S_ {g r : Prop} (k : r) (h : Hid r → g := by
  intro h
  repeat (first
    | refine c_seq ?_
    | refine c_block ?_
    | refine c_skip ?_
    | refine c_exit ?_
    | refine c_ret ?_
    | refine c_label ?_
    | refine c_scope ?_
    | refine c_condT rfl (by first | rfl | (apply decide_eq_true; omega) | (rw [Bool.not_eq_true', decide_eq_false_iff_not]; omega)) ?_
    | refine c_condF rfl (by first | rfl | (apply decide_eq_false; omega) | (rw [Bool.not_eq_false', decide_eq_true_eq]; omega) | exact eq_self_not) ?_)
  exact h.out) : g := h ⟨k⟩
theorem Q_ {g r : Prop} (k : r) (h : Hid r → g := by
  intro h
  repeat (first
    | refine c_seq ?_
    | refine c_block ?_
    | refine c_skip ?_
    | refine c_label ?_
    | refine c_scope ?_)
  exact h.out) : g := h ⟨k⟩
end Go.Proofs.Ytcekjmejppemeaa
/- Abstract data: array literals with one place that is no constant; slices of slices. -/
namespace Go.Proofs.Ytcekjmejppemeaa
open Go.RowKit
/-- How many bytes are ahead: none at first, then 32. -/
def lst : Nat → Nat
  | 0 => 0
  | _ + 1 => 32
@[simp] theorem lst_zero : lst 0 = 0 := rfl
@[simp] theorem lst_succ (j : Nat) : lst (j + 1) = 32 := rfl
theorem lst_le (j : Nat) : lst j ≤ 32 := by cases j <;> simp
section
variable {P : Program} {k N : Nat} {ops : Array Oper} {d : Nat} {ty : TypeId} {pos : String} {af : Array Edge} {l0 : List Oper} {T : Nat → AV} {M M' : Mem} {K : St → Prop} {t t' : TypeId}
theorem v_blo8 {v : BitVec 8} {i n n' el : Nat} {x : Operand} (hz : (P.info? t).bind (fun i => i.zero.map (fun z => absArr z.cells.toList)) = some (.a8 (zer8 n))) (hu : P.underlying t = some (.array n' el)) (hs : szT P el = some 1) (h0 : (decide (1 = n')) = false) (hi : decide (i < n) = true) (hx : opnd T x = .c (.val (U8 v))) :
    evVal P (opnd T) M (.build t #[(i, x)]) = some (.agg (.a8 (put (zer8 n) i v))) := by
  refine v_blf8 hz hu hs h0 ?_
  have h1 : i < Arr.size (.a8 (zer8 n)) := by simp only [Arr.size, zer8_length]; exact of_decide_eq_true hi
  have h2 : (Cell.val (U8 v)).one = true := rfl
  simp only [List.map_cons, List.map_nil, fillA, hx, h1, h2, and_self, if_true, Arr.set, w8?_U8, Option.map_some, Option.bind_some, Nat.mul_one]
theorem v_blo64 {v : BitVec 64} {i n n' el : Nat} {x : Operand} (hz : (P.info? t).bind (fun i => i.zero.map (fun z => absArr z.cells.toList)) = some (.a64 (zer64 n))) (hu : P.underlying t = some (.array n' el)) (hs : szT P el = some 1) (h0 : (decide (1 = n')) = false) (hi : decide (i < n) = true) (hx : opnd T x = .c (.val (U64 v))) :
    evVal P (opnd T) M (.build t #[(i, x)]) = some (.agg (.a64 (put (zer64 n) i v))) := by
  refine v_blf64 hz hu hs h0 ?_
  have h1 : i < Arr.size (.a64 (zer64 n)) := by simp only [Arr.size, zer64_length]; exact of_decide_eq_true hi
  have h2 : (Cell.val (U64 v)).one = true := rfl
  simp only [List.map_cons, List.map_nil, fillA, hx, h1, h2, and_self, if_true, Arr.set, w64?_U64, Option.map_some, Option.bind_some, Nat.mul_one]
theorem v_minL {x y : Operand} {ts : Array TypeId} {a b : Nat} (hx : opnd T x = .c (.val (.int .i64 (a : Int)))) (hy : opnd T y = .c (.val (.int .i64 (b : Int)))) (h : a ≤ b) : evVal P (opnd T) M (.call { callee := .builtin .min, args := #[x, y], argTypes := ts }) = some (.c (.val (.int .i64 ((a : Nat) : Int)))) := by
  rw [v_minN hx hy, Nat.min_eq_left h]
theorem v_minR {x y : Operand} {ts : Array TypeId} {a b : Nat} (hx : opnd T x = .c (.val (.int .i64 (a : Int)))) (hy : opnd T y = .c (.val (.int .i64 (b : Int)))) (h : b ≤ a) : evVal P (opnd T) M (.call { callee := .builtin .min, args := #[x, y], argTypes := ts }) = some (.c (.val (.int .i64 ((b : Nat) : Int)))) := by
  rw [v_minN hx hy, Nat.min_eq_right h]
theorem v_nilP {x : Operand} {b o : Nat} (hx : opnd T x = .c (.ptr b o)) : evVal P (opnd T) M (.nilCheck x) = some (.c (.ptr b o)) := by
  simp only [evVal, hx]
theorem k_0e {n : Nat} {s : St} {v : AV} {m' : Mem} {e : Ex} (he : e = .ret ∨ e = .normal) (hc : canV n (.tup []) s.m = some ([v], m')) : callK P n [] v m' e s := by
  obtain ⟨ids, h⟩ := canV_spec hc
  rcases he with rfl | rfl
  · exact ⟨[], ids, by simp [resList], h⟩
  · exact ⟨[], ids, by simp [resList], h⟩
theorem s_evN0 {k : Nat} {ops : Array Oper} {l : List Oper} {op : Op} {v : AV} {news : Mem} {ty : TypeId} {pos : String} {af : Array Edge} {N : Nat} {K : St → Prop} (h : Ev P (.op op (opnd T) M) (.val v (M ++ news))) (hM : M ++ news = M') (hk : WO P k ops l ⟨N, T, M'⟩ K) : WO P k ops (⟨none, op, ty, pos, af, none⟩ :: l) ⟨N, T, M⟩ K :=
  s_ev0 (by rw [← hM]; exact h) hk
theorem winA8 (l : List (BitVec 8)) (o n : Nat) : winA (.a8 l) o n = .a8 (cut l o n) := by
  unfold winA
  split
  · rename_i h
    obtain ⟨rfl, h⟩ := h
    rw [cut_all (show l.length = n from h.symm)]
  · rfl
theorem winA64 (l : List (BitVec 64)) (o n : Nat) : winA (.a64 l) o n = .a64 (cut l o n) := by
  unfold winA
  split
  · rename_i h
    obtain ⟨rfl, h⟩ := h
    rw [cut_all (show l.length = n from h.symm)]
  · rfl
theorem v_loadW8 {t : TypeId} {a : Operand} {b n o : Nat} {own : Bool} {l : List (BitVec 8)} (ha : opnd T a = .c (.ptr b o)) (hm : M[b]? = some (.row own (.a8 l))) (hr : isRowT P t = some true) (hs : szT P t = some n) (hx : o + n ≤ l.length) (h0 : 0 < n) : evVal P (opnd T) M (.load t a) = some (.agg (.a8 (cut l o n))) := by
  have hx' : o + n ≤ Arr.size (.a8 l) := hx
  simp only [evVal, ha, hm, partA, hr, hs, hx', h0, and_self, if_true, winA8]
theorem v_loadW64 {t : TypeId} {a : Operand} {b n o : Nat} {own : Bool} {l : List (BitVec 64)} (ha : opnd T a = .c (.ptr b o)) (hm : M[b]? = some (.row own (.a64 l))) (hr : isRowT P t = some true) (hs : szT P t = some n) (hx : o + n ≤ l.length) (h0 : 0 < n) : evVal P (opnd T) M (.load t a) = some (.agg (.a64 (cut l o n))) := by
  have hx' : o + n ≤ Arr.size (.a64 l) := hx
  simp only [evVal, ha, hm, partA, hr, hs, hx', h0, and_self, if_true, winA64]
def okS : AV → Bool
  | .c (.sl ..) => true
  | .c .nsl => true
  | .c .esl => true
  | _ => false
theorem m_appZ {s x : Operand} {el b : Nat} {v : AV} {e2 : TypeId} (hs : opnd T s = v) (hx : opnd T x = .c .nsl) (hu : P.underlying t = some (.slice el)) (hu2 : P.underlying t' = some (.slice e2)) (he : elemOk P el = some (1, b)) (hk : okS v = true) :
    evMem P (opnd T) M (.call { callee := .builtin .append, args := #[s, x], argTypes := #[t, t'] }) = some (v, M ++ []) := by
  show evAppend P M t t' (opnd T s) (opnd T x) = _
  rw [hs, hx, List.append_nil]
  simp only [evAppend, hu, noIntT, hu2, he]
  unfold okS at hk
  split at hk <;> first | rfl | cases hk
theorem m_appZe {s x : Operand} {el b : Nat} {v : AV} {e2 : TypeId} (hs : opnd T s = v) (hx : opnd T x = .c .esl) (hu : P.underlying t = some (.slice el)) (hu2 : P.underlying t' = some (.slice e2)) (he : elemOk P el = some (1, b)) (hk : okS v = true) :
    evMem P (opnd T) M (.call { callee := .builtin .append, args := #[s, x], argTypes := #[t, t'] }) = some (v, M ++ []) := by
  show evAppend P M t t' (opnd T s) (opnd T x) = _
  rw [hs, hx, List.append_nil]
  simp only [evAppend, hu, noIntT, hu2, he]
  unfold okS at hk
  split at hk <;> first | rfl | cases hk
theorem m_bsc {cs : List Cell} {x : Arr} {el by' len n : Nat} {ps : Array (Nat × Operand)} (hu : P.underlying t = some (.slice el)) (he : elemOk P el = some (1, by')) (hr : repArr P el len = some x) (hd : denseA 0 (ps.toList.map fun p => (p.1, opnd T p.2)) = none) (hf : fillA (fun i => some (i * 1, 1)) x (ps.toList.map fun p => (p.1, opnd T p.2)) = some (.ac cs)) (h0 : ¬ len = 0) (h1 : len ≤ 16777216) (hn : M.length = n) :
    evMem P (opnd T) M (.buildSlice t len ps) = some (.c (.sl n 0 len len 1), M ++ [.row true (.ac cs)]) := by
  show evBuildSlice P M t len (ps.toList.map fun p => (p.1, opnd T p.2)) = _
  subst hn
  have e : (if True ∧ (ps.toList.map fun p => (p.1, opnd T p.2)).length = len then denseA 0 (ps.toList.map fun p => (p.1, opnd T p.2)) else none) = none := by split <;> first | exact hd | rfl
  simp only [evBuildSlice, hu, he, Nat.mul_one]
  rw [if_neg h0, if_pos h1, e]
  simp only [Nat.mul_one] at hf
  simp only [hr, hf]
theorem eqArr_of {P : Program} {t e n : Nat} {k : IntKind} {x y : Arr} {r : Bool} (hu : P.underlying t = some (.array n e)) (he : P.underlying e = some (.int k)) (hs : szT P e = some 1) (hx : x.size = n) (hy : y.size = n) (hr : x.alike y = some r) : eqArr P t x y = some r := by
  unfold szT at hs
  obtain ⟨i, hi, h1⟩ := Option.map_eq_some_iff.1 hs
  have hc : P.cellsOf e = 1 := by simp [Program.cellsOf, hi, h1]
  have hg : P.eqGuardType P.depth t = false := by
    show P.eqGuardType (2 * (P.types.size + Made.depth) + 1 + 1) t = false
    unfold Program.eqGuardType
    simp only [hu]
    unfold Program.eqGuardType
    simp only [he]
  unfold eqArr
  simp only [hu, he, hi, hc, hg, hx, hy, true_and, if_true, hr]
theorem v_eqlR8 {x y : Operand} {l m : List (BitVec 8)} {n e : Nat} (hx : opnd T x = .agg (.a8 l)) (hy : opnd T y = .agg (.a8 m)) (hu : P.underlying t = some (.array n e)) (he : P.underlying e = some (.int .u8)) (hs : szT P e = some 1) (hl : l.length = n) (hm : m.length = n) :
    evVal P (opnd T) M (.binOp .eql t x y t') = some (.c (.val (.bool (decide (l = m))))) := by
  show evBin P .eql t x y (opnd T x) (opnd T y) = _
  rw [hx, hy]
  simp only [evBin, eqArr_of hu he hs (x := .a8 l) (y := .a8 m) (r := decide (l = m)) hl hm rfl]
theorem v_eqlR32 {x y : Operand} {l m : List (BitVec 32)} {n e : Nat} (hx : opnd T x = .agg (.a32 l)) (hy : opnd T y = .agg (.a32 m)) (hu : P.underlying t = some (.array n e)) (he : P.underlying e = some (.int .u32)) (hs : szT P e = some 1) (hl : l.length = n) (hm : m.length = n) :
    evVal P (opnd T) M (.binOp .eql t x y t') = some (.c (.val (.bool (decide (l = m))))) := by
  show evBin P .eql t x y (opnd T x) (opnd T y) = _
  rw [hx, hy]
  simp only [evBin, eqArr_of hu he hs (x := .a32 l) (y := .a32 m) (r := decide (l = m)) hl hm rfl]
theorem v_eqlR64 {x y : Operand} {l m : List (BitVec 64)} {n e : Nat} (hx : opnd T x = .agg (.a64 l)) (hy : opnd T y = .agg (.a64 m)) (hu : P.underlying t = some (.array n e)) (he : P.underlying e = some (.int .u64)) (hs : szT P e = some 1) (hl : l.length = n) (hm : m.length = n) :
    evVal P (opnd T) M (.binOp .eql t x y t') = some (.c (.val (.bool (decide (l = m))))) := by
  show evBin P .eql t x y (opnd T x) (opnd T y) = _
  rw [hx, hy]
  simp only [evBin, eqArr_of hu he hs (x := .a64 l) (y := .a64 m) (r := decide (l = m)) hl hm rfl]
theorem v_neqR8 {x y : Operand} {l m : List (BitVec 8)} {n e : Nat} (hx : opnd T x = .agg (.a8 l)) (hy : opnd T y = .agg (.a8 m)) (hu : P.underlying t = some (.array n e)) (he : P.underlying e = some (.int .u8)) (hs : szT P e = some 1) (hl : l.length = n) (hm : m.length = n) :
    evVal P (opnd T) M (.binOp .neq t x y t') = some (.c (.val (.bool (!decide (l = m))))) := by
  show evBin P .neq t x y (opnd T x) (opnd T y) = _
  rw [hx, hy]
  simp only [evBin, eqArr_of hu he hs (x := .a8 l) (y := .a8 m) (r := decide (l = m)) hl hm rfl]
theorem v_neqR32 {x y : Operand} {l m : List (BitVec 32)} {n e : Nat} (hx : opnd T x = .agg (.a32 l)) (hy : opnd T y = .agg (.a32 m)) (hu : P.underlying t = some (.array n e)) (he : P.underlying e = some (.int .u32)) (hs : szT P e = some 1) (hl : l.length = n) (hm : m.length = n) :
    evVal P (opnd T) M (.binOp .neq t x y t') = some (.c (.val (.bool (!decide (l = m))))) := by
  show evBin P .neq t x y (opnd T x) (opnd T y) = _
  rw [hx, hy]
  simp only [evBin, eqArr_of hu he hs (x := .a32 l) (y := .a32 m) (r := decide (l = m)) hl hm rfl]
theorem v_neqR64 {x y : Operand} {l m : List (BitVec 64)} {n e : Nat} (hx : opnd T x = .agg (.a64 l)) (hy : opnd T y = .agg (.a64 m)) (hu : P.underlying t = some (.array n e)) (he : P.underlying e = some (.int .u64)) (hs : szT P e = some 1) (hl : l.length = n) (hm : m.length = n) :
    evVal P (opnd T) M (.binOp .neq t x y t') = some (.c (.val (.bool (!decide (l = m))))) := by
  show evBin P .neq t x y (opnd T x) (opnd T y) = _
  rw [hx, hy]
  simp only [evBin, eqArr_of hu he hs (x := .a64 l) (y := .a64 m) (r := decide (l = m)) hl hm rfl]
end
theorem CS_ {p : Prop} (h : p := by first | exact (rfl : _ = some (Arr.ac [_])) | exact (rfl : _ = some (Arr.ac [_, _])) | exact (rfl : _ = some (Arr.ac [_, _, _])) | exact (rfl : _ = some (Arr.ac [_, _, _, _])) | exact (rfl : _ = some (Arr.ac [_, _, _, _, _])) | exact (rfl : _ = some (Arr.ac [_, _, _, _, _, _]))) : p := h
theorem v_bool {P : Program} {T : Nat → AV} {M : Mem} {op : Op} {b c : Bool} (h : evVal P (opnd T) M op = some (.c (.val (.bool b)))) (hb : b = c) : evVal P (opnd T) M op = some (.c (.val (.bool c))) := by rw [← hb]; exact h
end Go.Proofs.Ytcekjmejppemeaa
/- Abstract data: structs of arrays of words. -/
namespace Go.Proofs.Ytcekjmejppemeaa
open Go.RowKit
/-! ### Structs of arrays of words -/
theorem v_fieldP {P : Program} {T : Nat → AV} {M : Mem} {t f : Nat} {x : Operand} {b o : Nat} {v : AV} (hx : opnd T x = .c (.ptr b o)) (hf : evFieldAddr P t (.c (.ptr b o)) f = some v) : evVal P (opnd T) M (.fieldAddr t x f) = some v := by
  show evFieldAddr P t (opnd T x) f = some v
  rw [hx]; exact hf
/-- Where a struct's parts lie: offset and size. -/
def placesT (P : Program) (t : TypeId) : Option (List (Nat × Nat)) :=
  match P.underlying t with
  | some (.struct fields) => fields.toList.mapM fun f => (P.info? f.type).map fun i => (f.offset, i.size)
  | _ => none
theorem evBuild_struct {P : Program} {t : TypeId} {x : Arr} {places : List (Nat × Nat)} (hz : (P.info? t).bind (fun i => i.zero.map fun z => absArr z.cells.toList) = some x) (hp : placesT P t = some places) (parts : List (Nat × AV)) :
    evBuild P t parts = (fillA (places.toArray[·]?) x parts).map .agg := by
  obtain ⟨i, hi, hz2⟩ := Option.bind_eq_some_iff.1 hz
  obtain ⟨z, hz3, hz4⟩ := Option.map_eq_some_iff.1 hz2
  unfold placesT at hp
  split at hp
  · rename_i fields hu
    unfold evBuild
    simp only [hi, hu, hz3, hp, hz4]
  · cases hp
theorem evBuild_zero {P : Program} {t : TypeId} {x : Arr} (hz : (P.info? t).bind (fun i => i.zero.map fun z => absArr z.cells.toList) = some x) (hp : (placesT P t).isSome = true) : evBuild P t [] = some (.agg x) := by
  obtain ⟨places, h⟩ := Option.isSome_iff_exists.1 hp
  rw [evBuild_struct hz h]
  rfl
theorem v_bld0 {P : Program} {T : Nat → AV} {M : Mem} {t : Nat} {v : AV} (h : evBuild P t [] = some v) : evVal P (opnd T) M (.build t #[]) = some v := h
theorem over_part {α : Type} (p q r m : List α) (n : Nat) (hn : p.length = n) (h : q.length = m.length) : over (p ++ (q ++ r)) n m = p ++ (m ++ r) := by
  subst hn
  unfold over
  rw [List.take_left', List.append_assoc]
  · congr 2
    rw [← List.append_assoc, List.drop_left']
    rw [List.length_append, h]
  · rfl
theorem fill_step {pl : Nat → Option (Nat × Nat)} {i o n : Nat} {l a : List (BitVec 64)} {rest : List (Nat × AV)} (h : pl i = some (o, n)) (ha : a.length = n) (hl : o + n ≤ l.length) : fillA pl (.a64 l) ((i, .agg (.a64 a)) :: rest) = fillA pl (.a64 (over l o a)) rest := by
  subst ha
  have e : a.length = Arr.size (.a64 a) ∧ o + Arr.size (.a64 a) ≤ Arr.size (.a64 l) := ⟨rfl, hl⟩
  simp only [fillA, h]
  rw [if_pos e]
  rfl
theorem fill_four {pl : Nat → Option (Nat × Nat)} {n : Nat} {a b c d : List (BitVec 64)} (h0 : pl 0 = some (0, n)) (h1 : pl 1 = some (n, n)) (h2 : pl 2 = some (n + n, n)) (h3 : pl 3 = some (n + n + n, n)) (ha : a.length = n) (hb : b.length = n) (hc : c.length = n) (hd : d.length = n) :
    fillA pl (.a64 (zer64 (n + n + n + n))) [(0, .agg (.a64 a)), (1, .agg (.a64 b)), (2, .agg (.a64 c)), (3, .agg (.a64 d))] = some (.a64 (a ++ b ++ c ++ d)) := by
  have z : zer64 (n + n + n + n) = [] ++ (zer64 n ++ (zer64 n ++ (zer64 n ++ zer64 n))) := by
    unfold zer64
    rw [List.nil_append, List.replicate_append_replicate, List.replicate_append_replicate, List.replicate_append_replicate]
    congr 1
    omega
  have lz : (zer64 n).length = n := by simp
  rw [z, fill_step h0 ha (by simp only [List.length_append, List.length_nil, lz]; omega), over_part [] (zer64 n) _ a 0 rfl (by rw [lz, ha]), List.nil_append]
  rw [fill_step h1 hb (by simp only [List.length_append, lz, ha]; omega), over_part a (zer64 n) _ b n ha (by rw [lz, hb]), ← List.append_assoc a b]
  rw [fill_step h2 hc (by simp only [List.length_append, lz, ha, hb]; omega), over_part (a ++ b) (zer64 n) _ c (n + n) (by rw [List.length_append, ha, hb]) (by rw [lz, hc]), ← List.append_assoc (a ++ b) c]
  rw [fill_step h3 hd (by simp only [List.length_append, lz, ha, hb, hc]; omega)]
  have := over_part (a ++ b ++ c) (zer64 n) [] d (n + n + n) (by rw [List.length_append, List.length_append, ha, hb, hc]) (by rw [lz, hd])
  rw [List.append_nil, List.append_nil] at this
  rw [this]
  rfl
theorem v_bld4 {P : Program} {T : Nat → AV} {M : Mem} {t : Nat} {x0 x1 x2 x3 : Operand} {a b c d : List (BitVec 64)} {v : AV} (h0 : opnd T x0 = .agg (.a64 a)) (h1 : opnd T x1 = .agg (.a64 b)) (h2 : opnd T x2 = .agg (.a64 c)) (h3 : opnd T x3 = .agg (.a64 d))
    (h : evBuild P t [(0, .agg (.a64 a)), (1, .agg (.a64 b)), (2, .agg (.a64 c)), (3, .agg (.a64 d))] = some v) : evVal P (opnd T) M (.build t #[(0, x0), (1, x1), (2, x2), (3, x3)]) = some v := by
  show evBuild P t [(0, opnd T x0), (1, opnd T x1), (2, opnd T x2), (3, opnd T x3)] = some v
  rw [h0, h1, h2, h3]; exact h
end Go.Proofs.Ytcekjmejppemeaa
/- The facts on the types of the program that the walks by abstract data ask for. (Printed by a program.) -/
namespace Go.Proofs.Ytcekjmejppemeaa
open Go.RowKit
theorem row_2 : isRowT Try.prog 2 = some false := by kernel_rfl
theorem sz_2 : szT Try.prog 2 = some 1 := by kernel_rfl
theorem al_2 (m : Mem) : evAlloc Try.prog m 2 = some (.c (.ptr m.length 0), m ++ [.row true (.ai [0])]) := by kernel_rfl
theorem rep_2 (n : Nat) : repArr Try.prog 2 n = some (.ai (zeri n)) := by kernel_rfl
theorem el_2 : elemOk Try.prog 2 = some (1, 8) := by kernel_rfl
theorem row_3 : isRowT Try.prog 3 = some false := by kernel_rfl
theorem sz_3 : szT Try.prog 3 = some 1 := by kernel_rfl
theorem al_3 (m : Mem) : evAlloc Try.prog m 3 = some (.c (.ptr m.length 0), m ++ [.row true (.ai [0])]) := by kernel_rfl
theorem rep_3 (n : Nat) : repArr Try.prog 3 n = some (.ai (zeri n)) := by kernel_rfl
theorem el_3 : elemOk Try.prog 3 = some (1, 8) := by kernel_rfl
theorem row_4 : isRowT Try.prog 4 = some false := by kernel_rfl
theorem sz_4 : szT Try.prog 4 = some 1 := by kernel_rfl
theorem al_4 (m : Mem) : evAlloc Try.prog m 4 = some (.c (.ptr m.length 0), m ++ [.row true (.ac [.val (.bool false)])]) := by kernel_rfl
theorem el_4 : elemOk Try.prog 4 = some (1, 1) := by kernel_rfl
theorem row_5 : isRowT Try.prog 5 = some false := by kernel_rfl
theorem sz_5 : szT Try.prog 5 = some 1 := by kernel_rfl
theorem al_5 (m : Mem) : evAlloc Try.prog m 5 = some (.c (.ptr m.length 0), m ++ [.row true (.a8 [0#8])]) := by kernel_rfl
theorem rep_5 (n : Nat) : repArr Try.prog 5 n = some (.a8 (zer8 n)) := by kernel_rfl
theorem el_5 : elemOk Try.prog 5 = some (1, 1) := by kernel_rfl
theorem row_7 : isRowT Try.prog 7 = some true := by kernel_rfl
theorem sz_7 : szT Try.prog 7 = some 4 := by kernel_rfl
theorem al_7 (m : Mem) : evAlloc Try.prog m 7 = some (.c (.ptr m.length 0), m ++ [.row true (.ac [.val (.int .i64 0), .val (.int .i64 0), .val (.bool false), .val (.int .u8 0)])]) := by kernel_rfl
theorem fa_7_0 (b o : Nat) : evFieldAddr Try.prog 7 (.c (.ptr b o)) 0 = some (.c (.ptr b (o + 0))) := by kernel_rfl
theorem fa_7_1 (b o : Nat) : evFieldAddr Try.prog 7 (.c (.ptr b o)) 1 = some (.c (.ptr b (o + 1))) := by kernel_rfl
theorem fa_7_2 (b o : Nat) : evFieldAddr Try.prog 7 (.c (.ptr b o)) 2 = some (.c (.ptr b (o + 2))) := by kernel_rfl
theorem fa_7_3 (b o : Nat) : evFieldAddr Try.prog 7 (.c (.ptr b o)) 3 = some (.c (.ptr b (o + 3))) := by kernel_rfl
theorem el_7 : elemOk Try.prog 7 = some (4, 24) := by kernel_rfl
theorem row_9 : isRowT Try.prog 9 = some false := by kernel_rfl
theorem sz_9 : szT Try.prog 9 = some 1 := by kernel_rfl
theorem al_9 (m : Mem) : evAlloc Try.prog m 9 = some (.c (.ptr m.length 0), m ++ [.row true (.ac [.val (.string ByteArray.empty)])]) := by kernel_rfl
theorem el_9 : elemOk Try.prog 9 = some (1, 16) := by kernel_rfl
theorem row_12 : isRowT Try.prog 12 = some false := by kernel_rfl
theorem sz_12 : szT Try.prog 12 = some 1 := by kernel_rfl
theorem al_12 (m : Mem) : evAlloc Try.prog m 12 = some (.c (.ptr m.length 0), m ++ [.row true (.a64 [0#64])]) := by kernel_rfl
theorem rep_12 (n : Nat) : repArr Try.prog 12 n = some (.a64 (zer64 n)) := by kernel_rfl
theorem el_12 : elemOk Try.prog 12 = some (1, 8) := by kernel_rfl
theorem row_13 : isRowT Try.prog 13 = some true := by kernel_rfl
theorem sz_13 : szT Try.prog 13 = some 2 := by kernel_rfl
theorem al_13 (m : Mem) : evAlloc Try.prog m 13 = some (.c (.ptr m.length 0), m ++ [.row true (.ac [.val (.string ByteArray.empty), .val (.int .u64 0)])]) := by kernel_rfl
theorem fa_13_0 (b o : Nat) : evFieldAddr Try.prog 13 (.c (.ptr b o)) 0 = some (.c (.ptr b (o + 0))) := by kernel_rfl
theorem fa_13_1 (b o : Nat) : evFieldAddr Try.prog 13 (.c (.ptr b o)) 1 = some (.c (.ptr b (o + 1))) := by kernel_rfl
theorem el_13 : elemOk Try.prog 13 = some (2, 24) := by kernel_rfl
theorem row_15 : isRowT Try.prog 15 = some false := by kernel_rfl
theorem sz_15 : szT Try.prog 15 = some 1 := by kernel_rfl
theorem row_16 : isRowT Try.prog 16 = some false := by kernel_rfl
theorem sz_16 : szT Try.prog 16 = some 1 := by kernel_rfl
theorem row_18 : isRowT Try.prog 18 = some true := by kernel_rfl
theorem sz_18 : szT Try.prog 18 = some 1 := by kernel_rfl
theorem fa_18_0 (b o : Nat) : evFieldAddr Try.prog 18 (.c (.ptr b o)) 0 = some (.c (.ptr b (o + 0))) := by kernel_rfl
theorem el_18 : elemOk Try.prog 18 = some (1, 8) := by kernel_rfl
theorem row_19 : isRowT Try.prog 19 = some true := by kernel_rfl
theorem sz_19 : szT Try.prog 19 = some 1 := by kernel_rfl
theorem fa_19_0 (b o : Nat) : evFieldAddr Try.prog 19 (.c (.ptr b o)) 0 = some (.c (.ptr b (o + 0))) := by kernel_rfl
theorem el_19 : elemOk Try.prog 19 = some (1, 8) := by kernel_rfl
theorem row_21 : isRowT Try.prog 21 = some false := by kernel_rfl
theorem sz_21 : szT Try.prog 21 = some 1 := by kernel_rfl
theorem al_21 (m : Mem) : evAlloc Try.prog m 21 = some (.c (.ptr m.length 0), m ++ [.row true (.ac [.val (.int .i32 0)])]) := by kernel_rfl
theorem el_21 : elemOk Try.prog 21 = some (1, 4) := by kernel_rfl
theorem row_22 : isRowT Try.prog 22 = some true := by kernel_rfl
theorem sz_22 : szT Try.prog 22 = some 32 := by kernel_rfl
theorem al_22 (m : Mem) : evAlloc Try.prog m 22 = some (.c (.ptr m.length 0), m ++ [.row true (.a8 (zer8 32))]) := by kernel_rfl
theorem zc_22 : (Try.prog.info? 22).bind (fun i => i.zero.map (·.cells.size)) = some 32 := by kernel_rfl
theorem za_22 : (Try.prog.info? 22).bind (fun i => i.zero.map (fun z => absArr z.cells.toList)) = some (.a8 (zer8 32)) := by kernel_rfl
theorem el_22 : elemOk Try.prog 22 = some (32, 32) := by kernel_rfl
theorem row_24 : isRowT Try.prog 24 = some false := by kernel_rfl
theorem sz_24 : szT Try.prog 24 = some 1 := by kernel_rfl
theorem al_24 (m : Mem) : evAlloc Try.prog m 24 = some (.c (.ptr m.length 0), m ++ [.row true (.ai [0])]) := by kernel_rfl
theorem el_24 : elemOk Try.prog 24 = some (1, 8) := by kernel_rfl
theorem row_29 : isRowT Try.prog 29 = some false := by kernel_rfl
theorem sz_29 : szT Try.prog 29 = some 1 := by kernel_rfl
theorem al_29 (m : Mem) : evAlloc Try.prog m 29 = some (.c (.ptr m.length 0), m ++ [.row true (.a64 [0#64])]) := by kernel_rfl
theorem rep_29 (n : Nat) : repArr Try.prog 29 n = some (.a64 (zer64 n)) := by kernel_rfl
theorem el_29 : elemOk Try.prog 29 = some (1, 8) := by kernel_rfl
theorem row_37 : isRowT Try.prog 37 = some true := by kernel_rfl
theorem sz_37 : szT Try.prog 37 = some 4 := by kernel_rfl
theorem al_37 (m : Mem) : evAlloc Try.prog m 37 = some (.c (.ptr m.length 0), m ++ [.row true (.a64 (zer64 4))]) := by kernel_rfl
theorem zc_37 : (Try.prog.info? 37).bind (fun i => i.zero.map (·.cells.size)) = some 4 := by kernel_rfl
theorem za_37 : (Try.prog.info? 37).bind (fun i => i.zero.map (fun z => absArr z.cells.toList)) = some (.a64 (zer64 4)) := by kernel_rfl
theorem el_37 : elemOk Try.prog 37 = some (4, 32) := by kernel_rfl
theorem row_38 : isRowT Try.prog 38 = some true := by kernel_rfl
theorem sz_38 : szT Try.prog 38 = some 4 := by kernel_rfl
theorem al_38 (m : Mem) : evAlloc Try.prog m 38 = some (.c (.ptr m.length 0), m ++ [.row true (.a64 (zer64 4))]) := by kernel_rfl
theorem zc_38 : (Try.prog.info? 38).bind (fun i => i.zero.map (·.cells.size)) = some 4 := by kernel_rfl
theorem za_38 : (Try.prog.info? 38).bind (fun i => i.zero.map (fun z => absArr z.cells.toList)) = some (.a64 (zer64 4)) := by kernel_rfl
theorem el_38 : elemOk Try.prog 38 = some (4, 32) := by kernel_rfl
theorem row_41 : isRowT Try.prog 41 = some true := by kernel_rfl
theorem sz_41 : szT Try.prog 41 = some 16 := by kernel_rfl
theorem al_41 (m : Mem) : evAlloc Try.prog m 41 = some (.c (.ptr m.length 0), m ++ [.row true (.a64 (zer64 16))]) := by kernel_rfl
theorem fa_41_0 (b o : Nat) : evFieldAddr Try.prog 41 (.c (.ptr b o)) 0 = some (.c (.ptr b (o + 0))) := by kernel_rfl
theorem fa_41_1 (b o : Nat) : evFieldAddr Try.prog 41 (.c (.ptr b o)) 1 = some (.c (.ptr b (o + 4))) := by kernel_rfl
theorem fa_41_2 (b o : Nat) : evFieldAddr Try.prog 41 (.c (.ptr b o)) 2 = some (.c (.ptr b (o + 8))) := by kernel_rfl
theorem fa_41_3 (b o : Nat) : evFieldAddr Try.prog 41 (.c (.ptr b o)) 3 = some (.c (.ptr b (o + 12))) := by kernel_rfl
theorem bz_41 : evBuild Try.prog 41 [] = some (.agg (.a64 (zer64 16))) := evBuild_zero (by kernel_rfl) (by kernel_rfl)
theorem bs_41 {a b c d : List (BitVec 64)} (ha : a.length = 4) (hb : b.length = 4) (hc : c.length = 4) (hd : d.length = 4) : evBuild Try.prog 41 [(0, .agg (.a64 a)), (1, .agg (.a64 b)), (2, .agg (.a64 c)), (3, .agg (.a64 d))] = some (.agg (.a64 (a ++ b ++ c ++ d))) := by
  rw [evBuild_struct (x := .a64 (zer64 16)) (places := [(0, 4), (4, 4), (8, 4), (12, 4)]) (by kernel_rfl) (by kernel_rfl)]
  rw [show zer64 16 = zer64 (4 + 4 + 4 + 4) from rfl, fill_four (n := 4) rfl rfl rfl rfl ha hb hc hd]
  rfl
theorem el_41 : elemOk Try.prog 41 = some (16, 128) := by kernel_rfl
theorem row_42 : isRowT Try.prog 42 = some true := by kernel_rfl
theorem sz_42 : szT Try.prog 42 = some 16 := by kernel_rfl
theorem al_42 (m : Mem) : evAlloc Try.prog m 42 = some (.c (.ptr m.length 0), m ++ [.row true (.a64 (zer64 16))]) := by kernel_rfl
theorem fa_42_0 (b o : Nat) : evFieldAddr Try.prog 42 (.c (.ptr b o)) 0 = some (.c (.ptr b (o + 0))) := by kernel_rfl
theorem fa_42_1 (b o : Nat) : evFieldAddr Try.prog 42 (.c (.ptr b o)) 1 = some (.c (.ptr b (o + 4))) := by kernel_rfl
theorem fa_42_2 (b o : Nat) : evFieldAddr Try.prog 42 (.c (.ptr b o)) 2 = some (.c (.ptr b (o + 8))) := by kernel_rfl
theorem fa_42_3 (b o : Nat) : evFieldAddr Try.prog 42 (.c (.ptr b o)) 3 = some (.c (.ptr b (o + 12))) := by kernel_rfl
theorem bz_42 : evBuild Try.prog 42 [] = some (.agg (.a64 (zer64 16))) := evBuild_zero (by kernel_rfl) (by kernel_rfl)
theorem bs_42 {a b c d : List (BitVec 64)} (ha : a.length = 4) (hb : b.length = 4) (hc : c.length = 4) (hd : d.length = 4) : evBuild Try.prog 42 [(0, .agg (.a64 a)), (1, .agg (.a64 b)), (2, .agg (.a64 c)), (3, .agg (.a64 d))] = some (.agg (.a64 (a ++ b ++ c ++ d))) := by
  rw [evBuild_struct (x := .a64 (zer64 16)) (places := [(0, 4), (4, 4), (8, 4), (12, 4)]) (by kernel_rfl) (by kernel_rfl)]
  rw [show zer64 16 = zer64 (4 + 4 + 4 + 4) from rfl, fill_four (n := 4) rfl rfl rfl rfl ha hb hc hd]
  rfl
theorem el_42 : elemOk Try.prog 42 = some (16, 128) := by kernel_rfl
theorem row_47 : isRowT Try.prog 47 = some false := by kernel_rfl
theorem sz_47 : szT Try.prog 47 = some 1 := by kernel_rfl
theorem al_47 (m : Mem) : evAlloc Try.prog m 47 = some (.c (.ptr m.length 0), m ++ [.row true (.ac [.nsl])]) := by kernel_rfl
theorem rep_47 (n : Nat) : repArr Try.prog 47 n = some (.ac (List.replicate n .nsl)) := by kernel_rfl
theorem el_47 : elemOk Try.prog 47 = some (1, 24) := by kernel_rfl
theorem row_51 : isRowT Try.prog 51 = some false := by kernel_rfl
theorem sz_51 : szT Try.prog 51 = some 1 := by kernel_rfl
theorem al_51 (m : Mem) : evAlloc Try.prog m 51 = some (.c (.ptr m.length 0), m ++ [.row true (.a64 [0#64])]) := by kernel_rfl
theorem rep_51 (n : Nat) : repArr Try.prog 51 n = some (.a64 (zer64 n)) := by kernel_rfl
theorem el_51 : elemOk Try.prog 51 = some (1, 8) := by kernel_rfl
theorem row_53 : isRowT Try.prog 53 = some true := by kernel_rfl
theorem sz_53 : szT Try.prog 53 = some 5 := by kernel_rfl
theorem al_53 (m : Mem) : evAlloc Try.prog m 53 = some (.c (.ptr m.length 0), m ++ [.row true (.a64 (zer64 5))]) := by kernel_rfl
theorem zc_53 : (Try.prog.info? 53).bind (fun i => i.zero.map (·.cells.size)) = some 5 := by kernel_rfl
theorem za_53 : (Try.prog.info? 53).bind (fun i => i.zero.map (fun z => absArr z.cells.toList)) = some (.a64 (zer64 5)) := by kernel_rfl
theorem el_53 : elemOk Try.prog 53 = some (5, 40) := by kernel_rfl
theorem row_54 : isRowT Try.prog 54 = some true := by kernel_rfl
theorem sz_54 : szT Try.prog 54 = some 5 := by kernel_rfl
theorem al_54 (m : Mem) : evAlloc Try.prog m 54 = some (.c (.ptr m.length 0), m ++ [.row true (.a64 (zer64 5))]) := by kernel_rfl
theorem zc_54 : (Try.prog.info? 54).bind (fun i => i.zero.map (·.cells.size)) = some 5 := by kernel_rfl
theorem za_54 : (Try.prog.info? 54).bind (fun i => i.zero.map (fun z => absArr z.cells.toList)) = some (.a64 (zer64 5)) := by kernel_rfl
theorem el_54 : elemOk Try.prog 54 = some (5, 40) := by kernel_rfl
theorem row_55 : isRowT Try.prog 55 = some true := by kernel_rfl
theorem sz_55 : szT Try.prog 55 = some 20 := by kernel_rfl
theorem al_55 (m : Mem) : evAlloc Try.prog m 55 = some (.c (.ptr m.length 0), m ++ [.row true (.a64 (zer64 20))]) := by kernel_rfl
theorem fa_55_0 (b o : Nat) : evFieldAddr Try.prog 55 (.c (.ptr b o)) 0 = some (.c (.ptr b (o + 0))) := by kernel_rfl
theorem fa_55_1 (b o : Nat) : evFieldAddr Try.prog 55 (.c (.ptr b o)) 1 = some (.c (.ptr b (o + 5))) := by kernel_rfl
theorem fa_55_2 (b o : Nat) : evFieldAddr Try.prog 55 (.c (.ptr b o)) 2 = some (.c (.ptr b (o + 10))) := by kernel_rfl
theorem fa_55_3 (b o : Nat) : evFieldAddr Try.prog 55 (.c (.ptr b o)) 3 = some (.c (.ptr b (o + 15))) := by kernel_rfl
theorem bz_55 : evBuild Try.prog 55 [] = some (.agg (.a64 (zer64 20))) := evBuild_zero (by kernel_rfl) (by kernel_rfl)
theorem bs_55 {a b c d : List (BitVec 64)} (ha : a.length = 5) (hb : b.length = 5) (hc : c.length = 5) (hd : d.length = 5) : evBuild Try.prog 55 [(0, .agg (.a64 a)), (1, .agg (.a64 b)), (2, .agg (.a64 c)), (3, .agg (.a64 d))] = some (.agg (.a64 (a ++ b ++ c ++ d))) := by
  rw [evBuild_struct (x := .a64 (zer64 20)) (places := [(0, 5), (5, 5), (10, 5), (15, 5)]) (by kernel_rfl) (by kernel_rfl)]
  rw [show zer64 20 = zer64 (5 + 5 + 5 + 5) from rfl, fill_four (n := 5) rfl rfl rfl rfl ha hb hc hd]
  rfl
theorem el_55 : elemOk Try.prog 55 = some (20, 160) := by kernel_rfl
theorem row_56 : isRowT Try.prog 56 = some true := by kernel_rfl
theorem sz_56 : szT Try.prog 56 = some 20 := by kernel_rfl
theorem al_56 (m : Mem) : evAlloc Try.prog m 56 = some (.c (.ptr m.length 0), m ++ [.row true (.a64 (zer64 20))]) := by kernel_rfl
theorem fa_56_0 (b o : Nat) : evFieldAddr Try.prog 56 (.c (.ptr b o)) 0 = some (.c (.ptr b (o + 0))) := by kernel_rfl
theorem fa_56_1 (b o : Nat) : evFieldAddr Try.prog 56 (.c (.ptr b o)) 1 = some (.c (.ptr b (o + 5))) := by kernel_rfl
theorem fa_56_2 (b o : Nat) : evFieldAddr Try.prog 56 (.c (.ptr b o)) 2 = some (.c (.ptr b (o + 10))) := by kernel_rfl
theorem fa_56_3 (b o : Nat) : evFieldAddr Try.prog 56 (.c (.ptr b o)) 3 = some (.c (.ptr b (o + 15))) := by kernel_rfl
theorem bz_56 : evBuild Try.prog 56 [] = some (.agg (.a64 (zer64 20))) := evBuild_zero (by kernel_rfl) (by kernel_rfl)
theorem bs_56 {a b c d : List (BitVec 64)} (ha : a.length = 5) (hb : b.length = 5) (hc : c.length = 5) (hd : d.length = 5) : evBuild Try.prog 56 [(0, .agg (.a64 a)), (1, .agg (.a64 b)), (2, .agg (.a64 c)), (3, .agg (.a64 d))] = some (.agg (.a64 (a ++ b ++ c ++ d))) := by
  rw [evBuild_struct (x := .a64 (zer64 20)) (places := [(0, 5), (5, 5), (10, 5), (15, 5)]) (by kernel_rfl) (by kernel_rfl)]
  rw [show zer64 20 = zer64 (5 + 5 + 5 + 5) from rfl, fill_four (n := 5) rfl rfl rfl rfl ha hb hc hd]
  rfl
theorem el_56 : elemOk Try.prog 56 = some (20, 160) := by kernel_rfl
theorem row_79 : isRowT Try.prog 79 = some true := by kernel_rfl
theorem sz_79 : szT Try.prog 79 = some 4 := by kernel_rfl
theorem al_79 (m : Mem) : evAlloc Try.prog m 79 = some (.c (.ptr m.length 0), m ++ [.row true (.a64 (zer64 4))]) := by kernel_rfl
theorem zc_79 : (Try.prog.info? 79).bind (fun i => i.zero.map (·.cells.size)) = some 4 := by kernel_rfl
theorem za_79 : (Try.prog.info? 79).bind (fun i => i.zero.map (fun z => absArr z.cells.toList)) = some (.a64 (zer64 4)) := by kernel_rfl
theorem el_79 : elemOk Try.prog 79 = some (4, 32) := by kernel_rfl
theorem row_85 : isRowT Try.prog 85 = some true := by kernel_rfl
theorem sz_85 : szT Try.prog 85 = some 8 := by kernel_rfl
theorem al_85 (m : Mem) : evAlloc Try.prog m 85 = some (.c (.ptr m.length 0), m ++ [.row true (.a64 (zer64 8))]) := by kernel_rfl
theorem zc_85 : (Try.prog.info? 85).bind (fun i => i.zero.map (·.cells.size)) = some 8 := by kernel_rfl
theorem za_85 : (Try.prog.info? 85).bind (fun i => i.zero.map (fun z => absArr z.cells.toList)) = some (.a64 (zer64 8)) := by kernel_rfl
theorem el_85 : elemOk Try.prog 85 = some (8, 64) := by kernel_rfl
theorem row_99 : isRowT Try.prog 99 = some true := by kernel_rfl
theorem sz_99 : szT Try.prog 99 = some 9 := by kernel_rfl
theorem al_99 (m : Mem) : evAlloc Try.prog m 99 = some (.c (.ptr m.length 0), m ++ [.row true (.a64 (zer64 9))]) := by kernel_rfl
theorem zc_99 : (Try.prog.info? 99).bind (fun i => i.zero.map (·.cells.size)) = some 9 := by kernel_rfl
theorem za_99 : (Try.prog.info? 99).bind (fun i => i.zero.map (fun z => absArr z.cells.toList)) = some (.a64 (zer64 9)) := by kernel_rfl
theorem el_99 : elemOk Try.prog 99 = some (9, 72) := by kernel_rfl
theorem row_101 : isRowT Try.prog 101 = some true := by kernel_rfl
theorem sz_101 : szT Try.prog 101 = some 4 := by kernel_rfl
theorem fa_101_0 (b o : Nat) : evFieldAddr Try.prog 101 (.c (.ptr b o)) 0 = some (.c (.ptr b (o + 0))) := by kernel_rfl
theorem fa_101_1 (b o : Nat) : evFieldAddr Try.prog 101 (.c (.ptr b o)) 1 = some (.c (.ptr b (o + 1))) := by kernel_rfl
theorem fa_101_2 (b o : Nat) : evFieldAddr Try.prog 101 (.c (.ptr b o)) 2 = some (.c (.ptr b (o + 2))) := by kernel_rfl
theorem fa_101_3 (b o : Nat) : evFieldAddr Try.prog 101 (.c (.ptr b o)) 3 = some (.c (.ptr b (o + 3))) := by kernel_rfl
theorem el_101 : elemOk Try.prog 101 = some (4, 40) := by kernel_rfl
theorem row_107 : isRowT Try.prog 107 = some false := by kernel_rfl
theorem sz_107 : szT Try.prog 107 = some 1 := by kernel_rfl
theorem al_107 (m : Mem) : evAlloc Try.prog m 107 = some (.c (.ptr m.length 0), m ++ [.row true (.a32 [0#32])]) := by kernel_rfl
theorem rep_107 (n : Nat) : repArr Try.prog 107 n = some (.a32 (zer32 n)) := by kernel_rfl
theorem el_107 : elemOk Try.prog 107 = some (1, 4) := by kernel_rfl
theorem row_111 : isRowT Try.prog 111 = some false := by kernel_rfl
theorem sz_111 : szT Try.prog 111 = some 1 := by kernel_rfl
theorem row_114 : isRowT Try.prog 114 = some true := by kernel_rfl
theorem sz_114 : szT Try.prog 114 = some 11 := by kernel_rfl
theorem fa_114_0 (b o : Nat) : evFieldAddr Try.prog 114 (.c (.ptr b o)) 0 = some (.c (.ptr b (o + 0))) := by kernel_rfl
theorem fa_114_1 (b o : Nat) : evFieldAddr Try.prog 114 (.c (.ptr b o)) 1 = some (.c (.ptr b (o + 1))) := by kernel_rfl
theorem fa_114_2 (b o : Nat) : evFieldAddr Try.prog 114 (.c (.ptr b o)) 2 = some (.c (.ptr b (o + 2))) := by kernel_rfl
theorem fa_114_3 (b o : Nat) : evFieldAddr Try.prog 114 (.c (.ptr b o)) 3 = some (.c (.ptr b (o + 3))) := by kernel_rfl
theorem fa_114_4 (b o : Nat) : evFieldAddr Try.prog 114 (.c (.ptr b o)) 4 = some (.c (.ptr b (o + 4))) := by kernel_rfl
theorem fa_114_5 (b o : Nat) : evFieldAddr Try.prog 114 (.c (.ptr b o)) 5 = some (.c (.ptr b (o + 5))) := by kernel_rfl
theorem fa_114_6 (b o : Nat) : evFieldAddr Try.prog 114 (.c (.ptr b o)) 6 = some (.c (.ptr b (o + 6))) := by kernel_rfl
theorem fa_114_7 (b o : Nat) : evFieldAddr Try.prog 114 (.c (.ptr b o)) 7 = some (.c (.ptr b (o + 7))) := by kernel_rfl
theorem fa_114_8 (b o : Nat) : evFieldAddr Try.prog 114 (.c (.ptr b o)) 8 = some (.c (.ptr b (o + 8))) := by kernel_rfl
theorem fa_114_9 (b o : Nat) : evFieldAddr Try.prog 114 (.c (.ptr b o)) 9 = some (.c (.ptr b (o + 9))) := by kernel_rfl
theorem fa_114_10 (b o : Nat) : evFieldAddr Try.prog 114 (.c (.ptr b o)) 10 = some (.c (.ptr b (o + 10))) := by kernel_rfl
theorem el_114 : elemOk Try.prog 114 = some (11, 48) := by kernel_rfl
theorem ok_3 : (Try.prog.funcs[3]?).any (fun fn => fn.body.isSome && !(fn.name == "runtime.NumGoroutine")) = true := by rw [Try.func3]; rfl
theorem ok_4 : (Try.prog.funcs[4]?).any (fun fn => fn.body.isSome && !(fn.name == "runtime.NumGoroutine")) = true := by rw [Try.func4]; rfl
theorem ok_5 : (Try.prog.funcs[5]?).any (fun fn => fn.body.isSome && !(fn.name == "runtime.NumGoroutine")) = true := by rw [Try.func5]; rfl
theorem ok_6 : (Try.prog.funcs[6]?).any (fun fn => fn.body.isSome && !(fn.name == "runtime.NumGoroutine")) = true := by rw [Try.func6]; rfl
theorem ok_7 : (Try.prog.funcs[7]?).any (fun fn => fn.body.isSome && !(fn.name == "runtime.NumGoroutine")) = true := by rw [Try.func7]; rfl
theorem ok_8 : (Try.prog.funcs[8]?).any (fun fn => fn.body.isSome && !(fn.name == "runtime.NumGoroutine")) = true := by rw [Try.func8]; rfl
theorem ok_9 : (Try.prog.funcs[9]?).any (fun fn => fn.body.isSome && !(fn.name == "runtime.NumGoroutine")) = true := by rw [Try.func9]; rfl
theorem ok_10 : (Try.prog.funcs[10]?).any (fun fn => fn.body.isSome && !(fn.name == "runtime.NumGoroutine")) = true := by rw [Try.func10]; rfl
theorem ok_11 : (Try.prog.funcs[11]?).any (fun fn => fn.body.isSome && !(fn.name == "runtime.NumGoroutine")) = true := by rw [Try.func11]; rfl
theorem ok_12 : (Try.prog.funcs[12]?).any (fun fn => fn.body.isSome && !(fn.name == "runtime.NumGoroutine")) = true := by rw [Try.func12]; rfl
theorem ok_13 : (Try.prog.funcs[13]?).any (fun fn => fn.body.isSome && !(fn.name == "runtime.NumGoroutine")) = true := by rw [Try.func13]; rfl
theorem ok_14 : (Try.prog.funcs[14]?).any (fun fn => fn.body.isSome && !(fn.name == "runtime.NumGoroutine")) = true := by rw [Try.func14]; rfl
theorem ok_15 : (Try.prog.funcs[15]?).any (fun fn => fn.body.isSome && !(fn.name == "runtime.NumGoroutine")) = true := by rw [Try.func15]; rfl
theorem ok_16 : (Try.prog.funcs[16]?).any (fun fn => fn.body.isSome && !(fn.name == "runtime.NumGoroutine")) = true := by rw [Try.func16]; rfl
theorem ok_17 : (Try.prog.funcs[17]?).any (fun fn => fn.body.isSome && !(fn.name == "runtime.NumGoroutine")) = true := by rw [Try.func17]; rfl
theorem ok_18 : (Try.prog.funcs[18]?).any (fun fn => fn.body.isSome && !(fn.name == "runtime.NumGoroutine")) = true := by rw [Try.func18]; rfl
theorem ok_19 : (Try.prog.funcs[19]?).any (fun fn => fn.body.isSome && !(fn.name == "runtime.NumGoroutine")) = true := by rw [Try.func19]; rfl
theorem ok_20 : (Try.prog.funcs[20]?).any (fun fn => fn.body.isSome && !(fn.name == "runtime.NumGoroutine")) = true := by rw [Try.func20]; rfl
theorem ok_21 : (Try.prog.funcs[21]?).any (fun fn => fn.body.isSome && !(fn.name == "runtime.NumGoroutine")) = true := by rw [Try.func21]; rfl
theorem ok_22 : (Try.prog.funcs[22]?).any (fun fn => fn.body.isSome && !(fn.name == "runtime.NumGoroutine")) = true := by rw [Try.func22]; rfl
theorem ok_23 : (Try.prog.funcs[23]?).any (fun fn => fn.body.isSome && !(fn.name == "runtime.NumGoroutine")) = true := by rw [Try.func23]; rfl
theorem ok_24 : (Try.prog.funcs[24]?).any (fun fn => fn.body.isSome && !(fn.name == "runtime.NumGoroutine")) = true := by rw [Try.func24]; rfl
theorem ok_25 : (Try.prog.funcs[25]?).any (fun fn => fn.body.isSome && !(fn.name == "runtime.NumGoroutine")) = true := by rw [Try.func25]; rfl
theorem ok_26 : (Try.prog.funcs[26]?).any (fun fn => fn.body.isSome && !(fn.name == "runtime.NumGoroutine")) = true := by rw [Try.func26]; rfl
theorem ok_27 : (Try.prog.funcs[27]?).any (fun fn => fn.body.isSome && !(fn.name == "runtime.NumGoroutine")) = true := by rw [Try.func27]; rfl
theorem ok_28 : (Try.prog.funcs[28]?).any (fun fn => fn.body.isSome && !(fn.name == "runtime.NumGoroutine")) = true := by rw [Try.func28]; rfl
theorem ok_29 : (Try.prog.funcs[29]?).any (fun fn => fn.body.isSome && !(fn.name == "runtime.NumGoroutine")) = true := by rw [Try.func29]; rfl
theorem ok_30 : (Try.prog.funcs[30]?).any (fun fn => fn.body.isSome && !(fn.name == "runtime.NumGoroutine")) = true := by rw [Try.func30]; rfl
theorem ok_31 : (Try.prog.funcs[31]?).any (fun fn => fn.body.isSome && !(fn.name == "runtime.NumGoroutine")) = true := by rw [Try.func31]; rfl
theorem ok_32 : (Try.prog.funcs[32]?).any (fun fn => fn.body.isSome && !(fn.name == "runtime.NumGoroutine")) = true := by rw [Try.func32]; rfl
theorem ok_33 : (Try.prog.funcs[33]?).any (fun fn => fn.body.isSome && !(fn.name == "runtime.NumGoroutine")) = true := by rw [Try.func33]; rfl
theorem ok_34 : (Try.prog.funcs[34]?).any (fun fn => fn.body.isSome && !(fn.name == "runtime.NumGoroutine")) = true := by rw [Try.func34]; rfl
theorem ok_35 : (Try.prog.funcs[35]?).any (fun fn => fn.body.isSome && !(fn.name == "runtime.NumGoroutine")) = true := by rw [Try.func35]; rfl
theorem ok_36 : (Try.prog.funcs[36]?).any (fun fn => fn.body.isSome && !(fn.name == "runtime.NumGoroutine")) = true := by rw [Try.func36]; rfl
theorem ok_37 : (Try.prog.funcs[37]?).any (fun fn => fn.body.isSome && !(fn.name == "runtime.NumGoroutine")) = true := by rw [Try.func37]; rfl
theorem ok_38 : (Try.prog.funcs[38]?).any (fun fn => fn.body.isSome && !(fn.name == "runtime.NumGoroutine")) = true := by rw [Try.func38]; rfl
theorem ok_39 : (Try.prog.funcs[39]?).any (fun fn => fn.body.isSome && !(fn.name == "runtime.NumGoroutine")) = true := by rw [Try.func39]; rfl
theorem ok_40 : (Try.prog.funcs[40]?).any (fun fn => fn.body.isSome && !(fn.name == "runtime.NumGoroutine")) = true := by rw [Try.func40]; rfl
theorem ok_41 : (Try.prog.funcs[41]?).any (fun fn => fn.body.isSome && !(fn.name == "runtime.NumGoroutine")) = true := by rw [Try.func41]; rfl
theorem ok_42 : (Try.prog.funcs[42]?).any (fun fn => fn.body.isSome && !(fn.name == "runtime.NumGoroutine")) = true := by rw [Try.func42]; rfl
theorem ok_43 : (Try.prog.funcs[43]?).any (fun fn => fn.body.isSome && !(fn.name == "runtime.NumGoroutine")) = true := by rw [Try.func43]; rfl
theorem ok_44 : (Try.prog.funcs[44]?).any (fun fn => fn.body.isSome && !(fn.name == "runtime.NumGoroutine")) = true := by rw [Try.func44]; rfl
theorem ok_45 : (Try.prog.funcs[45]?).any (fun fn => fn.body.isSome && !(fn.name == "runtime.NumGoroutine")) = true := by rw [Try.func45]; rfl
theorem ok_46 : (Try.prog.funcs[46]?).any (fun fn => fn.body.isSome && !(fn.name == "runtime.NumGoroutine")) = true := by rw [Try.func46]; rfl
theorem ok_47 : (Try.prog.funcs[47]?).any (fun fn => fn.body.isSome && !(fn.name == "runtime.NumGoroutine")) = true := by rw [Try.func47]; rfl
theorem ok_48 : (Try.prog.funcs[48]?).any (fun fn => fn.body.isSome && !(fn.name == "runtime.NumGoroutine")) = true := by rw [Try.func48]; rfl
theorem ok_49 : (Try.prog.funcs[49]?).any (fun fn => fn.body.isSome && !(fn.name == "runtime.NumGoroutine")) = true := by rw [Try.func49]; rfl
theorem ok_50 : (Try.prog.funcs[50]?).any (fun fn => fn.body.isSome && !(fn.name == "runtime.NumGoroutine")) = true := by rw [Try.func50]; rfl
theorem ok_51 : (Try.prog.funcs[51]?).any (fun fn => fn.body.isSome && !(fn.name == "runtime.NumGoroutine")) = true := by rw [Try.func51]; rfl
theorem ok_52 : (Try.prog.funcs[52]?).any (fun fn => fn.body.isSome && !(fn.name == "runtime.NumGoroutine")) = true := by rw [Try.func52]; rfl
theorem ok_53 : (Try.prog.funcs[53]?).any (fun fn => fn.body.isSome && !(fn.name == "runtime.NumGoroutine")) = true := by rw [Try.func53]; rfl
theorem ok_54 : (Try.prog.funcs[54]?).any (fun fn => fn.body.isSome && !(fn.name == "runtime.NumGoroutine")) = true := by rw [Try.func54]; rfl
theorem ok_55 : (Try.prog.funcs[55]?).any (fun fn => fn.body.isSome && !(fn.name == "runtime.NumGoroutine")) = true := by rw [Try.func55]; rfl
theorem ok_56 : (Try.prog.funcs[56]?).any (fun fn => fn.body.isSome && !(fn.name == "runtime.NumGoroutine")) = true := by rw [Try.func56]; rfl
theorem ok_57 : (Try.prog.funcs[57]?).any (fun fn => fn.body.isSome && !(fn.name == "runtime.NumGoroutine")) = true := by rw [Try.func57]; rfl
theorem ok_58 : (Try.prog.funcs[58]?).any (fun fn => fn.body.isSome && !(fn.name == "runtime.NumGoroutine")) = true := by rw [Try.func58]; rfl
theorem ok_59 : (Try.prog.funcs[59]?).any (fun fn => fn.body.isSome && !(fn.name == "runtime.NumGoroutine")) = true := by rw [Try.func59]; rfl
theorem ok_60 : (Try.prog.funcs[60]?).any (fun fn => fn.body.isSome && !(fn.name == "runtime.NumGoroutine")) = true := by rw [Try.func60]; rfl
theorem ok_61 : (Try.prog.funcs[61]?).any (fun fn => fn.body.isSome && !(fn.name == "runtime.NumGoroutine")) = true := by rw [Try.func61]; rfl
theorem ok_62 : (Try.prog.funcs[62]?).any (fun fn => fn.body.isSome && !(fn.name == "runtime.NumGoroutine")) = true := by rw [Try.func62]; rfl
theorem ok_63 : (Try.prog.funcs[63]?).any (fun fn => fn.body.isSome && !(fn.name == "runtime.NumGoroutine")) = true := by rw [Try.func63]; rfl
theorem ok_64 : (Try.prog.funcs[64]?).any (fun fn => fn.body.isSome && !(fn.name == "runtime.NumGoroutine")) = true := by rw [Try.func64]; rfl
theorem ok_65 : (Try.prog.funcs[65]?).any (fun fn => fn.body.isSome && !(fn.name == "runtime.NumGoroutine")) = true := by rw [Try.func65]; rfl
theorem ok_66 : (Try.prog.funcs[66]?).any (fun fn => fn.body.isSome && !(fn.name == "runtime.NumGoroutine")) = true := by rw [Try.func66]; rfl
theorem ok_67 : (Try.prog.funcs[67]?).any (fun fn => fn.body.isSome && !(fn.name == "runtime.NumGoroutine")) = true := by rw [Try.func67]; rfl
theorem ok_68 : (Try.prog.funcs[68]?).any (fun fn => fn.body.isSome && !(fn.name == "runtime.NumGoroutine")) = true := by rw [Try.func68]; rfl
theorem ok_69 : (Try.prog.funcs[69]?).any (fun fn => fn.body.isSome && !(fn.name == "runtime.NumGoroutine")) = true := by rw [Try.func69]; rfl
theorem ok_70 : (Try.prog.funcs[70]?).any (fun fn => fn.body.isSome && !(fn.name == "runtime.NumGoroutine")) = true := by rw [Try.func70]; rfl
theorem ext_71 : ExtIs Try.prog 71 add64Entry := ⟨⟨_, Try.func71, by kernel_rfl, by kernel_rfl, by kernel_rfl, by kernel_rfl⟩⟩
theorem ok_72 : (Try.prog.funcs[72]?).any (fun fn => fn.body.isSome && !(fn.name == "runtime.NumGoroutine")) = true := by rw [Try.func72]; rfl
theorem ok_73 : (Try.prog.funcs[73]?).any (fun fn => fn.body.isSome && !(fn.name == "runtime.NumGoroutine")) = true := by rw [Try.func73]; rfl
theorem ok_74 : (Try.prog.funcs[74]?).any (fun fn => fn.body.isSome && !(fn.name == "runtime.NumGoroutine")) = true := by rw [Try.func74]; rfl
theorem ok_75 : (Try.prog.funcs[75]?).any (fun fn => fn.body.isSome && !(fn.name == "runtime.NumGoroutine")) = true := by rw [Try.func75]; rfl
theorem ok_76 : (Try.prog.funcs[76]?).any (fun fn => fn.body.isSome && !(fn.name == "runtime.NumGoroutine")) = true := by rw [Try.func76]; rfl
theorem ok_77 : (Try.prog.funcs[77]?).any (fun fn => fn.body.isSome && !(fn.name == "runtime.NumGoroutine")) = true := by rw [Try.func77]; rfl
theorem ok_78 : (Try.prog.funcs[78]?).any (fun fn => fn.body.isSome && !(fn.name == "runtime.NumGoroutine")) = true := by rw [Try.func78]; rfl
theorem ok_79 : (Try.prog.funcs[79]?).any (fun fn => fn.body.isSome && !(fn.name == "runtime.NumGoroutine")) = true := by rw [Try.func79]; rfl
theorem ok_80 : (Try.prog.funcs[80]?).any (fun fn => fn.body.isSome && !(fn.name == "runtime.NumGoroutine")) = true := by rw [Try.func80]; rfl
theorem ok_81 : (Try.prog.funcs[81]?).any (fun fn => fn.body.isSome && !(fn.name == "runtime.NumGoroutine")) = true := by rw [Try.func81]; rfl
theorem ok_82 : (Try.prog.funcs[82]?).any (fun fn => fn.body.isSome && !(fn.name == "runtime.NumGoroutine")) = true := by rw [Try.func82]; rfl
theorem ok_83 : (Try.prog.funcs[83]?).any (fun fn => fn.body.isSome && !(fn.name == "runtime.NumGoroutine")) = true := by rw [Try.func83]; rfl
theorem ok_84 : (Try.prog.funcs[84]?).any (fun fn => fn.body.isSome && !(fn.name == "runtime.NumGoroutine")) = true := by rw [Try.func84]; rfl
theorem ok_85 : (Try.prog.funcs[85]?).any (fun fn => fn.body.isSome && !(fn.name == "runtime.NumGoroutine")) = true := by rw [Try.func85]; rfl
theorem ok_86 : (Try.prog.funcs[86]?).any (fun fn => fn.body.isSome && !(fn.name == "runtime.NumGoroutine")) = true := by rw [Try.func86]; rfl
theorem ext_87 : ExtIs Try.prog 87 sub64Entry := ⟨⟨_, Try.func87, by kernel_rfl, by kernel_rfl, by kernel_rfl, by kernel_rfl⟩⟩
theorem mixed : Try.prog.follows .mixedOrders = true := by kernel_rfl
end Go.Proofs.Ytcekjmejppemeaa
/- Carries are 0 or 1. -/
namespace Go.Proofs.Ytcekjmejppemeaa
open Go.RowKit
theorem addC_le (x y c : BitVec 64) (h : c.toNat ≤ 1) : (addC x y c).toNat ≤ 1 := by
  have := x.isLt; have := y.isLt
  unfold addC
  rw [BitVec.toNat_ofNat]
  omega
theorem subC_le (x y c : BitVec 64) : (subC x y c).toNat ≤ 1 := by
  unfold subC
  split <;> decide
end Go.Proofs.Ytcekjmejppemeaa
/- limb.Of (Drawn up by a program.) -/
namespace Go.Proofs.Ytcekjmejppemeaa
open Go.RowKit
def lmOf_L3_S (b : List (BitVec 8)) (X1 : List (BitVec 64)) (j3 : Nat) : List (BitVec 64) := put X1 (j3 / 8) ((nth X1 (j3 / 8)) ||| (((nth b j3).setWidth 64) <<< (8 * (j3 % 8))))
def lmOf_L3 (b : List (BitVec 8)) : Nat → List (BitVec 64)
  | 0 => zer64 4
  | j3 + 1 => lmOf_L3_S b (lmOf_L3 b j3) j3
@[simp] theorem lmOf_L3_len (b : List (BitVec 8)) (j3 : Nat) : (lmOf_L3 b j3).length = 4 := by
  induction j3 with
  | zero => first | (simp [lmOf_L3, *]; done) | (simp [lmOf_L3, *]; omega)
  | succ j3 ih => rw [lmOf_L3.eq_2, lmOf_L3_S]; first | (simp [ih]; done) | (simp [ih]; omega) | (simp [*]; done) | (simp [*]; omega) | (split <;> first | (simp [ih]; done) | (simp [ih]; omega) | (simp [*]; done))
def lmOf (b : List (BitVec 8)) : List (BitVec 64) := put [(nth (lmOf_L3 b 32) 0) &&& 2251799813685247#64, (((nth (lmOf_L3 b 32) 0) >>> 51) ||| ((nth (lmOf_L3 b 32) 1) <<< 13)) &&& 2251799813685247#64, (((nth (lmOf_L3 b 32) 1) >>> 38) ||| ((nth (lmOf_L3 b 32) 2) <<< 26)) &&& 2251799813685247#64, (((nth (lmOf_L3 b 32) 2) >>> 25) ||| ((nth (lmOf_L3 b 32) 3) <<< 39)) &&& 2251799813685247#64, ((nth (lmOf_L3 b 32) 3) >>> 12) &&& 2251799813685247#64] 0 ((nth [(nth (lmOf_L3 b 32) 0) &&& 2251799813685247#64, (((nth (lmOf_L3 b 32) 0) >>> 51) ||| ((nth (lmOf_L3 b 32) 1) <<< 13)) &&& 2251799813685247#64, (((nth (lmOf_L3 b 32) 1) >>> 38) ||| ((nth (lmOf_L3 b 32) 2) <<< 26)) &&& 2251799813685247#64, (((nth (lmOf_L3 b 32) 2) >>> 25) ||| ((nth (lmOf_L3 b 32) 3) <<< 39)) &&& 2251799813685247#64, ((nth (lmOf_L3 b 32) 3) >>> 12) &&& 2251799813685247#64] 0) + (19#64 * ((nth (lmOf_L3 b 32) 3) >>> 63)))
set_option maxRecDepth 100000 in
set_option maxHeartbeats 2000000 in
theorem lmOf_ev (b : List (BitVec 8)) (hb : b.length = 32) : Ev Try.prog (.call 41 [.agg (.a8 (b))] []) (.val (.agg (.a64 (lmOf b))) []) := by
  have hP : Hid (lmOf b = put [(nth (lmOf_L3 b 32) 0) &&& 2251799813685247#64, (((nth (lmOf_L3 b 32) 0) >>> 51) ||| ((nth (lmOf_L3 b 32) 1) <<< 13)) &&& 2251799813685247#64, (((nth (lmOf_L3 b 32) 1) >>> 38) ||| ((nth (lmOf_L3 b 32) 2) <<< 26)) &&& 2251799813685247#64, (((nth (lmOf_L3 b 32) 2) >>> 25) ||| ((nth (lmOf_L3 b 32) 3) <<< 39)) &&& 2251799813685247#64, ((nth (lmOf_L3 b 32) 3) >>> 12) &&& 2251799813685247#64] 0 ((nth [(nth (lmOf_L3 b 32) 0) &&& 2251799813685247#64, (((nth (lmOf_L3 b 32) 0) >>> 51) ||| ((nth (lmOf_L3 b 32) 1) <<< 13)) &&& 2251799813685247#64, (((nth (lmOf_L3 b 32) 1) >>> 38) ||| ((nth (lmOf_L3 b 32) 2) <<< 26)) &&& 2251799813685247#64, (((nth (lmOf_L3 b 32) 2) >>> 25) ||| ((nth (lmOf_L3 b 32) 3) <<< 39)) &&& 2251799813685247#64, ((nth (lmOf_L3 b 32) 3) >>> 12) &&& 2251799813685247#64] 0) + (19#64 * ((nth (lmOf_L3 b 32) 3) >>> 63)))) := ⟨rfl⟩
  refine c_call Try.func41 rfl Try.ntmps41 rfl LEN_ ?_
  refine S_ ?_
  refine c_region ?_
  refine s_memN (m_box BX_ LEN_) APP_ rfl ?_
  refine s_memN (m_alloc al_54 LEN_) APP_ rfl ?_
  refine s_nil ?_
  refine S_ ?_
  refine c_region ?_
  refine s_memN (m_alloc al_37 LEN_) APP_ rfl ?_
  refine s_nil ?_
  refine S_ ?_
  refine c_region ?_
  refine s_val (v_moveC rfl) rfl ?_
  refine s_nil ?_
  refine S_ ?_
  refine c_loopC [1, 2, 3, 6] (fun (zz : Nat × List (BitVec 64)) => ⟨65, keepT [1, 2, 3, 6] [.c (.ptr 0 0), .c (.ptr 1 0), .c (.ptr 2 0), .c (.val (.int .i64 (((zz.1 : Nat) : Int))))], [.row true (.a8 (b)), .row true (.a64 (zer64 5)), .row true (.a64 (zz.2))]⟩) (fun j3 => (j3, lmOf_L3 b j3)) (32) (by kernel_rfl) ?_ ?_
  · intro j3 hj3
    try dsimp only
    have hX1 : (lmOf_L3 b j3).length = 4 := by rw [lmOf_L3_len b _]; try omega
    rw [lmOf_L3.eq_2, lmOf_L3_S]
    generalize lmOf_L3 b j3 = X1 at *
    refine S_ ?_
    refine c_region ?_
    refine s_val (v_lssN (b := 32) rfl rfl) rfl ?_
    refine s_nil ?_
    refine S_ ?_
    refine c_region ?_
    refine s_val (v_moveC rfl) rfl ?_
    refine s_val (v_assignC rfl) rfl ?_
    refine s_nil ?_
    refine S_ ?_
    refine c_draw 14 mixed (by kernel_rfl) rfl rfl rfl ?_
    refine h_val (v_moveC rfl) rfl ?_
    refine h_val (v_quoN (b := 8) rfl rfl (by omega) (by omega)) rfl ?_
    refine h_val (v_idxA1 rfl rfl Try.underlying37 sz_29 (by omega)) rfl ?_
    refine h_val (v_load64 rfl rfl row_29 LT_) rfl ?_
    refine h_val (v_moveC rfl) rfl ?_
    refine h_val (v_idxA1 rfl rfl Try.underlying22 sz_5 (by omega)) rfl ?_
    refine h_val (v_load8 rfl rfl row_5 LT_) rfl ?_
    refine h_val (v_conv rfl Try.underlying5 Try.underlying29 (w8_64 _)) rfl ?_
    refine h_val (v_moveC rfl) rfl ?_
    refine h_val (v_remN (b := 8) rfl rfl (by omega) (by omega)) rfl ?_
    refine h_val (v_mulN (a := 8) rfl rfl (by omega)) rfl ?_
    refine h_val (v_shl64n rfl rfl) rfl ?_
    refine h_val (v_or64 rfl rfl) rfl ?_
    refine h_val (v_idxA1 rfl rfl Try.underlying37 sz_29 (by omega)) rfl ?_
    refine h_nil ?_
    refine s_store64 rfl rfl rfl sz_29 LT_ SET_ ?_
    refine s_nil ?_
    refine S_ ?_
    refine c_region ?_
    refine s_val (v_addN (b := 1) rfl rfl (by omega)) rfl ?_
    refine s_val (v_moveC rfl) rfl ?_
    refine s_nil ?_
    exact ⟨(j3 + 1, _), by kernel_rfl, rfl⟩
  · try dsimp only
    have hY2 : (lmOf_L3 b 32).length = 4 := by rw [lmOf_L3_len b _]; try omega
    generalize lmOf_L3 b 32 = Y2 at *
    refine S_ ?_
    refine c_region ?_
    refine s_val (v_lssN (a := 32) (b := 32) rfl rfl) rfl ?_
    refine s_nil ?_
    refine S_ ?_
    refine c_region ?_
    refine s_val (v_idxA1 (j := 0) rfl rfl Try.underlying37 sz_29 (by omega)) rfl ?_
    refine s_val (v_load64 rfl rfl row_29 LT_) rfl ?_
    refine s_val (v_and64 (b := 2251799813685247#64) rfl rfl) rfl ?_
    refine s_val (v_idxA1 (j := 0) rfl rfl Try.underlying37 sz_29 (by omega)) rfl ?_
    refine s_val (v_load64 rfl rfl row_29 LT_) rfl ?_
    refine s_val (v_shr64n (j := 51) rfl rfl) rfl ?_
    refine s_val (v_idxA1 (j := 1) rfl rfl Try.underlying37 sz_29 (by omega)) rfl ?_
    refine s_val (v_load64 rfl rfl row_29 LT_) rfl ?_
    refine s_val (v_shl64n (j := 13) rfl rfl) rfl ?_
    refine s_val (v_or64 rfl rfl) rfl ?_
    refine s_val (v_and64 (b := 2251799813685247#64) rfl rfl) rfl ?_
    refine s_val (v_idxA1 (j := 1) rfl rfl Try.underlying37 sz_29 (by omega)) rfl ?_
    refine s_val (v_load64 rfl rfl row_29 LT_) rfl ?_
    refine s_val (v_shr64n (j := 38) rfl rfl) rfl ?_
    refine s_val (v_idxA1 (j := 2) rfl rfl Try.underlying37 sz_29 (by omega)) rfl ?_
    refine s_val (v_load64 rfl rfl row_29 LT_) rfl ?_
    refine s_val (v_shl64n (j := 26) rfl rfl) rfl ?_
    refine s_val (v_or64 rfl rfl) rfl ?_
    refine s_val (v_and64 (b := 2251799813685247#64) rfl rfl) rfl ?_
    refine s_val (v_idxA1 (j := 2) rfl rfl Try.underlying37 sz_29 (by omega)) rfl ?_
    refine s_val (v_load64 rfl rfl row_29 LT_) rfl ?_
    refine s_val (v_shr64n (j := 25) rfl rfl) rfl ?_
    refine s_val (v_idxA1 (j := 3) rfl rfl Try.underlying37 sz_29 (by omega)) rfl ?_
    refine s_val (v_load64 rfl rfl row_29 LT_) rfl ?_
    refine s_val (v_shl64n (j := 39) rfl rfl) rfl ?_
    refine s_val (v_or64 rfl rfl) rfl ?_
    refine s_val (v_and64 (b := 2251799813685247#64) rfl rfl) rfl ?_
    refine s_val (v_idxA1 (j := 3) rfl rfl Try.underlying37 sz_29 (by omega)) rfl ?_
    refine s_val (v_load64 rfl rfl row_29 LT_) rfl ?_
    refine s_val (v_shr64n (j := 12) rfl rfl) rfl ?_
    refine s_val (v_and64 (b := 2251799813685247#64) rfl rfl) rfl ?_
    refine s_val (v_bld64 (l := [_, _, _, _, _]) zc_54 Try.underlying54 sz_29 rfl rfl (by decide)) rfl ?_
    refine s_memN (m_alloc al_54 LEN_) APP_ rfl ?_
    refine s_storeR rfl rfl rfl rfl sz_54 EQ_ EQ_ SET_ ?_
    refine s_nil ?_
    refine S_ ?_
    refine c_region ?_
    refine s_val (v_idxA1 (j := 0) rfl rfl Try.underlying54 sz_29 (by omega)) rfl ?_
    refine s_val (v_load64 rfl rfl row_29 LT_) rfl ?_
    refine s_val (v_idxA1 (j := 3) rfl rfl Try.underlying37 sz_29 (by omega)) rfl ?_
    refine s_val (v_load64 rfl rfl row_29 LT_) rfl ?_
    refine s_val (v_shr64n (j := 63) rfl rfl) rfl ?_
    refine s_val (v_mul64 (a := 19#64) rfl rfl) rfl ?_
    refine s_val (v_add64 rfl rfl) rfl ?_
    refine s_val (v_idxA1 (j := 0) rfl rfl Try.underlying54 sz_29 (by omega)) rfl ?_
    refine s_store64 rfl rfl rfl sz_29 LT_ SET_ ?_
    refine s_nil ?_
    refine S_ ?_
    refine c_region ?_
    refine s_val (v_loadR rfl rfl row_54 sz_54 EQ_ (by decide)) rfl ?_
    refine s_storeR rfl rfl rfl rfl sz_54 EQ_ EQ_ SET_ ?_
    refine s_nil ?_
    refine S_ ?_
    rw [hP.out]
    exact k_1 (r_row rfl rfl row_54 sz_54 EQ_ (by decide)) (by first | kernel_rfl | rfl)

@[simp] theorem lmOf_len (b : List (BitVec 8)) (hb : b.length = 32) : (lmOf b).length = 5 := by
  unfold lmOf
  first | (simp [lmOf_L3_len, *]; done) | (simp [lmOf_L3_len, *]; omega)

attribute [irreducible] lmOf
end Go.Proofs.Ytcekjmejppemeaa
/- limb.carried (Drawn up by a program.) -/
namespace Go.Proofs.Ytcekjmejppemeaa
open Go.RowKit
def lmCar_L3_S (X1 : BitVec 64) (X2 : List (BitVec 64)) (j3 : Nat) : BitVec 64 × List (BitVec 64) := ((nth (put X2 j3 ((nth X2 j3) + X1)) j3) >>> 51, put (put X2 j3 ((nth X2 j3) + X1)) j3 ((nth (put X2 j3 ((nth X2 j3) + X1)) j3) &&& 2251799813685247#64))
def lmCar_L3 (a : List (BitVec 64)) : Nat → BitVec 64 × List (BitVec 64)
  | 0 => (0#64, a)
  | j3 + 1 => lmCar_L3_S (lmCar_L3 a j3).1 (lmCar_L3 a j3).2 j3
theorem lmCar_L3_len1 (a : List (BitVec 64)) (ha : a.length = 5) (j3 : Nat) : (lmCar_L3 a j3).2.length = 5 := by
  induction j3 with
  | zero => first | (simp [lmCar_L3, *]; done) | (simp [lmCar_L3, *]; omega)
  | succ j3 ih => rw [lmCar_L3.eq_2, lmCar_L3_S]; first | (simp [ih]; done) | (simp [ih]; omega) | (simp [*]; done) | (simp [*]; omega) | (split <;> first | (simp [ih]; done) | (simp [ih]; omega) | (simp [*]; done))
def lmCar (a : List (BitVec 64)) : List (BitVec 64) := put ((lmCar_L3 a 5).2) 0 ((nth ((lmCar_L3 a 5).2) 0) + (19#64 * ((lmCar_L3 a 5).1)))
set_option maxRecDepth 100000 in
set_option maxHeartbeats 2000000 in
theorem lmCar_ev (a : List (BitVec 64)) (ha : a.length = 5) : Ev Try.prog (.call 76 [.agg (.a64 (a))] []) (.val (.agg (.a64 (lmCar a))) []) := by
  have hP : Hid (lmCar a = put ((lmCar_L3 a 5).2) 0 ((nth ((lmCar_L3 a 5).2) 0) + (19#64 * ((lmCar_L3 a 5).1)))) := ⟨rfl⟩
  refine c_call Try.func76 rfl Try.ntmps76 rfl LEN_ ?_
  refine S_ ?_
  refine c_region ?_
  refine s_memN (m_box BX_ LEN_) APP_ rfl ?_
  refine s_memN (m_alloc al_54 LEN_) APP_ rfl ?_
  refine s_nil ?_
  refine S_ ?_
  refine c_region ?_
  refine s_val (v_assignC rfl) rfl ?_
  refine s_nil ?_
  refine S_ ?_
  refine c_region ?_
  refine s_val (v_moveC rfl) rfl ?_
  refine s_nil ?_
  refine S_ ?_
  refine c_loopC [1, 2, 3, 5] (fun (zz : Nat × BitVec 64 × List (BitVec 64)) => ⟨31, keepT [1, 2, 3, 5] [.c (.ptr 0 0), .c (.ptr 1 0), .c (.val (U64 (zz.2.1))), .c (.val (.int .i64 (((zz.1 : Nat) : Int))))], [.row true (.a64 (zz.2.2)), .row true (.a64 (zer64 5))]⟩) (fun j3 => (j3, lmCar_L3 a j3)) (5) (by kernel_rfl) ?_ ?_
  · intro j3 hj3
    try dsimp only
    have hX2 : (lmCar_L3 a j3).2.length = 5 := by rw [lmCar_L3_len1 a ha _]; try omega
    rw [lmCar_L3.eq_2, lmCar_L3_S]
    generalize lmCar_L3 a j3 = Z3 at *
    obtain ⟨X1, X2⟩ := Z3
    try dsimp only at *
    refine S_ ?_
    refine c_region ?_
    refine s_val (v_lssN (b := 5) rfl rfl) rfl ?_
    refine s_nil ?_
    refine S_ ?_
    refine c_region ?_
    refine s_val (v_moveC rfl) rfl ?_
    refine s_val (v_assignC rfl) rfl ?_
    refine s_nil ?_
    refine S_ ?_
    refine c_region ?_
    refine s_val (v_moveC rfl) rfl ?_
    refine s_val (v_idxA1 rfl rfl Try.underlying54 sz_29 (by omega)) rfl ?_
    refine s_val (v_load64 rfl rfl row_29 LT_) rfl ?_
    refine s_val (v_moveC rfl) rfl ?_
    refine s_val (v_add64 rfl rfl) rfl ?_
    refine s_val (v_idxA1 rfl rfl Try.underlying54 sz_29 (by omega)) rfl ?_
    refine s_store64 rfl rfl rfl sz_29 LT_ SET_ ?_
    refine s_nil ?_
    refine S_ ?_
    refine c_region ?_
    refine s_val (v_moveC rfl) rfl ?_
    refine s_val (v_idxA1 rfl rfl Try.underlying54 sz_29 (by omega)) rfl ?_
    refine s_val (v_load64 rfl rfl row_29 LT_) rfl ?_
    refine s_val (v_shr64n (j := 51) rfl rfl) rfl ?_
    refine s_val (v_assignC rfl) rfl ?_
    refine s_nil ?_
    refine S_ ?_
    refine c_region ?_
    refine s_val (v_moveC rfl) rfl ?_
    refine s_val (v_idxA1 rfl rfl Try.underlying54 sz_29 (by omega)) rfl ?_
    refine s_val (v_load64 rfl rfl row_29 LT_) rfl ?_
    refine s_val (v_and64 (b := 2251799813685247#64) rfl rfl) rfl ?_
    refine s_val (v_idxA1 rfl rfl Try.underlying54 sz_29 (by omega)) rfl ?_
    refine s_store64 rfl rfl rfl sz_29 LT_ SET_ ?_
    refine s_nil ?_
    refine S_ ?_
    refine c_region ?_
    refine s_val (v_addN (b := 1) rfl rfl (by omega)) rfl ?_
    refine s_val (v_moveC rfl) rfl ?_
    refine s_nil ?_
    exact ⟨(j3 + 1, _), by kernel_rfl, rfl⟩
  · try dsimp only
    have hY5 : (lmCar_L3 a 5).2.length = 5 := by rw [lmCar_L3_len1 a ha _]; try omega
    generalize lmCar_L3 a 5 = Z6 at *
    obtain ⟨Y4, Y5⟩ := Z6
    try dsimp only at *
    refine S_ ?_
    refine c_region ?_
    refine s_val (v_lssN (a := 5) (b := 5) rfl rfl) rfl ?_
    refine s_nil ?_
    refine S_ ?_
    refine c_region ?_
    refine s_val (v_idxA1 (j := 0) rfl rfl Try.underlying54 sz_29 (by omega)) rfl ?_
    refine s_val (v_load64 rfl rfl row_29 LT_) rfl ?_
    refine s_val (v_moveC rfl) rfl ?_
    refine s_val (v_mul64 (a := 19#64) rfl rfl) rfl ?_
    refine s_val (v_add64 rfl rfl) rfl ?_
    refine s_val (v_idxA1 (j := 0) rfl rfl Try.underlying54 sz_29 (by omega)) rfl ?_
    refine s_store64 rfl rfl rfl sz_29 LT_ SET_ ?_
    refine s_nil ?_
    refine S_ ?_
    refine c_region ?_
    refine s_val (v_loadR rfl rfl row_54 sz_54 EQ_ (by decide)) rfl ?_
    refine s_storeR rfl rfl rfl rfl sz_54 EQ_ EQ_ SET_ ?_
    refine s_nil ?_
    refine S_ ?_
    rw [hP.out]
    exact k_1 (r_row rfl rfl row_54 sz_54 EQ_ (by decide)) (by first | kernel_rfl | rfl)

@[simp] theorem lmCar_len (a : List (BitVec 64)) (ha : a.length = 5) : (lmCar a).length = 5 := by
  unfold lmCar
  first | (simp [lmCar_L3_len1, *]; done) | (simp [lmCar_L3_len1, *]; omega)

attribute [irreducible] lmCar
end Go.Proofs.Ytcekjmejppemeaa
/- (limb.N).Bytes (Drawn up by a program.) -/
namespace Go.Proofs.Ytcekjmejppemeaa
open Go.RowKit
def lmBytes_L6_S (X4 : BitVec 64) (X5 : List (BitVec 64)) (j6 : Nat) : BitVec 64 × List (BitVec 64) := ((nth (put X5 j6 ((nth X5 j6) + X4)) j6) >>> 51, put (put X5 j6 ((nth X5 j6) + X4)) j6 ((nth (put X5 j6 ((nth X5 j6) + X4)) j6) &&& 2251799813685247#64))
def lmBytes_L6 (a : List (BitVec 64)) : Nat → BitVec 64 × List (BitVec 64)
  | 0 => (0#64, put (lmCar (lmCar (lmCar a))) 0 ((nth (lmCar (lmCar (lmCar a))) 0) + 19#64))
  | j6 + 1 => lmBytes_L6_S (lmBytes_L6 a j6).1 (lmBytes_L6 a j6).2 j6
theorem lmBytes_L6_len1 (a : List (BitVec 64)) (ha : a.length = 5) (j6 : Nat) : (lmBytes_L6 a j6).2.length = 5 := by
  induction j6 with
  | zero => first | (simp (maxDischargeDepth := 9) [lmBytes_L6, *]; done) | (simp (maxDischargeDepth := 9) [lmBytes_L6, *]; omega)
  | succ j6 ih => rw [lmBytes_L6.eq_2, lmBytes_L6_S]; first | (simp (maxDischargeDepth := 9) [ih]; done) | (simp (maxDischargeDepth := 9) [ih]; omega) | (simp (maxDischargeDepth := 9) [*]; done) | (simp (maxDischargeDepth := 9) [*]; omega) | (split <;> first | (simp (maxDischargeDepth := 9) [ih]; done) | (simp (maxDischargeDepth := 9) [ih]; omega) | (simp (maxDischargeDepth := 9) [*]; done))
def lmBytes_L17_S (J10 : List (BitVec 64)) (X11 : List (BitVec 8)) (j17 : Nat) : List (BitVec 8) := put X11 j17 (((nth [(nth J10 0) ||| ((nth J10 1) <<< 51), ((nth J10 1) >>> 13) ||| ((nth J10 2) <<< 38), ((nth J10 2) >>> 26) ||| ((nth J10 3) <<< 25), ((nth J10 3) >>> 39) ||| ((nth J10 4) <<< 12)] (j17 / 8)) >>> (8 * (j17 % 8))).setWidth 8)
def lmBytes_L17 (J10 : List (BitVec 64)) : Nat → List (BitVec 8)
  | 0 => zer8 32
  | j17 + 1 => lmBytes_L17_S J10 (lmBytes_L17 J10 j17) j17
@[simp] theorem lmBytes_L17_len (J10 : List (BitVec 64)) (j17 : Nat) : (lmBytes_L17 J10 j17).length = 32 := by
  induction j17 with
  | zero => first | (simp (maxDischargeDepth := 9) [lmBytes_L17, *]; done) | (simp (maxDischargeDepth := 9) [lmBytes_L17, *]; omega)
  | succ j17 ih => rw [lmBytes_L17.eq_2, lmBytes_L17_S]; first | (simp (maxDischargeDepth := 9) [ih]; done) | (simp (maxDischargeDepth := 9) [ih]; omega) | (simp (maxDischargeDepth := 9) [lmBytes_L6_len1, *]; done) | (simp (maxDischargeDepth := 9) [lmBytes_L6_len1, *]; omega) | (split <;> first | (simp (maxDischargeDepth := 9) [ih]; done) | (simp (maxDischargeDepth := 9) [ih]; omega) | (simp (maxDischargeDepth := 9) [lmBytes_L6_len1, *]; done))
def lmBytes (a : List (BitVec 64)) : List (BitVec 8) := (lmBytes_L17 (if (0#64).toNat < ((lmBytes_L6 a 5).1).toNat then ((lmBytes_L6 a 5).2) else lmCar (lmCar (lmCar a))) 32)
set_option maxRecDepth 100000 in
set_option maxHeartbeats 2000000 in
theorem lmBytes_ev (a : List (BitVec 64)) (ha : a.length = 5) : Ev Try.prog (.call 42 [.agg (.a64 (a))] []) (.val (.agg (.a8 (lmBytes a))) []) := by
  have hP : Hid (lmBytes a = (lmBytes_L17 (if (0#64).toNat < ((lmBytes_L6 a 5).1).toNat then ((lmBytes_L6 a 5).2) else lmCar (lmCar (lmCar a))) 32)) := ⟨rfl⟩
  refine c_call Try.func42 rfl Try.ntmps42 rfl LEN_ ?_
  refine S_ ?_
  refine c_region ?_
  refine s_memN (m_box BX_ LEN_) APP_ rfl ?_
  refine s_memN (m_alloc al_22 LEN_) APP_ rfl ?_
  refine s_nil ?_
  have hQ1 : (lmCar a).length = 5 := LQ_
  have hQ2 : (lmCar (lmCar a)).length = 5 := LQ_
  have hQ3 : (lmCar (lmCar (lmCar a))).length = 5 := LQ_
  refine S_ ?_
  refine c_region ?_
  refine s_val (v_loadR rfl rfl row_54 sz_54 EQ_ (by decide)) rfl ?_
  refine s_evN (e_callR (bs := []) (lmCar_ev a HYP_) ok_76 (by kernel_rfl) (by kernel_rfl) rfl VAL_) APP_ rfl ?_
  refine s_evN (e_callR (bs := []) (lmCar_ev (lmCar a) HYP_) ok_76 (by kernel_rfl) (by kernel_rfl) rfl VAL_) APP_ rfl ?_
  refine s_evN (e_callR (bs := []) (lmCar_ev (lmCar (lmCar a)) HYP_) ok_76 (by kernel_rfl) (by kernel_rfl) rfl VAL_) APP_ rfl ?_
  refine s_storeR rfl rfl rfl rfl sz_54 EQ_ EQ_ SET_ ?_
  refine s_nil ?_
  refine S_ ?_
  refine c_region ?_
  refine s_val (v_loadR rfl rfl row_54 sz_54 EQ_ (by decide)) rfl ?_
  refine s_memN (m_alloc al_54 LEN_) APP_ rfl ?_
  refine s_storeR rfl rfl rfl rfl sz_54 EQ_ EQ_ SET_ ?_
  refine s_nil ?_
  refine S_ ?_
  refine c_region ?_
  refine s_val (v_idxA1 (j := 0) rfl rfl Try.underlying54 sz_29 (by omega)) rfl ?_
  refine s_val (v_load64 rfl rfl row_29 LT_) rfl ?_
  refine s_val (v_add64 (b := 19#64) rfl rfl) rfl ?_
  refine s_val (v_idxA1 (j := 0) rfl rfl Try.underlying54 sz_29 (by omega)) rfl ?_
  refine s_store64 rfl rfl rfl sz_29 LT_ SET_ ?_
  refine s_nil ?_
  refine S_ ?_
  refine c_region ?_
  refine s_val (v_assignC rfl) rfl ?_
  refine s_nil ?_
  refine S_ ?_
  refine c_region ?_
  refine s_val (v_moveC rfl) rfl ?_
  refine s_nil ?_
  refine S_ ?_
  refine c_loopC [1, 2, 3, 4, 18] (fun (zz : Nat × BitVec 64 × List (BitVec 64)) => ⟨84, keepT [1, 2, 3, 4, 18] [.c (.ptr 0 0), .c (.ptr 1 0), .c (.ptr 2 0), .c (.val (U64 (zz.2.1))), .c (.val (.int .i64 (((zz.1 : Nat) : Int))))], [.row true (.a64 (lmCar (lmCar (lmCar a)))), .row true (.a8 (zer8 32)), .row true (.a64 (zz.2.2))]⟩) (fun j6 => (j6, lmBytes_L6 a j6)) (5) (by kernel_rfl) ?_ ?_
  · intro j6 hj6
    try dsimp only
    have hX5 : (lmBytes_L6 a j6).2.length = 5 := by rw [lmBytes_L6_len1 a ha _]; try omega
    rw [lmBytes_L6.eq_2, lmBytes_L6_S]
    generalize lmBytes_L6 a j6 = Z6 at *
    obtain ⟨X4, X5⟩ := Z6
    try dsimp only at *
    refine S_ ?_
    refine c_region ?_
    refine s_val (v_lssN (b := 5) rfl rfl) rfl ?_
    refine s_nil ?_
    refine S_ ?_
    refine c_region ?_
    refine s_val (v_moveC rfl) rfl ?_
    refine s_val (v_assignC rfl) rfl ?_
    refine s_nil ?_
    refine S_ ?_
    refine c_region ?_
    refine s_val (v_moveC rfl) rfl ?_
    refine s_val (v_idxA1 rfl rfl Try.underlying54 sz_29 (by omega)) rfl ?_
    refine s_val (v_load64 rfl rfl row_29 LT_) rfl ?_
    refine s_val (v_moveC rfl) rfl ?_
    refine s_val (v_add64 rfl rfl) rfl ?_
    refine s_val (v_idxA1 rfl rfl Try.underlying54 sz_29 (by omega)) rfl ?_
    refine s_store64 rfl rfl rfl sz_29 LT_ SET_ ?_
    refine s_nil ?_
    refine S_ ?_
    refine c_region ?_
    refine s_val (v_moveC rfl) rfl ?_
    refine s_val (v_idxA1 rfl rfl Try.underlying54 sz_29 (by omega)) rfl ?_
    refine s_val (v_load64 rfl rfl row_29 LT_) rfl ?_
    refine s_val (v_shr64n (j := 51) rfl rfl) rfl ?_
    refine s_val (v_assignC rfl) rfl ?_
    refine s_nil ?_
    refine S_ ?_
    refine c_region ?_
    refine s_val (v_moveC rfl) rfl ?_
    refine s_val (v_idxA1 rfl rfl Try.underlying54 sz_29 (by omega)) rfl ?_
    refine s_val (v_load64 rfl rfl row_29 LT_) rfl ?_
    refine s_val (v_and64 (b := 2251799813685247#64) rfl rfl) rfl ?_
    refine s_val (v_idxA1 rfl rfl Try.underlying54 sz_29 (by omega)) rfl ?_
    refine s_store64 rfl rfl rfl sz_29 LT_ SET_ ?_
    refine s_nil ?_
    refine S_ ?_
    refine c_region ?_
    refine s_val (v_addN (b := 1) rfl rfl (by omega)) rfl ?_
    refine s_val (v_moveC rfl) rfl ?_
    refine s_nil ?_
    exact ⟨(j6 + 1, _), by kernel_rfl, rfl⟩
  · try dsimp only
    have hY8 : (lmBytes_L6 a 5).2.length = 5 := by rw [lmBytes_L6_len1 a ha _]; try omega
    generalize lmBytes_L6 a 5 = Z9 at *
    obtain ⟨Y7, Y8⟩ := Z9
    try dsimp only at *
    refine S_ ?_
    refine c_region ?_
    refine s_val (v_lssN (a := 5) (b := 5) rfl rfl) rfl ?_
    refine s_nil ?_
    refine S_ ?_
    refine c_region ?_
    refine s_val (v_moveC rfl) rfl ?_
    refine s_val (v_gtr64 (b := 0#64) rfl rfl) rfl ?_
    refine s_nil ?_
    refine Q_ ?_
    refine c_join [1, 2] (fun (zz : List (BitVec 64)) => ⟨84, keepT [1, 2] [.c (.ptr 0 0), .c (.ptr 1 0)], [.row true (.a64 (zz)), .row true (.a8 (zer8 32))]⟩) (if (0#64).toNat < Y7.toNat then Y8 else lmCar (lmCar (lmCar a))) rfl (fun hb => ?_) (fun hb => ?_) ?_
    · -- the test is True
      have hb_ := of_decide_eq_true hb
      refine S_ ?_
      refine c_region ?_
      refine s_val (v_loadR rfl rfl row_54 sz_54 EQ_ (by decide)) rfl ?_
      refine s_storeR rfl rfl rfl rfl sz_54 EQ_ EQ_ SET_ ?_
      refine s_nil ?_
      refine S_ ?_
      refine ⟨Y8, by kernel_rfl, ?_⟩
      rw [if_pos (of_decide_eq_true hb)]
    · -- the test is False
      have hb_ := of_decide_eq_false hb
      refine S_ ?_
      refine ⟨(lmCar (lmCar (lmCar a))), by kernel_rfl, ?_⟩
      rw [if_neg (of_decide_eq_false hb)]
    have hJ10 : (if (0#64).toNat < Y7.toNat then Y8 else lmCar (lmCar (lmCar a))).length = 5 := by split <;> simp [*]
    generalize (if (0#64).toNat < Y7.toNat then Y8 else lmCar (lmCar (lmCar a))) = J10 at *
    refine S_ ?_
    refine c_region ?_
    refine s_val (v_idxA1 (j := 0) rfl rfl Try.underlying54 sz_29 (by omega)) rfl ?_
    refine s_val (v_load64 rfl rfl row_29 LT_) rfl ?_
    refine s_val (v_idxA1 (j := 1) rfl rfl Try.underlying54 sz_29 (by omega)) rfl ?_
    refine s_val (v_load64 rfl rfl row_29 LT_) rfl ?_
    refine s_val (v_shl64n (j := 51) rfl rfl) rfl ?_
    refine s_val (v_or64 rfl rfl) rfl ?_
    refine s_val (v_idxA1 (j := 1) rfl rfl Try.underlying54 sz_29 (by omega)) rfl ?_
    refine s_val (v_load64 rfl rfl row_29 LT_) rfl ?_
    refine s_val (v_shr64n (j := 13) rfl rfl) rfl ?_
    refine s_val (v_idxA1 (j := 2) rfl rfl Try.underlying54 sz_29 (by omega)) rfl ?_
    refine s_val (v_load64 rfl rfl row_29 LT_) rfl ?_
    refine s_val (v_shl64n (j := 38) rfl rfl) rfl ?_
    refine s_val (v_or64 rfl rfl) rfl ?_
    refine s_val (v_idxA1 (j := 2) rfl rfl Try.underlying54 sz_29 (by omega)) rfl ?_
    refine s_val (v_load64 rfl rfl row_29 LT_) rfl ?_
    refine s_val (v_shr64n (j := 26) rfl rfl) rfl ?_
    refine s_val (v_idxA1 (j := 3) rfl rfl Try.underlying54 sz_29 (by omega)) rfl ?_
    refine s_val (v_load64 rfl rfl row_29 LT_) rfl ?_
    refine s_val (v_shl64n (j := 25) rfl rfl) rfl ?_
    refine s_val (v_or64 rfl rfl) rfl ?_
    refine s_val (v_idxA1 (j := 3) rfl rfl Try.underlying54 sz_29 (by omega)) rfl ?_
    refine s_val (v_load64 rfl rfl row_29 LT_) rfl ?_
    refine s_val (v_shr64n (j := 39) rfl rfl) rfl ?_
    refine s_val (v_idxA1 (j := 4) rfl rfl Try.underlying54 sz_29 (by omega)) rfl ?_
    refine s_val (v_load64 rfl rfl row_29 LT_) rfl ?_
    refine s_val (v_shl64n (j := 12) rfl rfl) rfl ?_
    refine s_val (v_or64 rfl rfl) rfl ?_
    refine s_val (v_bld64 (l := [_, _, _, _]) zc_37 Try.underlying37 sz_29 rfl rfl (by decide)) rfl ?_
    refine s_memN (m_alloc al_37 LEN_) APP_ rfl ?_
    refine s_storeR rfl rfl rfl rfl sz_37 EQ_ EQ_ SET_ ?_
    refine s_nil ?_
    refine S_ ?_
    refine c_region ?_
    refine s_memN (m_alloc al_22 LEN_) APP_ rfl ?_
    refine s_nil ?_
    refine S_ ?_
    refine c_region ?_
    refine s_val (v_moveC rfl) rfl ?_
    refine s_nil ?_
    refine S_ ?_
    refine c_loopC [2, 6, 7, 68] (fun (zz : Nat × List (BitVec 8)) => ⟨84, keepT [2, 6, 7, 68] [.c (.ptr 0 0), .c (.ptr 1 0), .c (.ptr 2 0), .c (.val (.int .i64 (((zz.1 : Nat) : Int))))], [.row true (.a8 (zer8 32)), .row true (.a64 ([(nth J10 0) ||| ((nth J10 1) <<< 51), ((nth J10 1) >>> 13) ||| ((nth J10 2) <<< 38), ((nth J10 2) >>> 26) ||| ((nth J10 3) <<< 25), ((nth J10 3) >>> 39) ||| ((nth J10 4) <<< 12)])), .row true (.a8 (zz.2))]⟩) (fun j17 => (j17, lmBytes_L17 J10 j17)) (32) (by kernel_rfl) ?_ ?_
    · intro j17 hj17
      try dsimp only
      have hX11 : (lmBytes_L17 J10 j17).length = 32 := by rw [lmBytes_L17_len J10 _]; try omega
      rw [lmBytes_L17.eq_2, lmBytes_L17_S]
      generalize lmBytes_L17 J10 j17 = X11 at *
      refine S_ ?_
      refine c_region ?_
      refine s_val (v_lssN (b := 32) rfl rfl) rfl ?_
      refine s_nil ?_
      refine S_ ?_
      refine c_region ?_
      refine s_val (v_moveC rfl) rfl ?_
      refine s_val (v_assignC rfl) rfl ?_
      refine s_nil ?_
      refine S_ ?_
      refine c_region ?_
      refine s_val (v_moveC rfl) rfl ?_
      refine s_val (v_moveC rfl) rfl ?_
      refine s_val (v_quoN (b := 8) rfl rfl (by omega) (by omega)) rfl ?_
      refine s_val (v_idxA1 rfl rfl Try.underlying37 sz_29 (by omega)) rfl ?_
      refine s_val (v_load64 rfl rfl row_29 LT_) rfl ?_
      refine s_val (v_moveC rfl) rfl ?_
      refine s_val (v_remN (b := 8) rfl rfl (by omega) (by omega)) rfl ?_
      refine s_val (v_mulN (a := 8) rfl rfl (by omega)) rfl ?_
      refine s_val (v_shr64n rfl rfl) rfl ?_
      refine s_val (v_conv rfl Try.underlying29 Try.underlying5 (w64_8 _)) rfl ?_
      refine s_val (v_idxA1 rfl rfl Try.underlying22 sz_5 (by omega)) rfl ?_
      refine s_store8 rfl rfl rfl sz_5 LT_ SET_ ?_
      refine s_nil ?_
      refine S_ ?_
      refine c_region ?_
      refine s_val (v_addN (b := 1) rfl rfl (by omega)) rfl ?_
      refine s_val (v_moveC rfl) rfl ?_
      refine s_nil ?_
      exact ⟨(j17 + 1, _), by kernel_rfl, rfl⟩
    · try dsimp only
      have hY12 : (lmBytes_L17 J10 32).length = 32 := by rw [lmBytes_L17_len J10 _]; try omega
      generalize lmBytes_L17 J10 32 = Y12 at *
      refine S_ ?_
      refine c_region ?_
      refine s_val (v_lssN (a := 32) (b := 32) rfl rfl) rfl ?_
      refine s_nil ?_
      refine S_ ?_
      refine c_region ?_
      refine s_val (v_loadR rfl rfl row_22 sz_22 EQ_ (by decide)) rfl ?_
      refine s_storeR rfl rfl rfl rfl sz_22 EQ_ EQ_ SET_ ?_
      refine s_nil ?_
      refine S_ ?_
      rw [hP.out]
      exact k_1 (r_row rfl rfl row_22 sz_22 EQ_ (by decide)) (by first | kernel_rfl | rfl)

@[simp] theorem lmBytes_len (a : List (BitVec 64)) (ha : a.length = 5) : (lmBytes a).length = 32 := by
  unfold lmBytes
  first | (simp (maxDischargeDepth := 9) [lmBytes_L6_len1, lmBytes_L17_len, *]; done) | (simp (maxDischargeDepth := 9) [lmBytes_L6_len1, lmBytes_L17_len, *]; omega) | (split <;> (simp (maxDischargeDepth := 9) [lmBytes_L6_len1, lmBytes_L17_len, *]; done))

attribute [irreducible] lmBytes
end Go.Proofs.Ytcekjmejppemeaa
/- limb.Small, limb.Add, limb.Sub (Drawn up by a program.) -/
namespace Go.Proofs.Ytcekjmejppemeaa
open Go.RowKit
def lmSmall (x : BitVec 64) : List (BitVec 64) := put (zer64 5) 0 x
set_option maxRecDepth 100000 in
set_option maxHeartbeats 2000000 in
theorem lmSmall_ev (x : BitVec 64)  : Ev Try.prog (.call 49 [.c (.val (U64 x))] []) (.val (.agg (.a64 (lmSmall x))) []) := by
  have hP : Hid (lmSmall x = put (zer64 5) 0 x) := ⟨rfl⟩
  refine c_call Try.func49 rfl Try.ntmps49 rfl LEN_ ?_
  refine S_ ?_
  refine c_region ?_
  refine s_memN (m_alloc al_54 LEN_) APP_ rfl ?_
  refine s_nil ?_
  refine S_ ?_
  refine c_region ?_
  refine s_val (v_moveC rfl) rfl ?_
  refine s_val (v_blo64 za_54 Try.underlying54 sz_29 rfl rfl rfl) rfl ?_
  refine s_storeR rfl rfl rfl rfl sz_54 EQ_ EQ_ SET_ ?_
  refine s_nil ?_
  refine S_ ?_
  rw [hP.out]
  exact k_1 (r_row rfl rfl row_54 sz_54 EQ_ (by decide)) (by first | kernel_rfl | rfl)

@[simp] theorem lmSmall_len (x : BitVec 64) : (lmSmall x).length = 5 := by
  unfold lmSmall
  first | (simp [*]; done) | (simp [*]; omega)

attribute [irreducible] lmSmall

def lmAdd_L2_S (b : List (BitVec 64)) (X1 : List (BitVec 64)) (j2 : Nat) : List (BitVec 64) := put X1 j2 ((nth X1 j2) + (nth b j2))
def lmAdd_L2 (a : List (BitVec 64)) (b : List (BitVec 64)) : Nat → List (BitVec 64)
  | 0 => a
  | j2 + 1 => lmAdd_L2_S b (lmAdd_L2 a b j2) j2
theorem lmAdd_L2_len (a : List (BitVec 64)) (b : List (BitVec 64)) (ha : a.length = 5) (j2 : Nat) : (lmAdd_L2 a b j2).length = 5 := by
  induction j2 with
  | zero => first | (simp [lmAdd_L2, *]; done) | (simp [lmAdd_L2, *]; omega)
  | succ j2 ih => rw [lmAdd_L2.eq_2, lmAdd_L2_S]; first | (simp [ih]; done) | (simp [ih]; omega) | (simp [*]; done) | (simp [*]; omega) | (split <;> first | (simp [ih]; done) | (simp [ih]; omega) | (simp [*]; done))
def lmAdd (a : List (BitVec 64)) (b : List (BitVec 64)) : List (BitVec 64) := lmCar (lmAdd_L2 a b 5)
set_option maxRecDepth 100000 in
set_option maxHeartbeats 2000000 in
theorem lmAdd_ev (a : List (BitVec 64)) (b : List (BitVec 64)) (ha : a.length = 5) (hb : b.length = 5) : Ev Try.prog (.call 46 [.agg (.a64 (a)), .agg (.a64 (b))] []) (.val (.agg (.a64 (lmAdd a b))) []) := by
  have hP : Hid (lmAdd a b = lmCar (lmAdd_L2 a b 5)) := ⟨rfl⟩
  refine c_call Try.func46 rfl Try.ntmps46 rfl LEN_ ?_
  refine S_ ?_
  refine c_region ?_
  refine s_memN (m_box BX_ LEN_) APP_ rfl ?_
  refine s_memN (m_box BX_ LEN_) APP_ rfl ?_
  refine s_memN (m_alloc al_54 LEN_) APP_ rfl ?_
  refine s_nil ?_
  refine S_ ?_
  refine c_region ?_
  refine s_val (v_moveC rfl) rfl ?_
  refine s_nil ?_
  refine S_ ?_
  refine c_loopC [2, 3, 4, 6] (fun (zz : Nat × List (BitVec 64)) => ⟨20, keepT [2, 3, 4, 6] [.c (.ptr 0 0), .c (.ptr 1 0), .c (.ptr 2 0), .c (.val (.int .i64 (((zz.1 : Nat) : Int))))], [.row true (.a64 (zz.2)), .row true (.a64 (b)), .row true (.a64 (zer64 5))]⟩) (fun j2 => (j2, lmAdd_L2 a b j2)) (5) (by kernel_rfl) ?_ ?_
  · intro j2 hj2
    try dsimp only
    have hX1 : (lmAdd_L2 a b j2).length = 5 := by rw [lmAdd_L2_len a b ha _]; try omega
    rw [lmAdd_L2.eq_2, lmAdd_L2_S]
    generalize lmAdd_L2 a b j2 = X1 at *
    refine S_ ?_
    refine c_region ?_
    refine s_val (v_lssN (b := 5) rfl rfl) rfl ?_
    refine s_nil ?_
    refine S_ ?_
    refine c_region ?_
    refine s_val (v_moveC rfl) rfl ?_
    refine s_val (v_assignC rfl) rfl ?_
    refine s_nil ?_
    refine S_ ?_
    refine c_draw 8 mixed (by kernel_rfl) rfl rfl rfl ?_
    refine h_val (v_moveC rfl) rfl ?_
    refine h_val (v_idxA1 rfl rfl Try.underlying54 sz_29 (by omega)) rfl ?_
    refine h_val (v_load64 rfl rfl row_29 LT_) rfl ?_
    refine h_val (v_moveC rfl) rfl ?_
    refine h_val (v_idxA1 rfl rfl Try.underlying54 sz_29 (by omega)) rfl ?_
    refine h_val (v_load64 rfl rfl row_29 LT_) rfl ?_
    refine h_val (v_add64 rfl rfl) rfl ?_
    refine h_val (v_idxA1 rfl rfl Try.underlying54 sz_29 (by omega)) rfl ?_
    refine h_nil ?_
    refine s_store64 rfl rfl rfl sz_29 LT_ SET_ ?_
    refine s_nil ?_
    refine S_ ?_
    refine c_region ?_
    refine s_val (v_addN (b := 1) rfl rfl (by omega)) rfl ?_
    refine s_val (v_moveC rfl) rfl ?_
    refine s_nil ?_
    exact ⟨(j2 + 1, _), by kernel_rfl, rfl⟩
  · try dsimp only
    have hY2 : (lmAdd_L2 a b 5).length = 5 := by rw [lmAdd_L2_len a b ha _]; try omega
    generalize lmAdd_L2 a b 5 = Y2 at *
    refine S_ ?_
    refine c_region ?_
    refine s_val (v_lssN (a := 5) (b := 5) rfl rfl) rfl ?_
    refine s_nil ?_
    have hQ3 : (lmCar Y2).length = 5 := LQ_
    refine S_ ?_
    refine c_region ?_
    refine s_val (v_loadR rfl rfl row_54 sz_54 EQ_ (by decide)) rfl ?_
    refine s_evN (e_callR (bs := []) (lmCar_ev Y2 HYP_) ok_76 (by kernel_rfl) (by kernel_rfl) rfl VAL_) APP_ rfl ?_
    refine s_storeR rfl rfl rfl rfl sz_54 EQ_ EQ_ SET_ ?_
    refine s_nil ?_
    refine S_ ?_
    rw [hP.out]
    exact k_1 (r_row rfl rfl row_54 sz_54 EQ_ (by decide)) (by first | kernel_rfl | rfl)

@[simp] theorem lmAdd_len (a : List (BitVec 64)) (b : List (BitVec 64)) (ha : a.length = 5) (hb : b.length = 5) : (lmAdd a b).length = 5 := by
  unfold lmAdd
  first | (simp [lmAdd_L2_len, *]; done) | (simp [lmAdd_L2_len, *]; omega)

attribute [irreducible] lmAdd

def lmSub_L3_S (b : List (BitVec 64)) (X1 : List (BitVec 64)) (j3 : Nat) : List (BitVec 64) := put X1 j3 ((nth X1 j3) + ((nth [9007199254740916#64, 9007199254740988#64, 9007199254740988#64, 9007199254740988#64, 9007199254740988#64] j3) - (nth b j3)))
def lmSub_L3 (a : List (BitVec 64)) (b : List (BitVec 64)) : Nat → List (BitVec 64)
  | 0 => a
  | j3 + 1 => lmSub_L3_S b (lmSub_L3 a b j3) j3
theorem lmSub_L3_len (a : List (BitVec 64)) (b : List (BitVec 64)) (ha : a.length = 5) (j3 : Nat) : (lmSub_L3 a b j3).length = 5 := by
  induction j3 with
  | zero => first | (simp [lmSub_L3, *]; done) | (simp [lmSub_L3, *]; omega)
  | succ j3 ih => rw [lmSub_L3.eq_2, lmSub_L3_S]; first | (simp [ih]; done) | (simp [ih]; omega) | (simp [*]; done) | (simp [*]; omega) | (split <;> first | (simp [ih]; done) | (simp [ih]; omega) | (simp [*]; done))
def lmSub (a : List (BitVec 64)) (b : List (BitVec 64)) : List (BitVec 64) := lmCar (lmSub_L3 a b 5)
set_option maxRecDepth 100000 in
set_option maxHeartbeats 2000000 in
theorem lmSub_ev (a : List (BitVec 64)) (b : List (BitVec 64)) (ha : a.length = 5) (hb : b.length = 5) : Ev Try.prog (.call 44 [.agg (.a64 (a)), .agg (.a64 (b))] []) (.val (.agg (.a64 (lmSub a b))) []) := by
  have hP : Hid (lmSub a b = lmCar (lmSub_L3 a b 5)) := ⟨rfl⟩
  refine c_call Try.func44 rfl Try.ntmps44 rfl LEN_ ?_
  refine S_ ?_
  refine c_region ?_
  refine s_memN (m_box BX_ LEN_) APP_ rfl ?_
  refine s_memN (m_box BX_ LEN_) APP_ rfl ?_
  refine s_memN (m_alloc al_54 LEN_) APP_ rfl ?_
  refine s_nil ?_
  refine S_ ?_
  refine c_region ?_
  refine s_val (v_bld64 (l := [9007199254740916#64, 9007199254740988#64, 9007199254740988#64, 9007199254740988#64, 9007199254740988#64]) zc_54 Try.underlying54 sz_29 rfl rfl (by decide)) rfl ?_
  refine s_memN (m_alloc al_54 LEN_) APP_ rfl ?_
  refine s_storeR rfl rfl rfl rfl sz_54 EQ_ EQ_ SET_ ?_
  refine s_nil ?_
  refine S_ ?_
  refine c_region ?_
  refine s_val (v_moveC rfl) rfl ?_
  refine s_nil ?_
  refine S_ ?_
  refine c_loopC [2, 3, 4, 5, 8] (fun (zz : Nat × List (BitVec 64)) => ⟨26, keepT [2, 3, 4, 5, 8] [.c (.ptr 0 0), .c (.ptr 1 0), .c (.ptr 2 0), .c (.ptr 3 0), .c (.val (.int .i64 (((zz.1 : Nat) : Int))))], [.row true (.a64 (zz.2)), .row true (.a64 (b)), .row true (.a64 (zer64 5)), .row true (.a64 ([9007199254740916#64, 9007199254740988#64, 9007199254740988#64, 9007199254740988#64, 9007199254740988#64]))]⟩) (fun j3 => (j3, lmSub_L3 a b j3)) (5) (by kernel_rfl) ?_ ?_
  · intro j3 hj3
    try dsimp only
    have hX1 : (lmSub_L3 a b j3).length = 5 := by rw [lmSub_L3_len a b ha _]; try omega
    rw [lmSub_L3.eq_2, lmSub_L3_S]
    generalize lmSub_L3 a b j3 = X1 at *
    refine S_ ?_
    refine c_region ?_
    refine s_val (v_lssN (b := 5) rfl rfl) rfl ?_
    refine s_nil ?_
    refine S_ ?_
    refine c_region ?_
    refine s_val (v_moveC rfl) rfl ?_
    refine s_val (v_assignC rfl) rfl ?_
    refine s_nil ?_
    refine S_ ?_
    refine c_draw 12 mixed (by kernel_rfl) rfl rfl rfl ?_
    refine h_val (v_moveC rfl) rfl ?_
    refine h_val (v_idxA1 rfl rfl Try.underlying54 sz_29 (by omega)) rfl ?_
    refine h_val (v_load64 rfl rfl row_29 LT_) rfl ?_
    refine h_val (v_moveC rfl) rfl ?_
    refine h_val (v_idxA1 rfl rfl Try.underlying54 sz_29 (by omega)) rfl ?_
    refine h_val (v_load64 rfl rfl row_29 LT_) rfl ?_
    refine h_val (v_moveC rfl) rfl ?_
    refine h_val (v_idxA1 rfl rfl Try.underlying54 sz_29 (by omega)) rfl ?_
    refine h_val (v_load64 rfl rfl row_29 LT_) rfl ?_
    refine h_val (v_sub64 rfl rfl) rfl ?_
    refine h_val (v_add64 rfl rfl) rfl ?_
    refine h_val (v_idxA1 rfl rfl Try.underlying54 sz_29 (by omega)) rfl ?_
    refine h_nil ?_
    refine s_store64 rfl rfl rfl sz_29 LT_ SET_ ?_
    refine s_nil ?_
    refine S_ ?_
    refine c_region ?_
    refine s_val (v_addN (b := 1) rfl rfl (by omega)) rfl ?_
    refine s_val (v_moveC rfl) rfl ?_
    refine s_nil ?_
    exact ⟨(j3 + 1, _), by kernel_rfl, rfl⟩
  · try dsimp only
    have hY2 : (lmSub_L3 a b 5).length = 5 := by rw [lmSub_L3_len a b ha _]; try omega
    generalize lmSub_L3 a b 5 = Y2 at *
    refine S_ ?_
    refine c_region ?_
    refine s_val (v_lssN (a := 5) (b := 5) rfl rfl) rfl ?_
    refine s_nil ?_
    have hQ3 : (lmCar Y2).length = 5 := LQ_
    refine S_ ?_
    refine c_region ?_
    refine s_val (v_loadR rfl rfl row_54 sz_54 EQ_ (by decide)) rfl ?_
    refine s_evN (e_callR (bs := []) (lmCar_ev Y2 HYP_) ok_76 (by kernel_rfl) (by kernel_rfl) rfl VAL_) APP_ rfl ?_
    refine s_storeR rfl rfl rfl rfl sz_54 EQ_ EQ_ SET_ ?_
    refine s_nil ?_
    refine S_ ?_
    rw [hP.out]
    exact k_1 (r_row rfl rfl row_54 sz_54 EQ_ (by decide)) (by first | kernel_rfl | rfl)

@[simp] theorem lmSub_len (a : List (BitVec 64)) (b : List (BitVec 64)) (ha : a.length = 5) (hb : b.length = 5) : (lmSub a b).length = 5 := by
  unfold lmSub
  first | (simp [lmSub_L3_len, *]; done) | (simp [lmSub_L3_len, *]; omega)

attribute [irreducible] lmSub
end Go.Proofs.Ytcekjmejppemeaa
