/- The texts AvTac2, AvTac3, AvMore, AvTac4, AvMore2, AvTy, AFull, SRot, CQuarter, CLow, CBlock, CXor, PLow, PWord, PCarry, PTimes, PTagEnd, merged into one. -/
import Derived.Test.YtcjponmaeamjdaaGA2
/- Abstract data: further steps of a walk: slices, literals, appending, calls. -/
namespace Go.Proofs.Ytcjponmaeamjdaa
open Go.RowKit
section
variable {P : Program} {k N : Nat} {ops : Array Oper} {d : Nat} {ty : TypeId} {pos : String} {af : Array Edge} {l0 : List Oper} {T : Nat → AV} {M M' : Mem} {K : St → Prop} {t t' : TypeId}
theorem v_lenS {x : Operand} {b o n cap sz el : Nat} (hx : opnd T x = .c (.sl b o n cap sz)) (hu : P.underlying t = some (.slice el)) : evVal P (opnd T) M (.call { callee := .builtin .len, args := #[x], argTypes := #[t] }) = some (.c (.val (.int .i64 (n : Int)))) := by
  show evLen P t (opnd T x) = _
  rw [hx]; simp [evLen, isSliceT, hu]
theorem v_lenN {x : Operand} {el : Nat} (hx : opnd T x = .c .nsl) (hu : P.underlying t = some (.slice el)) : evVal P (opnd T) M (.call { callee := .builtin .len, args := #[x], argTypes := #[t] }) = some (.c (.val (.int .i64 ((0 : Nat) : Int)))) := by
  show evLen P t (opnd T x) = _
  rw [hx]; simp [evLen, isSliceT, hu]
theorem v_lenE {x : Operand} {el : Nat} (hx : opnd T x = .c .esl) (hu : P.underlying t = some (.slice el)) : evVal P (opnd T) M (.call { callee := .builtin .len, args := #[x], argTypes := #[t] }) = some (.c (.val (.int .i64 ((0 : Nat) : Int)))) := by
  show evLen P t (opnd T x) = _
  rw [hx]; simp [evLen, isSliceT, hu]
theorem v_lenA {x : Operand} {n el : Nat} {y : Arr} (hu : P.underlying t = some (.array n el)) (hx : opnd T x = .agg y) : evVal P (opnd T) M (.call { callee := .builtin .len, args := #[x], argTypes := #[t] }) = some (.c (.val (.int .i64 (n : Int)))) := by
  show evLen P t (opnd T x) = _
  rw [hx]; simp [evLen, hu]
theorem v_lenP {x : Operand} {n el b o : Nat} (hu : P.underlying t = some (.array n el)) (hx : opnd T x = .c (.ptr b o)) : evVal P (opnd T) M (.call { callee := .builtin .len, args := #[x], argTypes := #[t] }) = some (.c (.val (.int .i64 (n : Int)))) := by
  show evLen P t (opnd T x) = _
  rw [hx]; simp [evLen, hu]
theorem v_minN {x y : Operand} {ts : Array TypeId} {a b : Nat} (hx : opnd T x = .c (.val (.int .i64 (a : Int)))) (hy : opnd T y = .c (.val (.int .i64 (b : Int)))) : evVal P (opnd T) M (.call { callee := .builtin .min, args := #[x, y], argTypes := ts }) = some (.c (.val (.int .i64 ((min a b : Nat) : Int)))) := by
  show evMin [opnd T x, opnd T y] = _
  rw [hx, hy]; simp only [evMin, if_true]
  congr 4
  split <;> omega
theorem v_maxN {x y : Operand} {ts : Array TypeId} {a b : Nat} (hx : opnd T x = .c (.val (.int .i64 (a : Int)))) (hy : opnd T y = .c (.val (.int .i64 (b : Int)))) : evVal P (opnd T) M (.call { callee := .builtin .max, args := #[x, y], argTypes := ts }) = some (.c (.val (.int .i64 ((max a b : Nat) : Int)))) := by
  show evMax [opnd T x, opnd T y] = _
  rw [hx, hy]; simp only [evMax, if_true]
  congr 4
  split <;> omega
theorem v_arrP {x : Operand} {n el b o len cap sz : Nat} (hx : opnd T x = .c (.sl b o len cap sz)) (hu : P.underlying t = some (.array n el)) (h1 : n ≤ len) (h0 : 0 < n) : evVal P (opnd T) M (.sliceToArrayPointer t x) = some (.c (.ptr b o)) := by
  show evArrPtr P t (opnd T x) = _
  rw [hx]; simp [evArrPtr, hu, h1, h0]
theorem v_slA {x : Operand} {lo hi : Option Operand} {n el b o sz l h : Nat} {own : Bool} {y : Arr} (hx : opnd T x = .c (.ptr b o)) (hu : P.underlying t = some (.array n el)) (hs : szT P el = some sz) (hm : M[b]? = some (.row own y))
    (hl : bnd 0 (lo.map (opnd T)) = some (l : Int)) (hh : bnd n (hi.map (opnd T)) = some (h : Int)) (h1 : l ≤ h) (h2 : h ≤ n) (hf : o + n * sz ≤ y.size) : evVal P (opnd T) M (.slice t x lo hi none) = some (.c (.sl b (o + l * sz) (h - l) (n - l) sz)) := by
  show evSlice P M t (opnd T x) (lo.map (opnd T)) (hi.map (opnd T)) = _
  rw [hx]
  simp only [evSlice, hu, hs, hl, hh, hm]
  rw [if_pos ⟨by omega, by omega, by omega, hf⟩]
  congr 3 <;> omega
theorem v_slA1 {x : Operand} {lo hi : Option Operand} {n el b l h len cp : Nat} {own : Bool} {y : Arr} (hx : opnd T x = .c (.ptr b 0)) (hu : P.underlying t = some (.array n el)) (hs : szT P el = some 1) (hm : M[b]? = some (.row own y))
    (hl : bnd 0 (lo.map (opnd T)) = some (l : Int)) (hh : bnd n (hi.map (opnd T)) = some (h : Int)) (h1 : l ≤ h) (h2 : h ≤ n) (hf : n ≤ y.size) (hlen : h - l = len) (hcp : n - l = cp) : evVal P (opnd T) M (.slice t x lo hi none) = some (.c (.sl b l len cp 1)) := by
  subst hlen; subst hcp
  rw [v_slA hx hu hs hm hl hh h1 h2 (by omega), Nat.zero_add, Nat.mul_one]
theorem v_slS {x : Operand} {lo hi : Option Operand} {el b o sz len cap l h : Nat} (hx : opnd T x = .c (.sl b o len cap sz)) (hu : P.underlying t = some (.slice el)) (hs : szT P el = some sz)
    (hl : bnd 0 (lo.map (opnd T)) = some (l : Int)) (hh : bnd len (hi.map (opnd T)) = some (h : Int)) (h1 : l ≤ h) (h2 : h ≤ max len cap) : evVal P (opnd T) M (.slice t x lo hi none) = some (.c (.sl b (o + l * sz) (h - l) (cap - l) sz)) := by
  show evSlice P M t (opnd T x) (lo.map (opnd T)) (hi.map (opnd T)) = _
  rw [hx]
  simp only [evSlice, hu, hl, hh]
  rw [if_pos ⟨hs, by omega, by omega, by omega⟩]
  congr 3 <;> omega
theorem v_slS1 {x : Operand} {lo hi : Option Operand} {el b len cap l h : Nat} (hx : opnd T x = .c (.sl b 0 len cap 1)) (hu : P.underlying t = some (.slice el)) (hs : szT P el = some 1)
    (hl : bnd 0 (lo.map (opnd T)) = some (l : Int)) (hh : bnd len (hi.map (opnd T)) = some (h : Int)) (h1 : l ≤ h) (h2 : h ≤ max len cap) : evVal P (opnd T) M (.slice t x lo hi none) = some (.c (.sl b l (h - l) (cap - l) 1)) := by
  rw [v_slS hx hu hs hl hh h1 h2, Nat.zero_add, Nat.mul_one]
theorem v_slSo {x : Operand} {lo hi : Option Operand} {el b o len cap l h : Nat} (hx : opnd T x = .c (.sl b o len cap 1)) (hu : P.underlying t = some (.slice el)) (hs : szT P el = some 1)
    (hl : bnd 0 (lo.map (opnd T)) = some (l : Int)) (hh : bnd len (hi.map (opnd T)) = some (h : Int)) (h1 : l ≤ h) (h2 : h ≤ max len cap) : evVal P (opnd T) M (.slice t x lo hi none) = some (.c (.sl b (o + l) (h - l) (cap - l) 1)) := by
  rw [v_slS hx hu hs hl hh h1 h2, Nat.mul_one]
theorem v_slS0 {x : Operand} {hi : Option Operand} {el b o sz len cap h : Nat} (hx : opnd T x = .c (.sl b o len cap sz)) (hu : P.underlying t = some (.slice el)) (hs : szT P el = some sz)
    (hh : bnd len (hi.map (opnd T)) = some (h : Int)) (h2 : h ≤ max len cap) : evVal P (opnd T) M (.slice t x none hi none) = some (.c (.sl b o h cap sz)) := by
  rw [v_slS (lo := none) (l := 0) hx hu hs rfl hh (Nat.zero_le _) h2]; simp
/- literals -/
theorem all_map {α : Type} {f : Value → Option α} {g : α → Value} (h : ∀ x, f (g x) = some x) : ∀ l : List α, all? f (l.map g) = some l
  | [] => rfl
  | x :: l => by simp [all?, h, all_map h l]
theorem abs8 (l : List (BitVec 8)) : absArr (l.map U8) = .a8 l := by unfold absArr; rw [all_map w8?_U8]
theorem all_none {α β : Type} {f : Value → Option α} {g : β → Value} (h : ∀ x, f (g x) = none) : ∀ l : List β, l ≠ [] → all? f (l.map g) = none
  | [], hl => absurd rfl hl
  | x :: l, _ => by simp [all?, h]
theorem abs32 {l : List (BitVec 32)} (hl : l ≠ []) : absArr (l.map U32) = .a32 l := by unfold absArr; rw [all_none (fun _ => rfl) l hl, all_map w32?_U32]
theorem abs64 {l : List (BitVec 64)} (hl : l ≠ []) : absArr (l.map U64) = .a64 l := by unfold absArr; rw [all_none (fun _ => rfl) l hl, all_none (fun _ => rfl) l hl, all_map w64?_U64]
theorem absI {l : List Int} (hl : l ≠ []) : absArr (l.map (Value.int .i64)) = .ai l := by unfold absArr; rw [all_none (fun _ => rfl) l hl, all_none (fun _ => rfl) l hl, all_none (fun _ => rfl) l hl, all_map (f := i?) (g := Value.int .i64) (fun _ => rfl)]
theorem m_bs0 {el sz by' : Nat} (hu : P.underlying t = some (.slice el)) (he : elemOk P el = some (sz, by')) : evMem P (opnd T) M (.buildSlice t 0 #[]) = some (.c .esl, M ++ []) := by
  show evBuildSlice P M t 0 [] = _
  simp [evBuildSlice, hu, he]
theorem m_bs {el by' len n : Nat} {ps : Array (Nat × Operand)} {vs : List Value} (hu : P.underlying t = some (.slice el)) (he : elemOk P el = some (1, by')) (hd : denseA 0 (ps.toList.map fun p => (p.1, opnd T p.2)) = some vs) (hl : ps.toList.length = len) (h0 : ¬ len = 0) (h1 : len ≤ 16777216) (hn : M.length = n) :
    evMem P (opnd T) M (.buildSlice t len ps) = some (.c (.sl n 0 len len 1), M ++ [.row true (absArr vs)]) := by
  show evBuildSlice P M t len (ps.toList.map fun p => (p.1, opnd T p.2)) = _
  subst hn
  simp only [evBuildSlice, hu, he, Nat.mul_one]
  rw [if_neg h0, if_pos h1, if_pos ⟨trivial, by simpa using hl⟩, hd]
theorem m_bs8 {l : List (BitVec 8)} {el by' len n : Nat} {ps : Array (Nat × Operand)} (hu : P.underlying t = some (.slice el)) (he : elemOk P el = some (1, by')) (hd : denseA 0 (ps.toList.map fun p => (p.1, opnd T p.2)) = some (l.map U8)) (hl : ps.toList.length = len) (h0 : ¬ len = 0) (h1 : len ≤ 16777216) (hn : M.length = n) :
    evMem P (opnd T) M (.buildSlice t len ps) = some (.c (.sl n 0 len len 1), M ++ [.row true (.a8 l)]) := by
  have hn0 : l ≠ [] := by
    intro e; subst e
    have := denseA_len hd
    have h9 : ps.toList.length = ps.size := by simp
    simp at this
    omega
  rw [m_bs hu he hd hl h0 h1 hn, abs8 l]
theorem v_bld8 {l : List (BitVec 8)} {n el : Nat} {ps : Array (Nat × Operand)} (hz : (P.info? t).bind (fun i => i.zero.map (·.cells.size)) = some n) (hu : P.underlying t = some (.array n el)) (hs : szT P el = some 1) (hd : denseA 0 (ps.toList.map fun p => (p.1, opnd T p.2)) = some (l.map U8)) (hl : ps.toList.length = n) (h0 : ¬ n = 0) :
    evVal P (opnd T) M (.build t ps) = some (.agg (.a8 l)) := by
  show evBuild P t (ps.toList.map fun p => (p.1, opnd T p.2)) = _
  obtain ⟨it, hi, hz2⟩ := Option.bind_eq_some_iff.1 hz
  obtain ⟨z, hz3, hz4⟩ := Option.map_eq_some_iff.1 hz2
  obtain ⟨ie, hie, h1⟩ := Option.map_eq_some_iff.1 hs
  have hn0 : l ≠ [] := by
    intro e; subst e
    have := denseA_len hd
    have h9 : ps.toList.length = ps.size := by simp
    simp at this
    omega
  simp only [evBuild, hi, hu, hz3, hie]
  rw [if_pos ⟨h1, by simpa using hl, hz4⟩, hd]
  simp only [abs8 l]
theorem v_ix8 {x i : Operand} {n el j : Nat} {kd : IntKind} {y : List (BitVec 8)} (hx : opnd T x = .agg (.a8 y)) (hi : opnd T i = .c (.val (.int kd (j : Int)))) (hu : P.underlying t = some (.array n el)) (hs : szT P el = some 1) (hr : isRowT P el = some false) (h0 : j < n) (hl : j < y.length) :
    evVal P (opnd T) M (.index t x i) = some (.c (.val (U8 (nth y j)))) := by
  show evIdx P t (opnd T x) (opnd T i) = _
  rw [hx, hi]
  have h1 : (0 : Int) ≤ (j : Int) ∧ (j : Int) < (n : Int) := by omega
  simp only [evIdx, hu, intOf?, hs, h1, and_self, if_true, Int.toNat_natCast, Nat.mul_one, partA, hr]
  rw [if_pos (show j < Arr.size (.a8 y) from hl)]
  rfl
theorem m_make8 {x y : Operand} {el by' a b n : Nat} {ka kb : IntKind} (hu : P.underlying t = some (.slice el)) (hx : opnd T x = .c (.val (.int ka (a : Int)))) (hy : opnd T y = .c (.val (.int kb (b : Int)))) (he : elemOk P el = some (1, by')) (hrep : ∀ n, repArr P el n = some (.a8 (zer8 n))) (h1 : a ≤ b) (h2 : b * by' ≤ 281474976710656) (h3 : b ≤ 9223372036854775807) (hn : M.length = n) :
    evMem P (opnd T) M (.makeSlice t x y) = some (.c (.sl n 0 a b 1), M ++ [.row true (.a8 (zer8 b))]) := by
  show evMakeSlice P M t (opnd T x) (opnd T y) = _
  subst hn
  rw [hx, hy]
  simp only [evMakeSlice, hu, intOf?, he]
  rw [if_pos ⟨by omega, by omega, by rw [← Int.natCast_mul]; omega, by omega⟩]
  simp [hrep]
theorem m_appE8 {s x : Operand} {el by' b n c m : Nat} {own : Bool} {r : List (BitVec 8)} {e2 : TypeId} (hs : opnd T s = .c .esl) (hx : opnd T x = .c (.sl b 0 n c 1)) (hm : M[b]? = some (.row own (.a8 r))) (hu : P.underlying t = some (.slice el)) (hu2 : P.underlying t' = some (.slice e2)) (he : elemOk P el = some (1, by')) (hl : r.length = n) (hb : n * by' ≤ 140737488355328 ∧ n ≤ 9223372036854775807) (hn : M.length = m) :
    evMem P (opnd T) M (.call { callee := .builtin .append, args := #[s, x], argTypes := #[t, t'] }) = some (.c (.sl m 0 n n 1), M ++ [.row true (.a8 r)]) := by
  show evAppend P M t t' (opnd T s) (opnd T x) = _
  subst hn
  rw [hs, hx]
  have hz : Arr.size (.a8 r) = n := hl
  simp [evAppend, hu, noIntT, hu2, he, srcOf, hm, hz, winA, Arr.one, hb.1, hb.2]
theorem m_appE8c {s x : Operand} {el by' b o n c m : Nat} {own : Bool} {r : List (BitVec 8)} {e2 : TypeId} (hs : opnd T s = .c .esl) (hx : opnd T x = .c (.sl b o n c 1)) (hm : M[b]? = some (.row own (.a8 r))) (hu : P.underlying t = some (.slice el)) (hu2 : P.underlying t' = some (.slice e2)) (he : elemOk P el = some (1, by')) (hl : o + n ≤ r.length) (hb : n * by' ≤ 140737488355328 ∧ n ≤ 9223372036854775807) (hn : M.length = m) :
    evMem P (opnd T) M (.call { callee := .builtin .append, args := #[s, x], argTypes := #[t, t'] }) = some (.c (.sl m 0 n n 1), M ++ [.row true (.a8 (cut r o n))]) := by
  show evAppend P M t t' (opnd T s) (opnd T x) = _
  subst hn
  rw [hs, hx]
  have hw : winA (.a8 r) o (n * 1) = .a8 (cut r o n) := by
    unfold winA
    split
    · rename_i h
      have h2 : r.length = n := by have := h.2; simp [Arr.size] at this; omega
      rw [h.1]; subst h2; simp [cut]
    · rw [Nat.mul_one]; rfl
  have hsz : o + n * 1 ≤ Arr.size (.a8 r) := by simp [Arr.size]; exact hl
  have hsrc : srcOf M 1 (.c (.sl b o n c 1)) = some (n, .a8 (cut r o n)) := by
    simp only [srcOf, hm]
    rw [if_pos ⟨trivial, hsz⟩, hw]
  simp [evAppend, hu, noIntT, hu2, he, hsrc, Arr.one, hb.1, hb.2]
theorem m_appN8 {s x : Operand} {el by' b n c m : Nat} {own : Bool} {r : List (BitVec 8)} {e2 : TypeId} (hs : opnd T s = .c .nsl) (hx : opnd T x = .c (.sl b 0 n c 1)) (hm : M[b]? = some (.row own (.a8 r))) (hu : P.underlying t = some (.slice el)) (hu2 : P.underlying t' = some (.slice e2)) (he : elemOk P el = some (1, by')) (hl : r.length = n) (hb : n * by' ≤ 140737488355328 ∧ n ≤ 9223372036854775807) (hn : M.length = m) :
    evMem P (opnd T) M (.call { callee := .builtin .append, args := #[s, x], argTypes := #[t, t'] }) = some (.c (.sl m 0 n n 1), M ++ [.row true (.a8 r)]) := by
  show evAppend P M t t' (opnd T s) (opnd T x) = _
  subst hn
  rw [hs, hx]
  have hz : Arr.size (.a8 r) = n := hl
  simp [evAppend, hu, noIntT, hu2, he, srcOf, hm, hz, winA, Arr.one, hb.1, hb.2]
theorem m_appN8c {s x : Operand} {el by' b o n c m : Nat} {own : Bool} {r : List (BitVec 8)} {e2 : TypeId} (hs : opnd T s = .c .nsl) (hx : opnd T x = .c (.sl b o n c 1)) (hm : M[b]? = some (.row own (.a8 r))) (hu : P.underlying t = some (.slice el)) (hu2 : P.underlying t' = some (.slice e2)) (he : elemOk P el = some (1, by')) (hl : o + n ≤ r.length) (hb : n * by' ≤ 140737488355328 ∧ n ≤ 9223372036854775807) (hn : M.length = m) :
    evMem P (opnd T) M (.call { callee := .builtin .append, args := #[s, x], argTypes := #[t, t'] }) = some (.c (.sl m 0 n n 1), M ++ [.row true (.a8 (cut r o n))]) := by
  show evAppend P M t t' (opnd T s) (opnd T x) = _
  subst hn
  rw [hs, hx]
  have hw : winA (.a8 r) o (n * 1) = .a8 (cut r o n) := by
    unfold winA
    split
    · rename_i h
      have h2 : r.length = n := by have := h.2; simp [Arr.size] at this; omega
      rw [h.1]; subst h2; simp [cut]
    · rw [Nat.mul_one]; rfl
  have hsz : o + n * 1 ≤ Arr.size (.a8 r) := by simp [Arr.size]; exact hl
  have hsrc : srcOf M 1 (.c (.sl b o n c 1)) = some (n, .a8 (cut r o n)) := by
    simp only [srcOf, hm]
    rw [if_pos ⟨trivial, hsz⟩, hw]
  simp [evAppend, hu, noIntT, hu2, he, hsrc, Arr.one, hb.1, hb.2]
theorem s_app8 {s x : Operand} {el by' b0 len cap b n c m : Nat} {own : Bool} {u r : List (BitVec 8)} {e2 : TypeId} (hs : opnd T s = .c (.sl b0 0 len cap 1)) (hms : M[b0]? = some (.row true (.a8 u))) (hx : opnd T x = .c (.sl b 0 n c 1)) (hm : M[b]? = some (.row own (.a8 r))) (hu : P.underlying t = some (.slice el)) (hu2 : P.underlying t' = some (.slice e2)) (he : elemOk P el = some (1, by'))
    (hlu : u.length = len) (hl : r.length = n) (hb : (len + n) * by' ≤ 140737488355328 ∧ len + n ≤ 9223372036854775807 ∧ n * by' ≤ 140737488355328) (hn : M.length = m) (hM : M.set b0 .dead ++ [.row true (.a8 (u ++ r))] = M') (hd : decide (d < N) = true) (hk : WO P k ops l0 ⟨N, upd T d (.c (.sl m 0 (len + n) (len + n) 1)), M'⟩ K) :
    WO P k ops (⟨some d, .call { callee := .builtin .append, args := #[s, x], argTypes := #[t, t'] }, ty, pos, af, none⟩ :: l0) ⟨N, T, M⟩ K :=
  s_mem (by
    show evAppend P M t t' (opnd T s) (opnd T x) = _
    subst hn; subst hM
    rw [hs, hx]
    have hz : Arr.size (.a8 r) = n := hl
    have hz2 : Arr.size (.a8 u) = len := hlu
    have hn9 : n ≤ 9223372036854775807 := by omega
    simp [evAppend, hu, noIntT, hu2, he, srcOf, hm, hms, hz, hz2, winA, Arr.one, Arr.app, hb.1, hb.2.1, hb.2.2, hn9]) hd hk
theorem s_app8c {s x : Operand} {el by' b0 len cap b o n c m : Nat} {own : Bool} {u r : List (BitVec 8)} {e2 : TypeId} (hs : opnd T s = .c (.sl b0 0 len cap 1)) (hms : M[b0]? = some (.row true (.a8 u))) (hx : opnd T x = .c (.sl b o n c 1)) (hm : M[b]? = some (.row own (.a8 r))) (hu : P.underlying t = some (.slice el)) (hu2 : P.underlying t' = some (.slice e2)) (he : elemOk P el = some (1, by'))
    (hlu : u.length = len) (hl : o + n ≤ r.length) (hb : (len + n) * by' ≤ 140737488355328 ∧ len + n ≤ 9223372036854775807 ∧ n * by' ≤ 140737488355328) (hn : M.length = m) (hM : M.set b0 .dead ++ [.row true (.a8 (u ++ cut r o n))] = M') (hd : decide (d < N) = true) (hk : WO P k ops l0 ⟨N, upd T d (.c (.sl m 0 (len + n) (len + n) 1)), M'⟩ K) :
    WO P k ops (⟨some d, .call { callee := .builtin .append, args := #[s, x], argTypes := #[t, t'] }, ty, pos, af, none⟩ :: l0) ⟨N, T, M⟩ K :=
  s_mem (by
    show evAppend P M t t' (opnd T s) (opnd T x) = _
    subst hn; subst hM
    rw [hs, hx]
    have hw : winA (.a8 r) o (n * 1) = .a8 (cut r o n) := by
      unfold winA
      split
      · rename_i h
        have h2 : r.length = n := by have := h.2; simp [Arr.size] at this; omega
        rw [h.1]; subst h2; simp [cut]
      · rw [Nat.mul_one]; rfl
    have hsz : o + n * 1 ≤ Arr.size (.a8 r) := by simp [Arr.size]; exact hl
    have hsrc : srcOf M 1 (.c (.sl b o n c 1)) = some (n, .a8 (cut r o n)) := by
      simp only [srcOf, hm]
      rw [if_pos ⟨trivial, hsz⟩, hw]
    have hz2 : Arr.size (.a8 u) = len := hlu
    have hn9 : n ≤ 9223372036854775807 := by omega
    simp [evAppend, hu, noIntT, hu2, he, hsrc, hms, hz2, winA, Arr.one, Arr.app, hb.1, hb.2.1, hb.2.2, hn9]) hd hk
theorem m_bs32 {l : List (BitVec 32)} {el by' len n : Nat} {ps : Array (Nat × Operand)} (hu : P.underlying t = some (.slice el)) (he : elemOk P el = some (1, by')) (hd : denseA 0 (ps.toList.map fun p => (p.1, opnd T p.2)) = some (l.map U32)) (hl : ps.toList.length = len) (h0 : ¬ len = 0) (h1 : len ≤ 16777216) (hn : M.length = n) :
    evMem P (opnd T) M (.buildSlice t len ps) = some (.c (.sl n 0 len len 1), M ++ [.row true (.a32 l)]) := by
  have hn0 : l ≠ [] := by
    intro e; subst e
    have := denseA_len hd
    have h9 : ps.toList.length = ps.size := by simp
    simp at this
    omega
  rw [m_bs hu he hd hl h0 h1 hn, abs32 hn0]
theorem v_bld32 {l : List (BitVec 32)} {n el : Nat} {ps : Array (Nat × Operand)} (hz : (P.info? t).bind (fun i => i.zero.map (·.cells.size)) = some n) (hu : P.underlying t = some (.array n el)) (hs : szT P el = some 1) (hd : denseA 0 (ps.toList.map fun p => (p.1, opnd T p.2)) = some (l.map U32)) (hl : ps.toList.length = n) (h0 : ¬ n = 0) :
    evVal P (opnd T) M (.build t ps) = some (.agg (.a32 l)) := by
  show evBuild P t (ps.toList.map fun p => (p.1, opnd T p.2)) = _
  obtain ⟨it, hi, hz2⟩ := Option.bind_eq_some_iff.1 hz
  obtain ⟨z, hz3, hz4⟩ := Option.map_eq_some_iff.1 hz2
  obtain ⟨ie, hie, h1⟩ := Option.map_eq_some_iff.1 hs
  have hn0 : l ≠ [] := by
    intro e; subst e
    have := denseA_len hd
    have h9 : ps.toList.length = ps.size := by simp
    simp at this
    omega
  simp only [evBuild, hi, hu, hz3, hie]
  rw [if_pos ⟨h1, by simpa using hl, hz4⟩, hd]
  simp only [abs32 hn0]
theorem v_ix32 {x i : Operand} {n el j : Nat} {kd : IntKind} {y : List (BitVec 32)} (hx : opnd T x = .agg (.a32 y)) (hi : opnd T i = .c (.val (.int kd (j : Int)))) (hu : P.underlying t = some (.array n el)) (hs : szT P el = some 1) (hr : isRowT P el = some false) (h0 : j < n) (hl : j < y.length) :
    evVal P (opnd T) M (.index t x i) = some (.c (.val (U32 (nth y j)))) := by
  show evIdx P t (opnd T x) (opnd T i) = _
  rw [hx, hi]
  have h1 : (0 : Int) ≤ (j : Int) ∧ (j : Int) < (n : Int) := by omega
  simp only [evIdx, hu, intOf?, hs, h1, and_self, if_true, Int.toNat_natCast, Nat.mul_one, partA, hr]
  rw [if_pos (show j < Arr.size (.a32 y) from hl)]
  rfl
theorem m_make32 {x y : Operand} {el by' a b n : Nat} {ka kb : IntKind} (hu : P.underlying t = some (.slice el)) (hx : opnd T x = .c (.val (.int ka (a : Int)))) (hy : opnd T y = .c (.val (.int kb (b : Int)))) (he : elemOk P el = some (1, by')) (hrep : ∀ n, repArr P el n = some (.a32 (zer32 n))) (h1 : a ≤ b) (h2 : b * by' ≤ 281474976710656) (h3 : b ≤ 9223372036854775807) (hn : M.length = n) :
    evMem P (opnd T) M (.makeSlice t x y) = some (.c (.sl n 0 a b 1), M ++ [.row true (.a32 (zer32 b))]) := by
  show evMakeSlice P M t (opnd T x) (opnd T y) = _
  subst hn
  rw [hx, hy]
  simp only [evMakeSlice, hu, intOf?, he]
  rw [if_pos ⟨by omega, by omega, by rw [← Int.natCast_mul]; omega, by omega⟩]
  simp [hrep]
theorem m_appE32 {s x : Operand} {el by' b n c m : Nat} {own : Bool} {r : List (BitVec 32)} {e2 : TypeId} (hs : opnd T s = .c .esl) (hx : opnd T x = .c (.sl b 0 n c 1)) (hm : M[b]? = some (.row own (.a32 r))) (hu : P.underlying t = some (.slice el)) (hu2 : P.underlying t' = some (.slice e2)) (he : elemOk P el = some (1, by')) (hl : r.length = n) (hb : n * by' ≤ 140737488355328 ∧ n ≤ 9223372036854775807) (hn : M.length = m) :
    evMem P (opnd T) M (.call { callee := .builtin .append, args := #[s, x], argTypes := #[t, t'] }) = some (.c (.sl m 0 n n 1), M ++ [.row true (.a32 r)]) := by
  show evAppend P M t t' (opnd T s) (opnd T x) = _
  subst hn
  rw [hs, hx]
  have hz : Arr.size (.a32 r) = n := hl
  simp [evAppend, hu, noIntT, hu2, he, srcOf, hm, hz, winA, Arr.one, hb.1, hb.2]
theorem m_appE32c {s x : Operand} {el by' b o n c m : Nat} {own : Bool} {r : List (BitVec 32)} {e2 : TypeId} (hs : opnd T s = .c .esl) (hx : opnd T x = .c (.sl b o n c 1)) (hm : M[b]? = some (.row own (.a32 r))) (hu : P.underlying t = some (.slice el)) (hu2 : P.underlying t' = some (.slice e2)) (he : elemOk P el = some (1, by')) (hl : o + n ≤ r.length) (hb : n * by' ≤ 140737488355328 ∧ n ≤ 9223372036854775807) (hn : M.length = m) :
    evMem P (opnd T) M (.call { callee := .builtin .append, args := #[s, x], argTypes := #[t, t'] }) = some (.c (.sl m 0 n n 1), M ++ [.row true (.a32 (cut r o n))]) := by
  show evAppend P M t t' (opnd T s) (opnd T x) = _
  subst hn
  rw [hs, hx]
  have hw : winA (.a32 r) o (n * 1) = .a32 (cut r o n) := by
    unfold winA
    split
    · rename_i h
      have h2 : r.length = n := by have := h.2; simp [Arr.size] at this; omega
      rw [h.1]; subst h2; simp [cut]
    · rw [Nat.mul_one]; rfl
  have hsz : o + n * 1 ≤ Arr.size (.a32 r) := by simp [Arr.size]; exact hl
  have hsrc : srcOf M 1 (.c (.sl b o n c 1)) = some (n, .a32 (cut r o n)) := by
    simp only [srcOf, hm]
    rw [if_pos ⟨trivial, hsz⟩, hw]
  simp [evAppend, hu, noIntT, hu2, he, hsrc, Arr.one, hb.1, hb.2]
theorem m_appN32 {s x : Operand} {el by' b n c m : Nat} {own : Bool} {r : List (BitVec 32)} {e2 : TypeId} (hs : opnd T s = .c .nsl) (hx : opnd T x = .c (.sl b 0 n c 1)) (hm : M[b]? = some (.row own (.a32 r))) (hu : P.underlying t = some (.slice el)) (hu2 : P.underlying t' = some (.slice e2)) (he : elemOk P el = some (1, by')) (hl : r.length = n) (hb : n * by' ≤ 140737488355328 ∧ n ≤ 9223372036854775807) (hn : M.length = m) :
    evMem P (opnd T) M (.call { callee := .builtin .append, args := #[s, x], argTypes := #[t, t'] }) = some (.c (.sl m 0 n n 1), M ++ [.row true (.a32 r)]) := by
  show evAppend P M t t' (opnd T s) (opnd T x) = _
  subst hn
  rw [hs, hx]
  have hz : Arr.size (.a32 r) = n := hl
  simp [evAppend, hu, noIntT, hu2, he, srcOf, hm, hz, winA, Arr.one, hb.1, hb.2]
theorem m_appN32c {s x : Operand} {el by' b o n c m : Nat} {own : Bool} {r : List (BitVec 32)} {e2 : TypeId} (hs : opnd T s = .c .nsl) (hx : opnd T x = .c (.sl b o n c 1)) (hm : M[b]? = some (.row own (.a32 r))) (hu : P.underlying t = some (.slice el)) (hu2 : P.underlying t' = some (.slice e2)) (he : elemOk P el = some (1, by')) (hl : o + n ≤ r.length) (hb : n * by' ≤ 140737488355328 ∧ n ≤ 9223372036854775807) (hn : M.length = m) :
    evMem P (opnd T) M (.call { callee := .builtin .append, args := #[s, x], argTypes := #[t, t'] }) = some (.c (.sl m 0 n n 1), M ++ [.row true (.a32 (cut r o n))]) := by
  show evAppend P M t t' (opnd T s) (opnd T x) = _
  subst hn
  rw [hs, hx]
  have hw : winA (.a32 r) o (n * 1) = .a32 (cut r o n) := by
    unfold winA
    split
    · rename_i h
      have h2 : r.length = n := by have := h.2; simp [Arr.size] at this; omega
      rw [h.1]; subst h2; simp [cut]
    · rw [Nat.mul_one]; rfl
  have hsz : o + n * 1 ≤ Arr.size (.a32 r) := by simp [Arr.size]; exact hl
  have hsrc : srcOf M 1 (.c (.sl b o n c 1)) = some (n, .a32 (cut r o n)) := by
    simp only [srcOf, hm]
    rw [if_pos ⟨trivial, hsz⟩, hw]
  simp [evAppend, hu, noIntT, hu2, he, hsrc, Arr.one, hb.1, hb.2]
theorem s_app32 {s x : Operand} {el by' b0 len cap b n c m : Nat} {own : Bool} {u r : List (BitVec 32)} {e2 : TypeId} (hs : opnd T s = .c (.sl b0 0 len cap 1)) (hms : M[b0]? = some (.row true (.a32 u))) (hx : opnd T x = .c (.sl b 0 n c 1)) (hm : M[b]? = some (.row own (.a32 r))) (hu : P.underlying t = some (.slice el)) (hu2 : P.underlying t' = some (.slice e2)) (he : elemOk P el = some (1, by'))
    (hlu : u.length = len) (hl : r.length = n) (hb : (len + n) * by' ≤ 140737488355328 ∧ len + n ≤ 9223372036854775807 ∧ n * by' ≤ 140737488355328) (hn : M.length = m) (hM : M.set b0 .dead ++ [.row true (.a32 (u ++ r))] = M') (hd : decide (d < N) = true) (hk : WO P k ops l0 ⟨N, upd T d (.c (.sl m 0 (len + n) (len + n) 1)), M'⟩ K) :
    WO P k ops (⟨some d, .call { callee := .builtin .append, args := #[s, x], argTypes := #[t, t'] }, ty, pos, af, none⟩ :: l0) ⟨N, T, M⟩ K :=
  s_mem (by
    show evAppend P M t t' (opnd T s) (opnd T x) = _
    subst hn; subst hM
    rw [hs, hx]
    have hz : Arr.size (.a32 r) = n := hl
    have hz2 : Arr.size (.a32 u) = len := hlu
    have hn9 : n ≤ 9223372036854775807 := by omega
    simp [evAppend, hu, noIntT, hu2, he, srcOf, hm, hms, hz, hz2, winA, Arr.one, Arr.app, hb.1, hb.2.1, hb.2.2, hn9]) hd hk
theorem s_app32c {s x : Operand} {el by' b0 len cap b o n c m : Nat} {own : Bool} {u r : List (BitVec 32)} {e2 : TypeId} (hs : opnd T s = .c (.sl b0 0 len cap 1)) (hms : M[b0]? = some (.row true (.a32 u))) (hx : opnd T x = .c (.sl b o n c 1)) (hm : M[b]? = some (.row own (.a32 r))) (hu : P.underlying t = some (.slice el)) (hu2 : P.underlying t' = some (.slice e2)) (he : elemOk P el = some (1, by'))
    (hlu : u.length = len) (hl : o + n ≤ r.length) (hb : (len + n) * by' ≤ 140737488355328 ∧ len + n ≤ 9223372036854775807 ∧ n * by' ≤ 140737488355328) (hn : M.length = m) (hM : M.set b0 .dead ++ [.row true (.a32 (u ++ cut r o n))] = M') (hd : decide (d < N) = true) (hk : WO P k ops l0 ⟨N, upd T d (.c (.sl m 0 (len + n) (len + n) 1)), M'⟩ K) :
    WO P k ops (⟨some d, .call { callee := .builtin .append, args := #[s, x], argTypes := #[t, t'] }, ty, pos, af, none⟩ :: l0) ⟨N, T, M⟩ K :=
  s_mem (by
    show evAppend P M t t' (opnd T s) (opnd T x) = _
    subst hn; subst hM
    rw [hs, hx]
    have hw : winA (.a32 r) o (n * 1) = .a32 (cut r o n) := by
      unfold winA
      split
      · rename_i h
        have h2 : r.length = n := by have := h.2; simp [Arr.size] at this; omega
        rw [h.1]; subst h2; simp [cut]
      · rw [Nat.mul_one]; rfl
    have hsz : o + n * 1 ≤ Arr.size (.a32 r) := by simp [Arr.size]; exact hl
    have hsrc : srcOf M 1 (.c (.sl b o n c 1)) = some (n, .a32 (cut r o n)) := by
      simp only [srcOf, hm]
      rw [if_pos ⟨trivial, hsz⟩, hw]
    have hz2 : Arr.size (.a32 u) = len := hlu
    have hn9 : n ≤ 9223372036854775807 := by omega
    simp [evAppend, hu, noIntT, hu2, he, hsrc, hms, hz2, winA, Arr.one, Arr.app, hb.1, hb.2.1, hb.2.2, hn9]) hd hk
theorem m_bs64 {l : List (BitVec 64)} {el by' len n : Nat} {ps : Array (Nat × Operand)} (hu : P.underlying t = some (.slice el)) (he : elemOk P el = some (1, by')) (hd : denseA 0 (ps.toList.map fun p => (p.1, opnd T p.2)) = some (l.map U64)) (hl : ps.toList.length = len) (h0 : ¬ len = 0) (h1 : len ≤ 16777216) (hn : M.length = n) :
    evMem P (opnd T) M (.buildSlice t len ps) = some (.c (.sl n 0 len len 1), M ++ [.row true (.a64 l)]) := by
  have hn0 : l ≠ [] := by
    intro e; subst e
    have := denseA_len hd
    have h9 : ps.toList.length = ps.size := by simp
    simp at this
    omega
  rw [m_bs hu he hd hl h0 h1 hn, abs64 hn0]
theorem v_bld64 {l : List (BitVec 64)} {n el : Nat} {ps : Array (Nat × Operand)} (hz : (P.info? t).bind (fun i => i.zero.map (·.cells.size)) = some n) (hu : P.underlying t = some (.array n el)) (hs : szT P el = some 1) (hd : denseA 0 (ps.toList.map fun p => (p.1, opnd T p.2)) = some (l.map U64)) (hl : ps.toList.length = n) (h0 : ¬ n = 0) :
    evVal P (opnd T) M (.build t ps) = some (.agg (.a64 l)) := by
  show evBuild P t (ps.toList.map fun p => (p.1, opnd T p.2)) = _
  obtain ⟨it, hi, hz2⟩ := Option.bind_eq_some_iff.1 hz
  obtain ⟨z, hz3, hz4⟩ := Option.map_eq_some_iff.1 hz2
  obtain ⟨ie, hie, h1⟩ := Option.map_eq_some_iff.1 hs
  have hn0 : l ≠ [] := by
    intro e; subst e
    have := denseA_len hd
    have h9 : ps.toList.length = ps.size := by simp
    simp at this
    omega
  simp only [evBuild, hi, hu, hz3, hie]
  rw [if_pos ⟨h1, by simpa using hl, hz4⟩, hd]
  simp only [abs64 hn0]
theorem v_ix64 {x i : Operand} {n el j : Nat} {kd : IntKind} {y : List (BitVec 64)} (hx : opnd T x = .agg (.a64 y)) (hi : opnd T i = .c (.val (.int kd (j : Int)))) (hu : P.underlying t = some (.array n el)) (hs : szT P el = some 1) (hr : isRowT P el = some false) (h0 : j < n) (hl : j < y.length) :
    evVal P (opnd T) M (.index t x i) = some (.c (.val (U64 (nth y j)))) := by
  show evIdx P t (opnd T x) (opnd T i) = _
  rw [hx, hi]
  have h1 : (0 : Int) ≤ (j : Int) ∧ (j : Int) < (n : Int) := by omega
  simp only [evIdx, hu, intOf?, hs, h1, and_self, if_true, Int.toNat_natCast, Nat.mul_one, partA, hr]
  rw [if_pos (show j < Arr.size (.a64 y) from hl)]
  rfl
theorem m_make64 {x y : Operand} {el by' a b n : Nat} {ka kb : IntKind} (hu : P.underlying t = some (.slice el)) (hx : opnd T x = .c (.val (.int ka (a : Int)))) (hy : opnd T y = .c (.val (.int kb (b : Int)))) (he : elemOk P el = some (1, by')) (hrep : ∀ n, repArr P el n = some (.a64 (zer64 n))) (h1 : a ≤ b) (h2 : b * by' ≤ 281474976710656) (h3 : b ≤ 9223372036854775807) (hn : M.length = n) :
    evMem P (opnd T) M (.makeSlice t x y) = some (.c (.sl n 0 a b 1), M ++ [.row true (.a64 (zer64 b))]) := by
  show evMakeSlice P M t (opnd T x) (opnd T y) = _
  subst hn
  rw [hx, hy]
  simp only [evMakeSlice, hu, intOf?, he]
  rw [if_pos ⟨by omega, by omega, by rw [← Int.natCast_mul]; omega, by omega⟩]
  simp [hrep]
theorem m_appE64 {s x : Operand} {el by' b n c m : Nat} {own : Bool} {r : List (BitVec 64)} {e2 : TypeId} (hs : opnd T s = .c .esl) (hx : opnd T x = .c (.sl b 0 n c 1)) (hm : M[b]? = some (.row own (.a64 r))) (hu : P.underlying t = some (.slice el)) (hu2 : P.underlying t' = some (.slice e2)) (he : elemOk P el = some (1, by')) (hl : r.length = n) (hb : n * by' ≤ 140737488355328 ∧ n ≤ 9223372036854775807) (hn : M.length = m) :
    evMem P (opnd T) M (.call { callee := .builtin .append, args := #[s, x], argTypes := #[t, t'] }) = some (.c (.sl m 0 n n 1), M ++ [.row true (.a64 r)]) := by
  show evAppend P M t t' (opnd T s) (opnd T x) = _
  subst hn
  rw [hs, hx]
  have hz : Arr.size (.a64 r) = n := hl
  simp [evAppend, hu, noIntT, hu2, he, srcOf, hm, hz, winA, Arr.one, hb.1, hb.2]
theorem m_appE64c {s x : Operand} {el by' b o n c m : Nat} {own : Bool} {r : List (BitVec 64)} {e2 : TypeId} (hs : opnd T s = .c .esl) (hx : opnd T x = .c (.sl b o n c 1)) (hm : M[b]? = some (.row own (.a64 r))) (hu : P.underlying t = some (.slice el)) (hu2 : P.underlying t' = some (.slice e2)) (he : elemOk P el = some (1, by')) (hl : o + n ≤ r.length) (hb : n * by' ≤ 140737488355328 ∧ n ≤ 9223372036854775807) (hn : M.length = m) :
    evMem P (opnd T) M (.call { callee := .builtin .append, args := #[s, x], argTypes := #[t, t'] }) = some (.c (.sl m 0 n n 1), M ++ [.row true (.a64 (cut r o n))]) := by
  show evAppend P M t t' (opnd T s) (opnd T x) = _
  subst hn
  rw [hs, hx]
  have hw : winA (.a64 r) o (n * 1) = .a64 (cut r o n) := by
    unfold winA
    split
    · rename_i h
      have h2 : r.length = n := by have := h.2; simp [Arr.size] at this; omega
      rw [h.1]; subst h2; simp [cut]
    · rw [Nat.mul_one]; rfl
  have hsz : o + n * 1 ≤ Arr.size (.a64 r) := by simp [Arr.size]; exact hl
  have hsrc : srcOf M 1 (.c (.sl b o n c 1)) = some (n, .a64 (cut r o n)) := by
    simp only [srcOf, hm]
    rw [if_pos ⟨trivial, hsz⟩, hw]
  simp [evAppend, hu, noIntT, hu2, he, hsrc, Arr.one, hb.1, hb.2]
theorem m_appN64 {s x : Operand} {el by' b n c m : Nat} {own : Bool} {r : List (BitVec 64)} {e2 : TypeId} (hs : opnd T s = .c .nsl) (hx : opnd T x = .c (.sl b 0 n c 1)) (hm : M[b]? = some (.row own (.a64 r))) (hu : P.underlying t = some (.slice el)) (hu2 : P.underlying t' = some (.slice e2)) (he : elemOk P el = some (1, by')) (hl : r.length = n) (hb : n * by' ≤ 140737488355328 ∧ n ≤ 9223372036854775807) (hn : M.length = m) :
    evMem P (opnd T) M (.call { callee := .builtin .append, args := #[s, x], argTypes := #[t, t'] }) = some (.c (.sl m 0 n n 1), M ++ [.row true (.a64 r)]) := by
  show evAppend P M t t' (opnd T s) (opnd T x) = _
  subst hn
  rw [hs, hx]
  have hz : Arr.size (.a64 r) = n := hl
  simp [evAppend, hu, noIntT, hu2, he, srcOf, hm, hz, winA, Arr.one, hb.1, hb.2]
theorem m_appN64c {s x : Operand} {el by' b o n c m : Nat} {own : Bool} {r : List (BitVec 64)} {e2 : TypeId} (hs : opnd T s = .c .nsl) (hx : opnd T x = .c (.sl b o n c 1)) (hm : M[b]? = some (.row own (.a64 r))) (hu : P.underlying t = some (.slice el)) (hu2 : P.underlying t' = some (.slice e2)) (he : elemOk P el = some (1, by')) (hl : o + n ≤ r.length) (hb : n * by' ≤ 140737488355328 ∧ n ≤ 9223372036854775807) (hn : M.length = m) :
    evMem P (opnd T) M (.call { callee := .builtin .append, args := #[s, x], argTypes := #[t, t'] }) = some (.c (.sl m 0 n n 1), M ++ [.row true (.a64 (cut r o n))]) := by
  show evAppend P M t t' (opnd T s) (opnd T x) = _
  subst hn
  rw [hs, hx]
  have hw : winA (.a64 r) o (n * 1) = .a64 (cut r o n) := by
    unfold winA
    split
    · rename_i h
      have h2 : r.length = n := by have := h.2; simp [Arr.size] at this; omega
      rw [h.1]; subst h2; simp [cut]
    · rw [Nat.mul_one]; rfl
  have hsz : o + n * 1 ≤ Arr.size (.a64 r) := by simp [Arr.size]; exact hl
  have hsrc : srcOf M 1 (.c (.sl b o n c 1)) = some (n, .a64 (cut r o n)) := by
    simp only [srcOf, hm]
    rw [if_pos ⟨trivial, hsz⟩, hw]
  simp [evAppend, hu, noIntT, hu2, he, hsrc, Arr.one, hb.1, hb.2]
theorem s_app64 {s x : Operand} {el by' b0 len cap b n c m : Nat} {own : Bool} {u r : List (BitVec 64)} {e2 : TypeId} (hs : opnd T s = .c (.sl b0 0 len cap 1)) (hms : M[b0]? = some (.row true (.a64 u))) (hx : opnd T x = .c (.sl b 0 n c 1)) (hm : M[b]? = some (.row own (.a64 r))) (hu : P.underlying t = some (.slice el)) (hu2 : P.underlying t' = some (.slice e2)) (he : elemOk P el = some (1, by'))
    (hlu : u.length = len) (hl : r.length = n) (hb : (len + n) * by' ≤ 140737488355328 ∧ len + n ≤ 9223372036854775807 ∧ n * by' ≤ 140737488355328) (hn : M.length = m) (hM : M.set b0 .dead ++ [.row true (.a64 (u ++ r))] = M') (hd : decide (d < N) = true) (hk : WO P k ops l0 ⟨N, upd T d (.c (.sl m 0 (len + n) (len + n) 1)), M'⟩ K) :
    WO P k ops (⟨some d, .call { callee := .builtin .append, args := #[s, x], argTypes := #[t, t'] }, ty, pos, af, none⟩ :: l0) ⟨N, T, M⟩ K :=
  s_mem (by
    show evAppend P M t t' (opnd T s) (opnd T x) = _
    subst hn; subst hM
    rw [hs, hx]
    have hz : Arr.size (.a64 r) = n := hl
    have hz2 : Arr.size (.a64 u) = len := hlu
    have hn9 : n ≤ 9223372036854775807 := by omega
    simp [evAppend, hu, noIntT, hu2, he, srcOf, hm, hms, hz, hz2, winA, Arr.one, Arr.app, hb.1, hb.2.1, hb.2.2, hn9]) hd hk
theorem s_app64c {s x : Operand} {el by' b0 len cap b o n c m : Nat} {own : Bool} {u r : List (BitVec 64)} {e2 : TypeId} (hs : opnd T s = .c (.sl b0 0 len cap 1)) (hms : M[b0]? = some (.row true (.a64 u))) (hx : opnd T x = .c (.sl b o n c 1)) (hm : M[b]? = some (.row own (.a64 r))) (hu : P.underlying t = some (.slice el)) (hu2 : P.underlying t' = some (.slice e2)) (he : elemOk P el = some (1, by'))
    (hlu : u.length = len) (hl : o + n ≤ r.length) (hb : (len + n) * by' ≤ 140737488355328 ∧ len + n ≤ 9223372036854775807 ∧ n * by' ≤ 140737488355328) (hn : M.length = m) (hM : M.set b0 .dead ++ [.row true (.a64 (u ++ cut r o n))] = M') (hd : decide (d < N) = true) (hk : WO P k ops l0 ⟨N, upd T d (.c (.sl m 0 (len + n) (len + n) 1)), M'⟩ K) :
    WO P k ops (⟨some d, .call { callee := .builtin .append, args := #[s, x], argTypes := #[t, t'] }, ty, pos, af, none⟩ :: l0) ⟨N, T, M⟩ K :=
  s_mem (by
    show evAppend P M t t' (opnd T s) (opnd T x) = _
    subst hn; subst hM
    rw [hs, hx]
    have hw : winA (.a64 r) o (n * 1) = .a64 (cut r o n) := by
      unfold winA
      split
      · rename_i h
        have h2 : r.length = n := by have := h.2; simp [Arr.size] at this; omega
        rw [h.1]; subst h2; simp [cut]
      · rw [Nat.mul_one]; rfl
    have hsz : o + n * 1 ≤ Arr.size (.a64 r) := by simp [Arr.size]; exact hl
    have hsrc : srcOf M 1 (.c (.sl b o n c 1)) = some (n, .a64 (cut r o n)) := by
      simp only [srcOf, hm]
      rw [if_pos ⟨trivial, hsz⟩, hw]
    have hz2 : Arr.size (.a64 u) = len := hlu
    have hn9 : n ≤ 9223372036854775807 := by omega
    simp [evAppend, hu, noIntT, hu2, he, hsrc, hms, hz2, winA, Arr.one, Arr.app, hb.1, hb.2.1, hb.2.2, hn9]) hd hk
theorem m_bsI {l : List (Int)} {el by' len n : Nat} {ps : Array (Nat × Operand)} (hu : P.underlying t = some (.slice el)) (he : elemOk P el = some (1, by')) (hd : denseA 0 (ps.toList.map fun p => (p.1, opnd T p.2)) = some (l.map (Value.int .i64))) (hl : ps.toList.length = len) (h0 : ¬ len = 0) (h1 : len ≤ 16777216) (hn : M.length = n) :
    evMem P (opnd T) M (.buildSlice t len ps) = some (.c (.sl n 0 len len 1), M ++ [.row true (.ai l)]) := by
  have hn0 : l ≠ [] := by
    intro e; subst e
    have := denseA_len hd
    have h9 : ps.toList.length = ps.size := by simp
    simp at this
    omega
  rw [m_bs hu he hd hl h0 h1 hn, absI hn0]
theorem v_bldI {l : List (Int)} {n el : Nat} {ps : Array (Nat × Operand)} (hz : (P.info? t).bind (fun i => i.zero.map (·.cells.size)) = some n) (hu : P.underlying t = some (.array n el)) (hs : szT P el = some 1) (hd : denseA 0 (ps.toList.map fun p => (p.1, opnd T p.2)) = some (l.map (Value.int .i64))) (hl : ps.toList.length = n) (h0 : ¬ n = 0) :
    evVal P (opnd T) M (.build t ps) = some (.agg (.ai l)) := by
  show evBuild P t (ps.toList.map fun p => (p.1, opnd T p.2)) = _
  obtain ⟨it, hi, hz2⟩ := Option.bind_eq_some_iff.1 hz
  obtain ⟨z, hz3, hz4⟩ := Option.map_eq_some_iff.1 hz2
  obtain ⟨ie, hie, h1⟩ := Option.map_eq_some_iff.1 hs
  have hn0 : l ≠ [] := by
    intro e; subst e
    have := denseA_len hd
    have h9 : ps.toList.length = ps.size := by simp
    simp at this
    omega
  simp only [evBuild, hi, hu, hz3, hie]
  rw [if_pos ⟨h1, by simpa using hl, hz4⟩, hd]
  simp only [absI hn0]
theorem v_ixI {x i : Operand} {n el j : Nat} {kd : IntKind} {y : List (Int)} (hx : opnd T x = .agg (.ai y)) (hi : opnd T i = .c (.val (.int kd (j : Int)))) (hu : P.underlying t = some (.array n el)) (hs : szT P el = some 1) (hr : isRowT P el = some false) (h0 : j < n) (hl : j < y.length) :
    evVal P (opnd T) M (.index t x i) = some (.c (.val (.int .i64 (geti y j)))) := by
  show evIdx P t (opnd T x) (opnd T i) = _
  rw [hx, hi]
  have h1 : (0 : Int) ≤ (j : Int) ∧ (j : Int) < (n : Int) := by omega
  simp only [evIdx, hu, intOf?, hs, h1, and_self, if_true, Int.toNat_natCast, Nat.mul_one, partA, hr]
  rw [if_pos (show j < Arr.size (.ai y) from hl)]
  rfl
theorem m_makeI {x y : Operand} {el by' a b n : Nat} {ka kb : IntKind} (hu : P.underlying t = some (.slice el)) (hx : opnd T x = .c (.val (.int ka (a : Int)))) (hy : opnd T y = .c (.val (.int kb (b : Int)))) (he : elemOk P el = some (1, by')) (hrep : ∀ n, repArr P el n = some (.ai (zeri n))) (h1 : a ≤ b) (h2 : b * by' ≤ 281474976710656) (h3 : b ≤ 9223372036854775807) (hn : M.length = n) :
    evMem P (opnd T) M (.makeSlice t x y) = some (.c (.sl n 0 a b 1), M ++ [.row true (.ai (zeri b))]) := by
  show evMakeSlice P M t (opnd T x) (opnd T y) = _
  subst hn
  rw [hx, hy]
  simp only [evMakeSlice, hu, intOf?, he]
  rw [if_pos ⟨by omega, by omega, by rw [← Int.natCast_mul]; omega, by omega⟩]
  simp [hrep]
theorem m_appEI {s x : Operand} {el by' b n c m : Nat} {own : Bool} {r : List (Int)} {e2 : TypeId} (hs : opnd T s = .c .esl) (hx : opnd T x = .c (.sl b 0 n c 1)) (hm : M[b]? = some (.row own (.ai r))) (hu : P.underlying t = some (.slice el)) (hu2 : P.underlying t' = some (.slice e2)) (he : elemOk P el = some (1, by')) (hl : r.length = n) (hb : n * by' ≤ 140737488355328 ∧ n ≤ 9223372036854775807) (hn : M.length = m) :
    evMem P (opnd T) M (.call { callee := .builtin .append, args := #[s, x], argTypes := #[t, t'] }) = some (.c (.sl m 0 n n 1), M ++ [.row true (.ai r)]) := by
  show evAppend P M t t' (opnd T s) (opnd T x) = _
  subst hn
  rw [hs, hx]
  have hz : Arr.size (.ai r) = n := hl
  simp [evAppend, hu, noIntT, hu2, he, srcOf, hm, hz, winA, Arr.one, hb.1, hb.2]
theorem m_appEIc {s x : Operand} {el by' b o n c m : Nat} {own : Bool} {r : List (Int)} {e2 : TypeId} (hs : opnd T s = .c .esl) (hx : opnd T x = .c (.sl b o n c 1)) (hm : M[b]? = some (.row own (.ai r))) (hu : P.underlying t = some (.slice el)) (hu2 : P.underlying t' = some (.slice e2)) (he : elemOk P el = some (1, by')) (hl : o + n ≤ r.length) (hb : n * by' ≤ 140737488355328 ∧ n ≤ 9223372036854775807) (hn : M.length = m) :
    evMem P (opnd T) M (.call { callee := .builtin .append, args := #[s, x], argTypes := #[t, t'] }) = some (.c (.sl m 0 n n 1), M ++ [.row true (.ai (cut r o n))]) := by
  show evAppend P M t t' (opnd T s) (opnd T x) = _
  subst hn
  rw [hs, hx]
  have hw : winA (.ai r) o (n * 1) = .ai (cut r o n) := by
    unfold winA
    split
    · rename_i h
      have h2 : r.length = n := by have := h.2; simp [Arr.size] at this; omega
      rw [h.1]; subst h2; simp [cut]
    · rw [Nat.mul_one]; rfl
  have hsz : o + n * 1 ≤ Arr.size (.ai r) := by simp [Arr.size]; exact hl
  have hsrc : srcOf M 1 (.c (.sl b o n c 1)) = some (n, .ai (cut r o n)) := by
    simp only [srcOf, hm]
    rw [if_pos ⟨trivial, hsz⟩, hw]
  simp [evAppend, hu, noIntT, hu2, he, hsrc, Arr.one, hb.1, hb.2]
theorem m_appNI {s x : Operand} {el by' b n c m : Nat} {own : Bool} {r : List (Int)} {e2 : TypeId} (hs : opnd T s = .c .nsl) (hx : opnd T x = .c (.sl b 0 n c 1)) (hm : M[b]? = some (.row own (.ai r))) (hu : P.underlying t = some (.slice el)) (hu2 : P.underlying t' = some (.slice e2)) (he : elemOk P el = some (1, by')) (hl : r.length = n) (hb : n * by' ≤ 140737488355328 ∧ n ≤ 9223372036854775807) (hn : M.length = m) :
    evMem P (opnd T) M (.call { callee := .builtin .append, args := #[s, x], argTypes := #[t, t'] }) = some (.c (.sl m 0 n n 1), M ++ [.row true (.ai r)]) := by
  show evAppend P M t t' (opnd T s) (opnd T x) = _
  subst hn
  rw [hs, hx]
  have hz : Arr.size (.ai r) = n := hl
  simp [evAppend, hu, noIntT, hu2, he, srcOf, hm, hz, winA, Arr.one, hb.1, hb.2]
theorem m_appNIc {s x : Operand} {el by' b o n c m : Nat} {own : Bool} {r : List (Int)} {e2 : TypeId} (hs : opnd T s = .c .nsl) (hx : opnd T x = .c (.sl b o n c 1)) (hm : M[b]? = some (.row own (.ai r))) (hu : P.underlying t = some (.slice el)) (hu2 : P.underlying t' = some (.slice e2)) (he : elemOk P el = some (1, by')) (hl : o + n ≤ r.length) (hb : n * by' ≤ 140737488355328 ∧ n ≤ 9223372036854775807) (hn : M.length = m) :
    evMem P (opnd T) M (.call { callee := .builtin .append, args := #[s, x], argTypes := #[t, t'] }) = some (.c (.sl m 0 n n 1), M ++ [.row true (.ai (cut r o n))]) := by
  show evAppend P M t t' (opnd T s) (opnd T x) = _
  subst hn
  rw [hs, hx]
  have hw : winA (.ai r) o (n * 1) = .ai (cut r o n) := by
    unfold winA
    split
    · rename_i h
      have h2 : r.length = n := by have := h.2; simp [Arr.size] at this; omega
      rw [h.1]; subst h2; simp [cut]
    · rw [Nat.mul_one]; rfl
  have hsz : o + n * 1 ≤ Arr.size (.ai r) := by simp [Arr.size]; exact hl
  have hsrc : srcOf M 1 (.c (.sl b o n c 1)) = some (n, .ai (cut r o n)) := by
    simp only [srcOf, hm]
    rw [if_pos ⟨trivial, hsz⟩, hw]
  simp [evAppend, hu, noIntT, hu2, he, hsrc, Arr.one, hb.1, hb.2]
theorem s_appI {s x : Operand} {el by' b0 len cap b n c m : Nat} {own : Bool} {u r : List (Int)} {e2 : TypeId} (hs : opnd T s = .c (.sl b0 0 len cap 1)) (hms : M[b0]? = some (.row true (.ai u))) (hx : opnd T x = .c (.sl b 0 n c 1)) (hm : M[b]? = some (.row own (.ai r))) (hu : P.underlying t = some (.slice el)) (hu2 : P.underlying t' = some (.slice e2)) (he : elemOk P el = some (1, by'))
    (hlu : u.length = len) (hl : r.length = n) (hb : (len + n) * by' ≤ 140737488355328 ∧ len + n ≤ 9223372036854775807 ∧ n * by' ≤ 140737488355328) (hn : M.length = m) (hM : M.set b0 .dead ++ [.row true (.ai (u ++ r))] = M') (hd : decide (d < N) = true) (hk : WO P k ops l0 ⟨N, upd T d (.c (.sl m 0 (len + n) (len + n) 1)), M'⟩ K) :
    WO P k ops (⟨some d, .call { callee := .builtin .append, args := #[s, x], argTypes := #[t, t'] }, ty, pos, af, none⟩ :: l0) ⟨N, T, M⟩ K :=
  s_mem (by
    show evAppend P M t t' (opnd T s) (opnd T x) = _
    subst hn; subst hM
    rw [hs, hx]
    have hz : Arr.size (.ai r) = n := hl
    have hz2 : Arr.size (.ai u) = len := hlu
    have hn9 : n ≤ 9223372036854775807 := by omega
    simp [evAppend, hu, noIntT, hu2, he, srcOf, hm, hms, hz, hz2, winA, Arr.one, Arr.app, hb.1, hb.2.1, hb.2.2, hn9]) hd hk
theorem s_appIc {s x : Operand} {el by' b0 len cap b o n c m : Nat} {own : Bool} {u r : List (Int)} {e2 : TypeId} (hs : opnd T s = .c (.sl b0 0 len cap 1)) (hms : M[b0]? = some (.row true (.ai u))) (hx : opnd T x = .c (.sl b o n c 1)) (hm : M[b]? = some (.row own (.ai r))) (hu : P.underlying t = some (.slice el)) (hu2 : P.underlying t' = some (.slice e2)) (he : elemOk P el = some (1, by'))
    (hlu : u.length = len) (hl : o + n ≤ r.length) (hb : (len + n) * by' ≤ 140737488355328 ∧ len + n ≤ 9223372036854775807 ∧ n * by' ≤ 140737488355328) (hn : M.length = m) (hM : M.set b0 .dead ++ [.row true (.ai (u ++ cut r o n))] = M') (hd : decide (d < N) = true) (hk : WO P k ops l0 ⟨N, upd T d (.c (.sl m 0 (len + n) (len + n) 1)), M'⟩ K) :
    WO P k ops (⟨some d, .call { callee := .builtin .append, args := #[s, x], argTypes := #[t, t'] }, ty, pos, af, none⟩ :: l0) ⟨N, T, M⟩ K :=
  s_mem (by
    show evAppend P M t t' (opnd T s) (opnd T x) = _
    subst hn; subst hM
    rw [hs, hx]
    have hw : winA (.ai r) o (n * 1) = .ai (cut r o n) := by
      unfold winA
      split
      · rename_i h
        have h2 : r.length = n := by have := h.2; simp [Arr.size] at this; omega
        rw [h.1]; subst h2; simp [cut]
      · rw [Nat.mul_one]; rfl
    have hsz : o + n * 1 ≤ Arr.size (.ai r) := by simp [Arr.size]; exact hl
    have hsrc : srcOf M 1 (.c (.sl b o n c 1)) = some (n, .ai (cut r o n)) := by
      simp only [srcOf, hm]
      rw [if_pos ⟨trivial, hsz⟩, hw]
    have hz2 : Arr.size (.ai u) = len := hlu
    have hn9 : n ≤ 9223372036854775807 := by omega
    simp [evAppend, hu, noIntT, hu2, he, hsrc, hms, hz2, winA, Arr.one, Arr.app, hb.1, hb.2.1, hb.2.2, hn9]) hd hk
theorem v_pickT {c a b : Operand} {p : Bool} {v : AV} (hc : opnd T c = .c (.val (.bool p))) (hp : p = true) (ha : opnd T a = v) : evVal P (opnd T) M (.pick c a b) = some v := by
  subst hp
  simp only [evVal, hc, if_true, ha]
theorem v_pickF {c a b : Operand} {p : Bool} {v : AV} (hc : opnd T c = .c (.val (.bool p))) (hp : p = false) (hb : opnd T b = v) : evVal P (opnd T) M (.pick c a b) = some v := by
  subst hp
  simp only [evVal, hc, hb]
  rfl
theorem s_mark {x : Operand} {e b o len cap sz m : Nat} {y : List (BitVec 8)} {u : Option TypeDesc} (hx : opnd T x = .c (.sl b o len cap sz)) (ht : P.underlying t = some (.slice e)) (hu : P.underlying e = u) (he : u = some (.int .u8)) (hm : M[b]? = some (.row true (.a8 y))) (h0 : 0 < len) (hn : M.length = m) (hM : M.set b .dead ++ [.row false (.a8 y)] = M') (hd : decide (d < N) = true)
    (hk : WO P k ops l0 ⟨N, upd T d (.c (.sl m o len cap sz)), M'⟩ K) : WO P k ops (⟨some d, .convert t t x, ty, pos, af, none⟩ :: l0) ⟨N, T, M⟩ K :=
  s_mem (by
    subst hn; subst hM; subst he
    show evConvM P M t t (opnd T x) = _
    rw [hx]
    simp [evConvM, evStrBytes, evMark, ht, hu, hm, h0]) hd hk
theorem v_unxor64 {x : Operand} {a : BitVec 64} (hx : opnd T x = .c (.val (U64 a))) : evVal P (opnd T) M (.unOp .xor t x) = some (.c (.val (U64 (~~~a)))) := by
  simp only [evVal, hx, not64]; rfl
theorem v_unxor32 {x : Operand} {a : BitVec 32} (hx : opnd T x = .c (.val (U32 a))) : evVal P (opnd T) M (.unOp .xor t x) = some (.c (.val (U32 (~~~a)))) := by
  simp only [evVal, hx, not32]; rfl
theorem v_unnotB {x : Operand} {a : Bool} (hx : opnd T x = .c (.val (.bool a))) : evVal P (opnd T) M (.unOp .not t x) = some (.c (.val (.bool (!a)))) := by
  simp only [evVal, hx]; rfl
theorem v_eqlB {x y : Operand} {a b : Bool} (hx : opnd T x = .c (.val (.bool a))) (hy : opnd T y = .c (.val (.bool b))) (hu : P.underlying t = some .bool) : evVal P (opnd T) M (.binOp .eql t x y t') = some (.c (.val (.bool (a == b)))) := by
  show evBin P .eql t x y (opnd T x) (opnd T y) = _
  rw [hx, hy]; simp [evBin, isBoolT, hu]
theorem v_neqB {x y : Operand} {a b : Bool} (hx : opnd T x = .c (.val (.bool a))) (hy : opnd T y = .c (.val (.bool b))) (hu : P.underlying t = some .bool) : evVal P (opnd T) M (.binOp .neq t x y t') = some (.c (.val (.bool (!(a == b))))) := by
  show evBin P .neq t x y (opnd T x) (opnd T y) = _
  rw [hx, hy]; simp [evBin, isBoolT, hu]
theorem v_eqlI {x y : Operand} {a b : Int} (hx : opnd T x = .c (.val (.int .i64 a))) (hy : opnd T y = .c (.val (.int .i64 b))) : evVal P (opnd T) M (.binOp .eql t x y t') = some (.c (.val (.bool (a == b)))) := v_bin hx hy eqlI
theorem v_neqI {x y : Operand} {a b : Int} (hx : opnd T x = .c (.val (.int .i64 a))) (hy : opnd T y = .c (.val (.int .i64 b))) : evVal P (opnd T) M (.binOp .neq t x y t') = some (.c (.val (.bool (a != b)))) := v_bin hx hy neqI
theorem m_str {x : Operand} {s2 : ByteArray} {e : TypeId} {n : Nat} {s t : TypeId} (hx : opnd T x = .c (.val (.string s2))) (hs : P.underlying s = some .string) (ht : P.underlying t = some (.slice e)) (he : P.underlying e = some (.int .u8)) (hn : M.length = n) :
    evMem P (opnd T) M (.convert s t x) = some (.c (.sl n 0 s2.size s2.size 1), M ++ [.row false (.a8 (strBytes s2))]) := by
  show evConvM P M s t (opnd T x) = _
  subst hn
  rw [hx]; simp only [evConvM, evStrBytes, hs, ht, he]
/- calls of functions of the program -/
/-- A call that changes nothing that was there. -/
theorem e_call {f : FuncId} {ops2 : Array Operand} {ts : Array TypeId} {args : List AV} {mc mc' : Mem} {bs : List Nat} {v v' : AV} {news : Mem} (h : Ev P (.call f args mc) (.val v mc')) (hf : (P.funcs[f]?).any (fun fn => fn.body.isSome && !(fn.name == "runtime.NumGoroutine")) = true)
    (hin : canon 0 (ops2.toList.map (opnd T)) M = some (args, mc, bs)) (hM : backRows bs mc' (backRen bs M.length) 0 M = M) (hN : (mc'.drop bs.length).map (Row.ren (backRen bs M.length)) = news) (hv : v.ren (backRen bs M.length) = v') :
    Ev P (.op (.call { callee := .value (.func f), args := ops2, argTypes := ts }) (opnd T) M) (.val v' (M ++ news)) := by
  have := Ev.fn (c := { callee := .value (.func f), args := ops2, argTypes := ts }) (e := opnd T) f rfl rfl hf hin h
  simp only [linkOut, hM, hN, hv] at this
  exact this
/-- A call that only looks at what was there. -/
theorem e_callR {f : FuncId} {ops2 : Array Operand} {ts : Array TypeId} {args : List AV} {mc mc' : Mem} {bs : List Nat} {v v' : AV} {news : Mem} (h : Ev P (.call f args mc) (.val v mc')) (hf : (P.funcs[f]?).any (fun fn => fn.body.isSome && !(fn.name == "runtime.NumGoroutine")) = true)
    (hin : canon 0 (ops2.toList.map (opnd T)) (roMem M) = some (args, mc, bs)) (hM : backRows bs mc' (backRen bs (roMem M).length) 0 (roMem M) = roMem M) (hN : (mc'.drop bs.length).map (Row.ren (backRen bs (roMem M).length)) = news) (hv : v.ren (backRen bs (roMem M).length) = v') :
    Ev P (.op (.call { callee := .value (.func f), args := ops2, argTypes := ts }) (opnd T) M) (.val v' (M ++ news)) :=
  .ro (e_call h hf hin hM hN hv)
/-- A call that takes its only slice over. -/
theorem e_callK {f : FuncId} {ops2 : Array Operand} {ts : Array TypeId} {args : List AV} {mc mc' : Mem} {bs : List Nat} {v v' : AV} {news M1 : Mem} (h : Ev P (.call f args mc) (.val v mc')) (hf : (P.funcs[f]?).any (fun fn => fn.body.isSome && !(fn.name == "runtime.NumGoroutine")) = true)
    (hin : canon 0 (ops2.toList.map (opnd T)) M = some (args, mc, bs)) (hM : backRows bs mc' (backRen bs M.length) 0 M = M1) (hN : (mc'.drop bs.length).map (Row.ren (backRen bs M.length)) = news) (hv : v.ren (backRen bs M.length) = v') (hA : M1 ++ news = M') :
    Ev P (.op (.call { callee := .value (.func f), args := ops2, argTypes := ts }) (opnd T) M) (.val v' M') := by
  have := Ev.fn (c := { callee := .value (.func f), args := ops2, argTypes := ts }) (e := opnd T) f rfl rfl hf hin h
  simp only [linkOut, hM, hN, hv, hA] at this
  exact this
/-- A call told by rows under other names: r says where the callee's rows lie. -/
def viewOf (r : List (Option Nat)) (j : Nat) : Option Nat := (r[j]?).bind id
theorem viewOf_some {r : List (Option Nat)} {j i : Nat} (h : viewOf r j = some i) : j < r.length ∧ r[j]? = some (some i) := by
  unfold viewOf at h
  obtain ⟨x, hx, hi⟩ := Option.bind_eq_some_iff.1 h
  cases (show x = some i from hi)
  exact ⟨(List.getElem?_eq_some_iff.1 hx).1, hx⟩
theorem e_add {f : FuncId} {x y z : Operand} {ts : Array TypeId} {a b : BitVec 64} {cv : Value} {c : BitVec 64} (hf : ExtIs P f add64Entry) (hx : opnd T x = .c (.val (U64 a))) (hy : opnd T y = .c (.val (U64 b))) (hz : opnd T z = .c (.val cv)) (hcv : cv = U64 c) (hc : c.toNat ≤ 1) :
    Ev P (.op (.call { callee := .value (.func f), args := #[x, y, z], argTypes := ts }) (opnd T) M) (.val (addAV a b c) (M ++ [])) := by
  rw [List.append_nil]
  refine Ev.add64 f rfl rfl hf ?_
  show ev64 addAV [opnd T x, opnd T y, opnd T z] = _
  rw [hx, hy, hz, hcv]
  simp [ev64, hc]
theorem e_sub {f : FuncId} {x y z : Operand} {ts : Array TypeId} {a b : BitVec 64} {cv : Value} {c : BitVec 64} (hf : ExtIs P f sub64Entry) (hx : opnd T x = .c (.val (U64 a))) (hy : opnd T y = .c (.val (U64 b))) (hz : opnd T z = .c (.val cv)) (hcv : cv = U64 c) (hc : c.toNat ≤ 1) :
    Ev P (.op (.call { callee := .value (.func f), args := #[x, y, z], argTypes := ts }) (opnd T) M) (.val (subAV a b c) (M ++ [])) := by
  rw [List.append_nil]
  refine Ev.sub64 f rfl rfl hf ?_
  show ev64 subAV [opnd T x, opnd T y, opnd T z] = _
  rw [hx, hy, hz, hcv]
  simp [ev64, hc]
end
end Go.Proofs.Ytcjponmaeamjdaa
/- Abstract data: less is known: a nil slice as an empty own row; an own row under a new name; a round of a loop by itself. -/
namespace Go.Proofs.Ytcjponmaeamjdaa
open Go.RowKit
theorem cut_all {α : Type} {l : List α} {n : Nat} (h : l.length = n) : cut l 0 n = l := by subst h; simp [cut]
theorem emb_lt {ι : Emb} {M : Mem} {w : World} (hR : R ι M w) {b : Nat} {l : Loc} (h : ι b = some l) : b < M.length := by
  rcases Nat.lt_or_ge b M.length with h1 | h1
  · exact h1
  · rw [hR.dom b h1] at h; cases h
theorem app_lt {M : Mem} {x : Row} {b : Nat} (h : b < M.length) : (M ++ [x])[b]? = M[b]? := List.getElem?_append_left h
theorem nil_step {k : Nat} {ι : Emb} {M : Mem} {w : World} {x : Arr} (hk : k ≤ M.length) (hR : R ι M w) : Step k ι M w ι (M ++ [.row true x]) w := by
  have lt := fun {b : Nat} {l : Loc} (h : ι b = some l) => emb_lt hR h
  refine ⟨⟨fun b hb => hR.dom b (by simp at hb; omega), fun b l own y h1 h2 => ?_, fun b b' l l' own own' y y' hne h1 h2 h3 h4 ho => ?_⟩, ⟨rfl, rfl, rfl, Nat.le_refl _, fun _ _ _ => rfl, ?_⟩, fun _ _ => rfl, by simp; omega, fun b y hb h => ?_, fun b own y hb h => ?_, fun b l own y hb h1 h2 => ?_⟩
  · rw [app_lt (lt h1)] at h2; exact hR.rows b l own y h1 h2
  · rw [app_lt (lt h1)] at h3; rw [app_lt (lt h2)] at h4; exact hR.inj b b' l l' own own' y y' hne h1 h2 h3 h4 ho
  · rintro c ⟨b, l, y, h1, h2, h3⟩
    rw [app_lt (lt h1)] at h2; exact .inr ⟨b, l, y, h1, h2, h3⟩
  · rw [app_lt (by omega)]; exact h
  · rw [app_lt (by omega)] at h; exact ⟨y, h⟩
  · rw [app_lt (lt h1)] at h2; exact .inr (.inr ⟨b, l, own, y, hb, h1, h2, rfl⟩)
def moveEmb (n b : Nat) (ι : Emb) : Emb := fun i => if i = n then ι b else ι i
theorem move_le {ι : Emb} {M : Mem} {w : World} (hR : R ι M w) (b : Nat) : ι.le (moveEmb M.length b ι) := fun i l h => by
  have := emb_lt hR h
  unfold moveEmb
  rw [if_neg (by omega)]; exact h
theorem move_step {k : Nat} {ι : Emb} {M : Mem} {w : World} {b : Nat} {x : Arr} (hk : k ≤ M.length) (hR : R ι M w) (hb : M[b]? = some (.row true x)) : Step k ι M w (moveEmb M.length b ι) (M.set b .dead ++ [.row true x]) w := by
  have hbl : b < M.length := by
    rcases Nat.lt_or_ge b M.length with h1 | h1
    · exact h1
    · rw [List.getElem?_eq_none h1] at hb; cases hb
  have e1 : ∀ {i : Nat}, i ≠ M.length → moveEmb M.length b ι i = ι i := fun h => if_neg h
  have e2 : moveEmb M.length b ι M.length = ι b := if_pos rfl
  -- a row that is there after it
  have src : ∀ {i : Nat} {own : Bool} {y : Arr}, (M.set b .dead ++ [.row true x])[i]? = some (.row own y) → (i = M.length ∧ own = true ∧ y = x) ∨ (i < M.length ∧ i ≠ b ∧ M[i]? = some (.row own y)) := by
    intro i own y h
    rcases Nat.lt_trichotomy i M.length with h1 | h1 | h1
    · right
      rw [List.getElem?_append_left (by simp; exact h1), List.getElem?_set] at h
      by_cases e : b = i
      · subst e; simp [h1] at h
      · rw [if_neg e] at h; exact ⟨h1, fun h => e h.symm, h⟩
    · left
      subst h1
      rw [List.getElem?_append_right (by simp)] at h
      simp only [List.length_set, Nat.sub_self, List.getElem?_cons_zero, Option.some.injEq, Row.row.injEq] at h
      exact ⟨rfl, h.1.symm, h.2.symm⟩
    · rw [List.getElem?_eq_none (by simp; omega)] at h; cases h
  -- where it was
  have org : ∀ {i : Nat} {l : Loc} {own : Bool} {y : Arr}, moveEmb M.length b ι i = some l → (M.set b .dead ++ [.row true x])[i]? = some (.row own y) → ∃ i0, ι i0 = some l ∧ M[i0]? = some (.row own y) ∧ (i0 = i ∨ (i0 = b ∧ i = M.length)) := by
    intro i l own y h1 h2
    rcases src h2 with ⟨rfl, rfl, rfl⟩ | ⟨h3, h4, h5⟩
    · rw [e2] at h1; exact ⟨b, h1, hb, .inr ⟨rfl, rfl⟩⟩
    · rw [e1 (by omega)] at h1; exact ⟨i, h1, h5, .inl rfl⟩
  refine ⟨⟨fun i hi => ?_, fun i l own y h1 h2 => ?_, fun i i' l l' own own' y y' hne h1 h2 h3 h4 ho => ?_⟩, ⟨rfl, rfl, rfl, Nat.le_refl _, fun _ _ _ => rfl, ?_⟩, fun i hi => e1 (by omega), by simp; omega, fun i y hi h => ?_, fun i own y hi h => ?_, fun i l own y hi h1 h2 => ?_⟩
  · simp at hi
    rw [e1 (by omega)]; exact hR.dom i (by omega)
  · obtain ⟨i0, h3, h4, _⟩ := org h1 h2
    obtain ⟨cs, t, fr, g1, g2, g3, g4⟩ := hR.rows i0 l own y h3 h4
    exact ⟨cs, t, fr, g1, g2, g3.mono' (move_le hR b), g4⟩
  · obtain ⟨j, k1, k2, k3⟩ := org h1 h3
    obtain ⟨j', g1, g2, g3⟩ := org h2 h4
    have hs := src h3
    have hs' := src h4
    refine hR.inj j j' l l' own own' y y' (fun e => ?_) k1 g1 k2 g2 ho
    subst e
    rcases k3 with k3 | k3 <;> rcases g3 with g3 | g3
    · exact hne (by omega)
    · rcases hs with hs | hs
      · have := emb_lt hR k1; omega
      · omega
    · rcases hs' with hs' | hs'
      · have := emb_lt hR k1; omega
      · omega
    · omega
  · rintro c ⟨i, l, y, h1, h2, h3⟩
    obtain ⟨i0, h4, h5, _⟩ := org h1 h2
    exact .inr ⟨i0, l, y, h4, h5, h3⟩
  · rw [List.getElem?_append_left (by simp; omega), List.getElem?_set]
    by_cases e : b = i
    · subst e; rw [hb] at h; cases h
    · rw [if_neg e]; exact h
  · rcases src h with ⟨h1, _⟩ | ⟨_, _, h1⟩
    · omega
    · exact ⟨y, h1⟩
  · obtain ⟨i0, h3, h4, h5⟩ := org h1 h2
    rcases h5 with rfl | ⟨rfl, rfl⟩
    · exact .inr (.inr ⟨i0, l, own, y, hi, h3, h4, rfl⟩)
    · rcases src h2 with ⟨_, rfl, rfl⟩ | ⟨h6, _⟩
      · exact .inr (.inl ⟨i0, l, y, h3, hb, rfl⟩)
      · omega
section
variable {P : Program} {k N n : Nat} {c : Code} {T : Nat → AV} {M M' : Mem} {Φ : Ex → St → Prop}
theorem frel_upd {ι : Emb} {s s' : St} {a : Act} (d : Nat) {v : AV} (h : FRel ι s a) (hn : s'.n = s.n) (ht : s'.t = upd s.t d v) (hv : ∀ u, (s.t d).rel ι u → v.rel ι u) : FRel ι s' a := by
  refine ⟨h.size.trans hn.symm, fun t => ?_⟩
  rw [ht]
  unfold upd
  split
  · rename_i e; subst e; exact hv _ (h.rel t)
  · exact h.rel t
/-- A nil slice in a slot as an empty own row. -/
theorem c_nil (d sz : Nat) (x : Arr) (_hx : x.size = 0) (hd : T d = .c .nsl) (hn : M.length = n) (hM : M ++ [.row true x] = M') (h : WC P k c ⟨N, upd T d (.c (.sl n 0 0 0 sz)), M'⟩ Φ) : WC P k c ⟨N, T, M⟩ Φ := by
  subst hM; subst hn
  obtain ⟨e, r, h1, h2⟩ := h.h
  refine ⟨⟨e, r, Ev.weak ?_ h1, h2⟩⟩
  intro ι w a hk hR hf
  refine ⟨ι, frel_upd (s := ⟨N, T, M⟩) d hf rfl rfl ?_, nil_step hk hR⟩
  intro u hu
  change (T d).rel ι u at hu
  rw [hd] at hu
  change u = _ at hu
  subst hu
  exact ⟨none, 0, rfl, Nat.le_refl _, Nat.le_refl _, .inl rfl⟩
theorem c_emp (d sz : Nat) (x : Arr) (_hx : x.size = 0) (hd : T d = .c .esl) (hn : M.length = n) (hM : M ++ [.row true x] = M') (h : WC P k c ⟨N, upd T d (.c (.sl n 0 0 0 sz)), M'⟩ Φ) : WC P k c ⟨N, T, M⟩ Φ := by
  subst hM; subst hn
  obtain ⟨e, r, h1, h2⟩ := h.h
  refine ⟨⟨e, r, Ev.weak ?_ h1, h2⟩⟩
  intro ι w a hk hR hf
  refine ⟨ι, frel_upd (s := ⟨N, T, M⟩) d hf rfl rfl ?_, nil_step hk hR⟩
  intro u hu
  change (T d).rel ι u at hu
  rw [hd] at hu
  obtain ⟨p, rfl⟩ := hu
  exact ⟨p, 0, rfl, Nat.le_refl _, Nat.le_refl _, .inl rfl⟩
/-- A slot's own row under a new name. -/
theorem c_move (d : Nat) {b o len cap sz : Nat} {x : Arr} (hd : T d = .c (.sl b o len cap sz)) (hb : M[b]? = some (.row true x)) (hn : M.length = n) (hM : M.set b .dead ++ [.row true x] = M') (h : WC P k c ⟨N, upd T d (.c (.sl n o len len sz)), M'⟩ Φ) : WC P k c ⟨N, T, M⟩ Φ := by
  subst hM; subst hn
  obtain ⟨e, r, h1, h2⟩ := h.h
  refine ⟨⟨e, r, Ev.weak ?_ h1, h2⟩⟩
  intro ι w a hk hR hf
  refine ⟨_, frel_upd (s := ⟨N, T, M⟩) d (hf.mono (move_le hR b) M) rfl rfl ?_, move_step hk hR hb⟩
  intro u hu
  have hu' := hf.rel d
  change (T d).rel _ u at hu
  rw [hd] at hu
  obtain ⟨p, c', rfl, h3, h4, h5⟩ := hu
  refine ⟨p, c', rfl, h4, h4, h5.imp id ?_⟩
  rintro ⟨l, h6, h7⟩
  refine ⟨l, ?_, h7⟩
  show (if M.length = M.length then ι b else ι M.length) = some l
  rw [if_pos rfl]
  unfold moveEmb at h6
  split at h6
  · exact h6
  · exact h6
def peelK (P : Program) (k : Nat) (c : Code) (Φ : Ex → St → Prop) : Ex → St → Prop
  | .normal, s => WC P k (.loop c) s Φ
  | e, s => Φ e s
/-- One round of a loop by itself. -/
theorem c_peel {s : St} (h : WC P k c s (peelK P k c Φ)) : WC P k (.loop c) s Φ := by
  obtain ⟨e, r, h1, h2⟩ := h.h
  cases e with
  | normal => obtain ⟨e', r', h3, h4⟩ := WC.h h2; exact ⟨⟨e', r', Ev.loop h1 h3, h4⟩⟩
  | exit i => exact ⟨⟨_, r, Ev.loopx h1 (by simp), h2⟩⟩
  | ret => exact ⟨⟨_, r, Ev.loopx h1 (by simp), h2⟩⟩
end
section
variable {P : Program} {k N : Nat} {ops : Array Oper} {d : Nat} {ty : TypeId} {pos : String} {af : Array Edge} {l0 : List Oper} {T : Nat → AV} {M M' : Mem} {K : St → Prop} {t t' : TypeId} {x y : Operand}
theorem v_unnegN {a : Nat} (hx : opnd T x = .c (.val (.int .i64 (a : Int)))) (h : a ≤ 9223372036854775807) : evVal P (opnd T) M (.unOp .neg t x) = some (.c (.val (.int .i64 (-(a : Int))))) := by
  show (match opnd T x with | .c (.val v) => (pureOf (Op.unary .neg v)).map fun u => AV.c (.val u) | _ => none) = _
  rw [hx]
  have e : Op.unary .neg (.int .i64 (a : Int)) = (pure (.int .i64 (-(a : Int))) : Sem Value) := by
    have e2 := subI (t := 0) (a := 0) (b := (a : Int)) (by omega)
    rw [Int.zero_sub] at e2
    exact e2
  simp only [e]; rfl
end
end Go.Proofs.Ytcjponmaeamjdaa
/- Abstract data: more steps: 'or' and 'and' of tests, copy, array literals that name some places only. -/
namespace Go.Proofs.Ytcjponmaeamjdaa
open Go.RowKit
theorem ev_want {ops : Array Oper} {t : Nat → AV} {o : Oper} {j d : Nat} {want b c : Bool} (hg : o.guard = some (j, want)) (hd : (ops[j]?).bind (·.dst) = some d) (ht : t d = .c (.val (.bool b))) (hb : (b == want) = c) : evWanted ops t o = some c := by
  simp only [evWanted, hg, hd, ht, hb]
theorem ev_wantU {ops : Array Oper} {t : Nat → AV} {o : Oper} {j d : Nat} {want : Bool} {y : Array Value} (hg : o.guard = some (j, want)) (hd : (ops[j]?).bind (·.dst) = some d) (ht : t d = .c (.val (.tuple y))) : evWanted ops t o = some false := by
  simp only [evWanted, hg, hd, ht]
theorem beqT {p : Prop} [Decidable p] (h : p) : (decide p == true) = true := by simp [h]
theorem beqF {p : Prop} [Decidable p] (h : ¬ p) : (decide p == false) = true := by simp [h]
theorem beqTn {p : Prop} [Decidable p] (h : p) : (decide p == false) = false := by simp [h]
theorem beqFn {p : Prop} [Decidable p] (h : ¬ p) : (decide p == true) = false := by simp [h]
def zern (n : Nat) : List Nat := List.replicate n 0
@[simp] theorem zern_len (n : Nat) : (zern n).length = n := by simp [zern]
theorem cut_over0 {α : Type} (u m : List α) (n : Nat) (h : m.length = n) : cut (over u 0 m) 0 n = m := by
  subst h; simp [cut, over]
theorem over_all {α : Type} (u m : List α) (h : m.length = u.length) : over u 0 m = m := by
  simp [over, h]
theorem nth_over_hi {k : Nat} (u m : List (BitVec k)) (i : Nat) (h : m.length ≤ i) (hl : m.length ≤ u.length) : nth (over u 0 m) i = nth u i := by
  unfold nth
  rw [over_get u m 0 i 0 (by omega), if_neg (by omega)]
@[simp] theorem over_len {α : Type} (u m : List α) (o : Nat) : (over u o m).length = min o u.length + m.length + (u.length - (o + m.length)) := by simp [over, Nat.add_assoc]
section
variable {P : Program} {k N : Nat} {ops : Array Oper} {d : Nat} {ty : TypeId} {pos : String} {af : Array Edge} {l0 : List Oper} {T : Nat → AV} {M M' : Mem} {K : St → Prop} {t t' : TypeId}
theorem v_pickOr {c a b : Operand} {p q : Bool} (hc : opnd T c = .c (.val (.bool p))) (ha : opnd T a = .c (.val (.bool true))) (hb : opnd T b = .c (.val (.bool q))) : evVal P (opnd T) M (.pick c a b) = some (.c (.val (.bool (p || q)))) := by
  simp only [evVal, hc, ha, hb]
  cases p <;> rfl
theorem v_pickAnd {c a b : Operand} {p q : Bool} (hc : opnd T c = .c (.val (.bool p))) (ha : opnd T a = .c (.val (.bool q))) (hb : opnd T b = .c (.val (.bool false))) : evVal P (opnd T) M (.pick c a b) = some (.c (.val (.bool (p && q)))) := by
  simp only [evVal, hc, ha, hb]
  cases p <;> rfl
theorem copy8 {s x : Operand} {el b0 o len cap b o2 n c m : Nat} {own : Bool} {u r : List (BitVec 8)} (hs : opnd T s = .c (.sl b0 o len cap 1)) (hms : M[b0]? = some (.row true (.a8 u))) (hx : opnd T x = .c (.sl b o2 n c 1)) (hm : M[b]? = some (.row own (.a8 r))) (hu : P.underlying t = some (.slice el)) (hz : szT P el = some 1)
    (hlu : o + len ≤ u.length) (hl : o2 + n ≤ r.length) (hn : min n len = m) (hM : M.set b0 (.row true (.a8 (over u o (cut r o2 m)))) = M') :
    evMem P (opnd T) M (.call { callee := .builtin .copy, args := #[s, x], argTypes := #[t, t'] }) = some (.c (.val (.int .i64 ((m : Nat) : Int))), M') := by
  show evCopy P M t (opnd T s) (opnd T x) = _
  subst hM; subst hn
  rw [hs, hx]
  have h1 : o2 + min n len ≤ Arr.size (.a8 r) := by simp only [Arr.size]; omega
  have h2 : o + min n len ≤ Arr.size (.a8 u) := by simp only [Arr.size]; omega
  simp only [evCopy, hu, hz, hms, hm, true_and, Nat.lt_irrefl, if_true, Nat.zero_lt_one, h1, h2, Arr.win, Arr.one, and_self, Arr.putW, Option.map_some, Nat.mul_one]
theorem s_copy8 {s x : Operand} {el b0 o len cap b o2 n c m : Nat} {own : Bool} {u r : List (BitVec 8)} (hs : opnd T s = .c (.sl b0 o len cap 1)) (hms : M[b0]? = some (.row true (.a8 u))) (hx : opnd T x = .c (.sl b o2 n c 1)) (hm : M[b]? = some (.row own (.a8 r))) (hu : P.underlying t = some (.slice el)) (hz : szT P el = some 1)
    (hlu : o + len ≤ u.length) (hl : o2 + n ≤ r.length) (hn : min n len = m) (hM : M.set b0 (.row true (.a8 (over u o (cut r o2 m)))) = M') (hd : decide (d < N) = true) (hk : WO P k ops l0 ⟨N, upd T d (.c (.val (.int .i64 ((m : Nat) : Int)))), M'⟩ K) :
    WO P k ops (⟨some d, .call { callee := .builtin .copy, args := #[s, x], argTypes := #[t, t'] }, ty, pos, af, none⟩ :: l0) ⟨N, T, M⟩ K :=
  s_mem (copy8 hs hms hx hm hu hz hlu hl hn hM) hd hk
theorem s_copy8a {s x : Operand} {el b0 o len cap b n c m : Nat} {own : Bool} {u r : List (BitVec 8)} (hs : opnd T s = .c (.sl b0 o len cap 1)) (hms : M[b0]? = some (.row true (.a8 u))) (hx : opnd T x = .c (.sl b 0 n c 1)) (hm : M[b]? = some (.row own (.a8 r))) (hu : P.underlying t = some (.slice el)) (hz : szT P el = some 1)
    (hlu : o + len ≤ u.length) (hl : r.length = n) (hn : min n len = m) (he : m = n) (hM : M.set b0 (.row true (.a8 (over u o r))) = M') (hd : decide (d < N) = true) (hk : WO P k ops l0 ⟨N, upd T d (.c (.val (.int .i64 ((m : Nat) : Int)))), M'⟩ K) :
    WO P k ops (⟨some d, .call { callee := .builtin .copy, args := #[s, x], argTypes := #[t, t'] }, ty, pos, af, none⟩ :: l0) ⟨N, T, M⟩ K :=
  s_mem (copy8 hs hms hx hm hu hz hlu (by omega) hn (by rw [he, cut_all hl]; exact hM)) hd hk
theorem s_copy8w {s x : Operand} {el b0 len cap b o2 n c m : Nat} {own : Bool} {u r : List (BitVec 8)} (hs : opnd T s = .c (.sl b0 0 len cap 1)) (hms : M[b0]? = some (.row true (.a8 u))) (hx : opnd T x = .c (.sl b o2 n c 1)) (hm : M[b]? = some (.row own (.a8 r))) (hu : P.underlying t = some (.slice el)) (hz : szT P el = some 1)
    (hlu : u.length = len) (hl : o2 + n ≤ r.length) (hn : min n len = m) (he : m = len) (hM : M.set b0 (.row true (.a8 (cut r o2 m))) = M') (hd : decide (d < N) = true) (hk : WO P k ops l0 ⟨N, upd T d (.c (.val (.int .i64 ((m : Nat) : Int)))), M'⟩ K) :
    WO P k ops (⟨some d, .call { callee := .builtin .copy, args := #[s, x], argTypes := #[t, t'] }, ty, pos, af, none⟩ :: l0) ⟨N, T, M⟩ K :=
  s_mem (copy8 hs hms hx hm hu hz (by omega) hl hn (by rw [over_all _ _ (by rw [cut_length]; omega)]; exact hM)) hd hk
theorem s_copy8aw {s x : Operand} {el b0 len cap b n c m : Nat} {own : Bool} {u r : List (BitVec 8)} (hs : opnd T s = .c (.sl b0 0 len cap 1)) (hms : M[b0]? = some (.row true (.a8 u))) (hx : opnd T x = .c (.sl b 0 n c 1)) (hm : M[b]? = some (.row own (.a8 r))) (hu : P.underlying t = some (.slice el)) (hz : szT P el = some 1)
    (hlu : u.length = len) (hl : r.length = n) (hn : min n len = m) (he : m = len) (he2 : m = n) (hM : M.set b0 (.row true (.a8 r)) = M') (hd : decide (d < N) = true) (hk : WO P k ops l0 ⟨N, upd T d (.c (.val (.int .i64 ((m : Nat) : Int)))), M'⟩ K) :
    WO P k ops (⟨some d, .call { callee := .builtin .copy, args := #[s, x], argTypes := #[t, t'] }, ty, pos, af, none⟩ :: l0) ⟨N, T, M⟩ K :=
  s_mem (copy8 hs hms hx hm hu hz (by omega) (by omega) hn (by rw [he2, cut_all hl, over_all _ _ (by omega)]; exact hM)) hd hk
theorem v_blf8 {l : List (BitVec 8)} {n n' el : Nat} {ps : Array (Nat × Operand)} (hz : (P.info? t).bind (fun i => i.zero.map (fun z => absArr z.cells.toList)) = some (.a8 (zer8 n))) (hu : P.underlying t = some (.array n' el)) (hs : szT P el = some 1) (h0 : (decide (ps.toList.length = n')) = false)
    (hf : fillA (fun i => some (i * 1, 1)) (.a8 (zer8 n)) (ps.toList.map fun p => (p.1, opnd T p.2)) = some (.a8 l)) : evVal P (opnd T) M (.build t ps) = some (.agg (.a8 l)) := by
  show evBuild P t (ps.toList.map fun p => (p.1, opnd T p.2)) = _
  obtain ⟨it, hi, hz2⟩ := Option.bind_eq_some_iff.1 hz
  obtain ⟨z, hz3, hz4⟩ := Option.map_eq_some_iff.1 hz2
  obtain ⟨ie, hie, h1⟩ := Option.map_eq_some_iff.1 hs
  have h9 : ¬ (ie.size = 1 ∧ (ps.toList.map fun p => (p.1, opnd T p.2)).length = n' ∧ z.cells.size = n') := by
    rintro ⟨_, h, _⟩
    rw [List.length_map] at h
    exact of_decide_eq_false h0 h
  simp only [evBuild, hi, hu, hz3, hie]
  rw [if_neg h9]
  simp only [hz4, h1, hf, Option.map_some]
theorem v_blf32 {l : List (BitVec 32)} {n n' el : Nat} {ps : Array (Nat × Operand)} (hz : (P.info? t).bind (fun i => i.zero.map (fun z => absArr z.cells.toList)) = some (.a32 (zer32 n))) (hu : P.underlying t = some (.array n' el)) (hs : szT P el = some 1) (h0 : (decide (ps.toList.length = n')) = false)
    (hf : fillA (fun i => some (i * 1, 1)) (.a32 (zer32 n)) (ps.toList.map fun p => (p.1, opnd T p.2)) = some (.a32 l)) : evVal P (opnd T) M (.build t ps) = some (.agg (.a32 l)) := by
  show evBuild P t (ps.toList.map fun p => (p.1, opnd T p.2)) = _
  obtain ⟨it, hi, hz2⟩ := Option.bind_eq_some_iff.1 hz
  obtain ⟨z, hz3, hz4⟩ := Option.map_eq_some_iff.1 hz2
  obtain ⟨ie, hie, h1⟩ := Option.map_eq_some_iff.1 hs
  have h9 : ¬ (ie.size = 1 ∧ (ps.toList.map fun p => (p.1, opnd T p.2)).length = n' ∧ z.cells.size = n') := by
    rintro ⟨_, h, _⟩
    rw [List.length_map] at h
    exact of_decide_eq_false h0 h
  simp only [evBuild, hi, hu, hz3, hie]
  rw [if_neg h9]
  simp only [hz4, h1, hf, Option.map_some]
theorem v_blf64 {l : List (BitVec 64)} {n n' el : Nat} {ps : Array (Nat × Operand)} (hz : (P.info? t).bind (fun i => i.zero.map (fun z => absArr z.cells.toList)) = some (.a64 (zer64 n))) (hu : P.underlying t = some (.array n' el)) (hs : szT P el = some 1) (h0 : (decide (ps.toList.length = n')) = false)
    (hf : fillA (fun i => some (i * 1, 1)) (.a64 (zer64 n)) (ps.toList.map fun p => (p.1, opnd T p.2)) = some (.a64 l)) : evVal P (opnd T) M (.build t ps) = some (.agg (.a64 l)) := by
  show evBuild P t (ps.toList.map fun p => (p.1, opnd T p.2)) = _
  obtain ⟨it, hi, hz2⟩ := Option.bind_eq_some_iff.1 hz
  obtain ⟨z, hz3, hz4⟩ := Option.map_eq_some_iff.1 hz2
  obtain ⟨ie, hie, h1⟩ := Option.map_eq_some_iff.1 hs
  have h9 : ¬ (ie.size = 1 ∧ (ps.toList.map fun p => (p.1, opnd T p.2)).length = n' ∧ z.cells.size = n') := by
    rintro ⟨_, h, _⟩
    rw [List.length_map] at h
    exact of_decide_eq_false h0 h
  simp only [evBuild, hi, hu, hz3, hie]
  rw [if_neg h9]
  simp only [hz4, h1, hf, Option.map_some]
end
end Go.Proofs.Ytcjponmaeamjdaa
/- Abstract data: short names for the side conditions of the steps, each proved by what stands in its statement. -/
namespace Go.Proofs.Ytcjponmaeamjdaa
open Go.RowKit
attribute [simp] cut_length
theorem LEN_ {p : Prop} (h : p := by first | exact (rfl : _ = 0) | exact (rfl : _ = 1) | exact (rfl : _ = 2) | exact (rfl : _ = 3) | exact (rfl : _ = 4) | exact (rfl : _ = 5) | exact (rfl : _ = 6) | exact (rfl : _ = 7) | exact (rfl : _ = 8) | exact (rfl : _ = 9) | exact (rfl : _ = 10) | exact (rfl : _ = 11) | exact (rfl : _ = 12)) : p := h
theorem APP_ {p : Prop} (h : p := by first | exact (rfl : _ = []) | exact (rfl : _ = [_]) | exact (rfl : _ = [_, _]) | exact (rfl : _ = [_, _, _]) | exact (rfl : _ = [_, _, _, _]) | exact (rfl : _ = [_, _, _, _, _]) | exact (rfl : _ = [_, _, _, _, _, _]) | exact (rfl : _ = [_, _, _, _, _, _, _]) | exact (rfl : _ = [_, _, _, _, _, _, _, _]) | exact (rfl : _ = [_, _, _, _, _, _, _, _, _]) | exact (rfl : _ = [_, _, _, _, _, _, _, _, _, _]) | exact (rfl : _ = [_, _, _, _, _, _, _, _, _, _, _]) | exact (rfl : _ = [_, _, _, _, _, _, _, _, _, _, _, _]) | exact (rfl : _ = [_, _, _, _, _, _, _, _, _, _, _, _, _]) | exact (rfl : _ = [_, _, _, _, _, _, _, _, _, _, _, _, _, _]) | exact (rfl : _ = [_, _, _, _, _, _, _, _, _, _, _, _, _, _, _]) | exact (rfl : _ = [_, _, _, _, _, _, _, _, _, _, _, _, _, _, _, _]) | exact (rfl : _ = [_, _, _, _, _, _, _, _, _, _, _, _, _, _, _, _, _]) | exact (rfl : _ = [_, _, _, _, _, _, _, _, _, _, _, _, _, _, _, _, _, _]) | exact (rfl : _ = [_, _, _, _, _, _, _, _, _, _, _, _, _, _, _, _, _, _, _]) | exact (rfl : _ = [_, _, _, _, _, _, _, _, _, _, _, _, _, _, _, _, _, _, _, _]) | exact (rfl : _ = [_, _, _, _, _, _, _, _, _, _, _, _, _, _, _, _, _, _, _, _, _]) | exact (rfl : _ = [_, _, _, _, _, _, _, _, _, _, _, _, _, _, _, _, _, _, _, _, _, _])) : p := h
theorem KILL_ {p : Prop} (h : p := by first | exact (rfl : _ = []) | exact (rfl : _ = [_]) | exact (rfl : _ = [_, _]) | exact (rfl : _ = [_, _, _]) | exact (rfl : _ = [_, _, _, _]) | exact (rfl : _ = [_, _, _, _, _]) | exact (rfl : _ = [_, _, _, _, _, _]) | exact (rfl : _ = [_, _, _, _, _, _, _]) | exact (rfl : _ = [_, _, _, _, _, _, _, _]) | exact (rfl : _ = [_, _, _, _, _, _, _, _, _]) | exact (rfl : _ = [_, _, _, _, _, _, _, _, _, _]) | exact (rfl : _ = [_, _, _, _, _, _, _, _, _, _, _]) | exact (rfl : _ = [_, _, _, _, _, _, _, _, _, _, _, _]) | exact (rfl : _ = [_, _, _, _, _, _, _, _, _, _, _, _, _]) | exact (rfl : _ = [_, _, _, _, _, _, _, _, _, _, _, _, _, _]) | exact (rfl : _ = [_, _, _, _, _, _, _, _, _, _, _, _, _, _, _]) | exact (rfl : _ = [_, _, _, _, _, _, _, _, _, _, _, _, _, _, _, _]) | exact (rfl : _ = [_, _, _, _, _, _, _, _, _, _, _, _, _, _, _, _, _]) | exact (rfl : _ = [_, _, _, _, _, _, _, _, _, _, _, _, _, _, _, _, _, _]) | exact (rfl : _ = [_, _, _, _, _, _, _, _, _, _, _, _, _, _, _, _, _, _, _]) | exact (rfl : _ = [_, _, _, _, _, _, _, _, _, _, _, _, _, _, _, _, _, _, _, _]) | exact (rfl : _ = [_, _, _, _, _, _, _, _, _, _, _, _, _, _, _, _, _, _, _, _, _]) | exact (rfl : _ = [_, _, _, _, _, _, _, _, _, _, _, _, _, _, _, _, _, _, _, _, _, _])) : p := h
theorem FIT_ {p : Prop} (h : p := by show _ ≤ List.length _; first | omega | (simp only [put_length]; omega) | (simp only [zer8_length]; omega)) : p := h
theorem EQL_ {p : Prop} (h : p := by first | assumption | omega | rfl | (simp only [put_length]; first | assumption | omega) | (simp only [List.length_append]; omega) | (simp; done) | (simp [*]; omega)) : p := h
theorem LE_ {p : Prop} (h : p := by first | omega | (simp only [put_length]; omega) | (simp; done) | (simp; omega) | (simp [*]; omega)) : p := h
theorem NEW0_ {p : Prop} (h : p := by exact (rfl : _ = [])) : p := h
theorem NEW8_ {p : Prop} (h : p := by exact (rfl : _ = [.row true (.a8 _)])) : p := h
theorem VAL_ {p : Prop} (h : p := by first | exact (rfl : _ = AV.c (.val _)) | exact (rfl : _ = AV.agg (.a64 _)) | exact (rfl : _ = AV.agg (.a8 _)) | exact (rfl : _ = AV.agg (.a32 _)) | exact (rfl : _ = AV.c .nsl) | exact (rfl : _ = AV.c (.sl 0 _ _ _ _)) | exact (rfl : _ = AV.c (.sl 1 _ _ _ _)) | exact (rfl : _ = AV.c (.sl 2 _ _ _ _)) | exact (rfl : _ = AV.c (.sl 3 _ _ _ _)) | exact (rfl : _ = AV.c (.sl 4 _ _ _ _)) | exact (rfl : _ = AV.c (.sl 5 _ _ _ _)) | exact (rfl : _ = AV.c (.sl 6 _ _ _ _)) | exact (rfl : _ = AV.c (.sl 7 _ _ _ _)) | exact (rfl : _ = AV.c (.sl 8 _ _ _ _)) | exact (rfl : _ = AV.c (.sl 9 _ _ _ _)) | exact rfl) : p := h
theorem SLV_ {p : Prop} (h : p := by first | exact (rfl : _ = AV.c (.sl 0 _ _ _ _)) | exact (rfl : _ = AV.c (.sl 1 _ _ _ _)) | exact (rfl : _ = AV.c (.sl 2 _ _ _ _)) | exact (rfl : _ = AV.c (.sl 3 _ _ _ _)) | exact (rfl : _ = AV.c (.sl 4 _ _ _ _)) | exact (rfl : _ = AV.c (.sl 5 _ _ _ _)) | exact (rfl : _ = AV.c (.sl 6 _ _ _ _)) | exact (rfl : _ = AV.c (.sl 7 _ _ _ _)) | exact (rfl : _ = AV.c (.sl 8 _ _ _ _))) : p := h
theorem SET_ {p : Prop} (h : p := by first | exact (rfl : _ = []) | exact (rfl : _ = [_]) | exact (rfl : _ = [_, _]) | exact (rfl : _ = [_, _, _]) | exact (rfl : _ = [_, _, _, _]) | exact (rfl : _ = [_, _, _, _, _]) | exact (rfl : _ = [_, _, _, _, _, _]) | exact (rfl : _ = [_, _, _, _, _, _, _]) | exact (rfl : _ = [_, _, _, _, _, _, _, _]) | exact (rfl : _ = [_, _, _, _, _, _, _, _, _]) | exact (rfl : _ = [_, _, _, _, _, _, _, _, _, _]) | exact (rfl : _ = [_, _, _, _, _, _, _, _, _, _, _]) | exact (rfl : _ = [_, _, _, _, _, _, _, _, _, _, _, _]) | exact (rfl : _ = [_, _, _, _, _, _, _, _, _, _, _, _, _]) | exact (rfl : _ = [_, _, _, _, _, _, _, _, _, _, _, _, _, _]) | exact (rfl : _ = [_, _, _, _, _, _, _, _, _, _, _, _, _, _, _]) | exact (rfl : _ = [_, _, _, _, _, _, _, _, _, _, _, _, _, _, _, _]) | exact (rfl : _ = [_, _, _, _, _, _, _, _, _, _, _, _, _, _, _, _, _]) | exact (rfl : _ = [_, _, _, _, _, _, _, _, _, _, _, _, _, _, _, _, _, _]) | exact (rfl : _ = [_, _, _, _, _, _, _, _, _, _, _, _, _, _, _, _, _, _, _]) | exact (rfl : _ = [_, _, _, _, _, _, _, _, _, _, _, _, _, _, _, _, _, _, _, _]) | exact (rfl : _ = [_, _, _, _, _, _, _, _, _, _, _, _, _, _, _, _, _, _, _, _, _]) | exact (rfl : _ = [_, _, _, _, _, _, _, _, _, _, _, _, _, _, _, _, _, _, _, _, _, _])) : p := h
theorem LIT_ {p : Prop} (h : p := by simp only [BitVec.reduceOfInt]; rfl) : p := h
theorem BD_ {p : Prop} (h : p := by first | omega) : p := h
theorem NUM_ {p : Prop} (h : p := by first | exact add64 _ _ | exact add32 _ _ | exact add8 _ _ | exact sub64 _ _ | exact mul64 _ _ | exact mul32 _ _ | exact and64 _ _ | exact or64 _ _ | exact xor64 _ _ | exact and32 _ _ | exact or32 _ _ | exact xor32 _ _ | exact and8 _ _ | exact or8 _ _ | exact xor8 _ _ | exact lssN | exact leqN | exact gtrN | exact geqN | exact eqlN | exact neqN | exact addN (by omega) | exact subN (by omega) (by omega) | exact mulN (by omega) | exact quoN (by omega) (by omega) | exact remN (by omega) (by omega) | exact and64c (by simp only [BitVec.reduceOfInt]; rfl) | exact add64c (by simp only [BitVec.reduceOfInt]; rfl) | exact sub64c (by simp only [BitVec.reduceOfInt]; rfl) | exact sub64d (by simp only [BitVec.reduceOfInt]; rfl) | exact mul64c (by simp only [BitVec.reduceOfInt]; rfl) | exact mul64d (by simp only [BitVec.reduceOfInt]; rfl) | exact and32c (by simp only [BitVec.reduceOfInt]; rfl) | exact add32c (by simp only [BitVec.reduceOfInt]; rfl) | exact mul32d (by simp only [BitVec.reduceOfInt]; rfl) | exact and8c (by simp only [BitVec.reduceOfInt]; rfl) | exact or8c (by simp only [BitVec.reduceOfInt]; rfl) | exact xor8c (by simp only [BitVec.reduceOfInt]; rfl) | exact shl64n | exact shr64n | exact shl32n | exact shr32n | exact shl8n | exact shr8n | exact gtr64c | exact eql64 _ _ | exact neq64 _ _ | exact eql8 _ _ | exact neq8 _ _ | exact eql64c (by simp only [BitVec.reduceOfInt]; rfl) (by decide) | exact eql8c (by simp only [BitVec.reduceOfInt]; rfl) (by decide)) : p := h
theorem CONV_ {p : Prop} (h : p := by first | exact w8_64 _ | exact w8_32 _ | exact w64_32 _ | exact w64_8 _ | exact w32_8 _ | exact w32_64 _ | exact wi_64 _ | exact wi_32 _ | exact wi_8 _ | exact w8_i _) : p := h
theorem ARR_ {p : Prop} (h : p := by first | exact congrArg some (by first | rfl) | rfl) : p := h
theorem LT_ {p : Prop} (h : p := by first | omega | (simp only [put_length]; omega) | (simp only [zer64_length]; omega) | (simp only [zer8_length]; omega) | (simp only [zer32_length]; omega) | (simp only [zeri_length]; omega) | (simp only [puti_length]; omega) | (simp only [putn_length]; omega) | (simp only [Arr.size, List.length_cons, List.length_nil]; omega) | (simp only [List.length_cons, List.length_nil]; omega) | decide) : p := h
theorem EQ_ {p : Prop} (h : p := by first | (simp only [Arr.size, List.length_cons, List.length_nil, Nat.reduceAdd]; done) | (simp only [Arr.size, zer64_length, zer32_length, zer8_length, zeri_length]; done) | (show List.length _ = _; first | assumption | omega | (simp only [put_length]; first | assumption | omega) | (simp only [natI, List.length_map]; first | assumption | omega) | (simp; done) | (simp; assumption) | (simp; omega) | rfl | simp only [zer64_length] | simp only [zer8_length] | simp only [zer32_length] | simp only [zeri_length])) : p := h
theorem WR_ {p : Prop} (h : p := by first | exact set64 _ _ _ | exact set8 _ _ _ | exact set32 _ _ _ | exact seti _ _ _ | exact setc _ _ _) : p := h
theorem BX_ {p : Prop} (h : p := by first | rfl) : p := h
theorem HYP_ {p : Prop} (h : p := by first | omega | (simp; done) | (simp [*]; done) | (simp [*]; omega) | assumption) : p := h
theorem LQ_ {p : Prop} (h : p := by first | (simp; done) | (simp [*]; done) | (simp [*]; omega) | rfl) : p := h
theorem MN_ {p : Prop} (h : p := by first | rfl | omega | (rw [Nat.min_eq_left (by omega)]) | (rw [Nat.min_eq_right (by omega)])) : p := h
theorem PK_ {p : Prop} (h : p := by first | rfl | assumption | (apply decide_eq_true; omega) | (apply decide_eq_false; omega) | (rw [Bool.not_eq_true', decide_eq_false_iff_not]; omega) | (rw [Bool.not_eq_false', decide_eq_true_eq]; omega) | (simp [*]; done) | (simp; omega)) : p := h
theorem GO_ {p : Prop} (h : p := by first | rfl | exact ev_wantU rfl rfl rfl | exact ev_want rfl rfl rfl (by first | rfl | exact beqT (by omega) | exact beqF (by omega) | exact beqTn (by omega) | exact beqFn (by omega) | (simp [*]; done))) : p := h
theorem eq_self_not {n : Nat} : (!decide (n = n)) = false := by simp
structure Hid (r : Prop) : Prop where
  out : r
theorem S_ {g r : Prop} (k : r) (h : Hid r → g := by
  intro h
  repeat (first
    | refine c_seq ?_
    | refine c_block ?_
    | refine c_skip ?_
    | refine c_exit ?_
    | refine c_ret ?_
    | refine c_label ?_
    | refine c_scope ?_
    | refine c_condT rfl (by first | rfl | (apply decide_eq_true; omega) | (rw [Bool.not_eq_true', decide_eq_false_iff_not]; omega)) ?_
    | refine c_condF rfl (by first | rfl | (apply decide_eq_false; omega) | (rw [Bool.not_eq_false', decide_eq_true_eq]; omega) | exact eq_self_not) ?_)
  exact h.out) : g := h ⟨k⟩
theorem Q_ {g r : Prop} (k : r) (h : Hid r → g := by
  intro h
  repeat (first
    | refine c_seq ?_
    | refine c_block ?_
    | refine c_skip ?_
    | refine c_label ?_
    | refine c_scope ?_)
  exact h.out) : g := h ⟨k⟩
end Go.Proofs.Ytcjponmaeamjdaa
/- Abstract data: array literals with one place that is no constant; slices of slices. -/
namespace Go.Proofs.Ytcjponmaeamjdaa
open Go.RowKit
/-- How many bytes are ahead: none at first, then 32. -/
def lst : Nat → Nat
  | 0 => 0
  | _ + 1 => 32
@[simp] theorem lst_zero : lst 0 = 0 := rfl
@[simp] theorem lst_succ (j : Nat) : lst (j + 1) = 32 := rfl
theorem lst_le (j : Nat) : lst j ≤ 32 := by cases j <;> simp
section
variable {P : Program} {k N : Nat} {ops : Array Oper} {d : Nat} {ty : TypeId} {pos : String} {af : Array Edge} {l0 : List Oper} {T : Nat → AV} {M M' : Mem} {K : St → Prop} {t t' : TypeId}
theorem v_blo8 {v : BitVec 8} {i n n' el : Nat} {x : Operand} (hz : (P.info? t).bind (fun i => i.zero.map (fun z => absArr z.cells.toList)) = some (.a8 (zer8 n))) (hu : P.underlying t = some (.array n' el)) (hs : szT P el = some 1) (h0 : (decide (1 = n')) = false) (hi : decide (i < n) = true) (hx : opnd T x = .c (.val (U8 v))) :
    evVal P (opnd T) M (.build t #[(i, x)]) = some (.agg (.a8 (put (zer8 n) i v))) := by
  refine v_blf8 hz hu hs h0 ?_
  have h1 : i < Arr.size (.a8 (zer8 n)) := by simp only [Arr.size, zer8_length]; exact of_decide_eq_true hi
  have h2 : (Cell.val (U8 v)).one = true := rfl
  simp only [List.map_cons, List.map_nil, fillA, hx, h1, h2, and_self, if_true, Arr.set, w8?_U8, Option.map_some, Option.bind_some, Nat.mul_one]
theorem v_blo64 {v : BitVec 64} {i n n' el : Nat} {x : Operand} (hz : (P.info? t).bind (fun i => i.zero.map (fun z => absArr z.cells.toList)) = some (.a64 (zer64 n))) (hu : P.underlying t = some (.array n' el)) (hs : szT P el = some 1) (h0 : (decide (1 = n')) = false) (hi : decide (i < n) = true) (hx : opnd T x = .c (.val (U64 v))) :
    evVal P (opnd T) M (.build t #[(i, x)]) = some (.agg (.a64 (put (zer64 n) i v))) := by
  refine v_blf64 hz hu hs h0 ?_
  have h1 : i < Arr.size (.a64 (zer64 n)) := by simp only [Arr.size, zer64_length]; exact of_decide_eq_true hi
  have h2 : (Cell.val (U64 v)).one = true := rfl
  simp only [List.map_cons, List.map_nil, fillA, hx, h1, h2, and_self, if_true, Arr.set, w64?_U64, Option.map_some, Option.bind_some, Nat.mul_one]
theorem v_minL {x y : Operand} {ts : Array TypeId} {a b : Nat} (hx : opnd T x = .c (.val (.int .i64 (a : Int)))) (hy : opnd T y = .c (.val (.int .i64 (b : Int)))) (h : a ≤ b) : evVal P (opnd T) M (.call { callee := .builtin .min, args := #[x, y], argTypes := ts }) = some (.c (.val (.int .i64 ((a : Nat) : Int)))) := by
  rw [v_minN hx hy, Nat.min_eq_left h]
theorem v_minR {x y : Operand} {ts : Array TypeId} {a b : Nat} (hx : opnd T x = .c (.val (.int .i64 (a : Int)))) (hy : opnd T y = .c (.val (.int .i64 (b : Int)))) (h : b ≤ a) : evVal P (opnd T) M (.call { callee := .builtin .min, args := #[x, y], argTypes := ts }) = some (.c (.val (.int .i64 ((b : Nat) : Int)))) := by
  rw [v_minN hx hy, Nat.min_eq_right h]
theorem v_nilP {x : Operand} {b o : Nat} (hx : opnd T x = .c (.ptr b o)) : evVal P (opnd T) M (.nilCheck x) = some (.c (.ptr b o)) := by
  simp only [evVal, hx]
theorem k_0e {n : Nat} {s : St} {v : AV} {m' : Mem} {e : Ex} (he : e = .ret ∨ e = .normal) (hc : canV n (.tup []) s.m = some ([v], m')) : callK P n [] v m' e s := by
  obtain ⟨ids, h⟩ := canV_spec hc
  rcases he with rfl | rfl
  · exact ⟨[], ids, by simp [resList], h⟩
  · exact ⟨[], ids, by simp [resList], h⟩
theorem s_evN0 {k : Nat} {ops : Array Oper} {l : List Oper} {op : Op} {v : AV} {news : Mem} {ty : TypeId} {pos : String} {af : Array Edge} {N : Nat} {K : St → Prop} (h : Ev P (.op op (opnd T) M) (.val v (M ++ news))) (hM : M ++ news = M') (hk : WO P k ops l ⟨N, T, M'⟩ K) : WO P k ops (⟨none, op, ty, pos, af, none⟩ :: l) ⟨N, T, M⟩ K :=
  s_ev0 (by rw [← hM]; exact h) hk
theorem winA8 (l : List (BitVec 8)) (o n : Nat) : winA (.a8 l) o n = .a8 (cut l o n) := by
  unfold winA
  split
  · rename_i h
    obtain ⟨rfl, h⟩ := h
    rw [cut_all (show l.length = n from h.symm)]
  · rfl
theorem winA64 (l : List (BitVec 64)) (o n : Nat) : winA (.a64 l) o n = .a64 (cut l o n) := by
  unfold winA
  split
  · rename_i h
    obtain ⟨rfl, h⟩ := h
    rw [cut_all (show l.length = n from h.symm)]
  · rfl
theorem v_loadW8 {t : TypeId} {a : Operand} {b n o : Nat} {own : Bool} {l : List (BitVec 8)} (ha : opnd T a = .c (.ptr b o)) (hm : M[b]? = some (.row own (.a8 l))) (hr : isRowT P t = some true) (hs : szT P t = some n) (hx : o + n ≤ l.length) (h0 : 0 < n) : evVal P (opnd T) M (.load t a) = some (.agg (.a8 (cut l o n))) := by
  have hx' : o + n ≤ Arr.size (.a8 l) := hx
  simp only [evVal, ha, hm, partA, hr, hs, hx', h0, and_self, if_true, winA8]
theorem v_loadW64 {t : TypeId} {a : Operand} {b n o : Nat} {own : Bool} {l : List (BitVec 64)} (ha : opnd T a = .c (.ptr b o)) (hm : M[b]? = some (.row own (.a64 l))) (hr : isRowT P t = some true) (hs : szT P t = some n) (hx : o + n ≤ l.length) (h0 : 0 < n) : evVal P (opnd T) M (.load t a) = some (.agg (.a64 (cut l o n))) := by
  have hx' : o + n ≤ Arr.size (.a64 l) := hx
  simp only [evVal, ha, hm, partA, hr, hs, hx', h0, and_self, if_true, winA64]
def okS : AV → Bool
  | .c (.sl ..) => true
  | .c .nsl => true
  | .c .esl => true
  | _ => false
theorem m_appZ {s x : Operand} {el b : Nat} {v : AV} {e2 : TypeId} (hs : opnd T s = v) (hx : opnd T x = .c .nsl) (hu : P.underlying t = some (.slice el)) (hu2 : P.underlying t' = some (.slice e2)) (he : elemOk P el = some (1, b)) (hk : okS v = true) :
    evMem P (opnd T) M (.call { callee := .builtin .append, args := #[s, x], argTypes := #[t, t'] }) = some (v, M ++ []) := by
  show evAppend P M t t' (opnd T s) (opnd T x) = _
  rw [hs, hx, List.append_nil]
  simp only [evAppend, hu, noIntT, hu2, he]
  unfold okS at hk
  split at hk <;> first | rfl | cases hk
theorem m_appZe {s x : Operand} {el b : Nat} {v : AV} {e2 : TypeId} (hs : opnd T s = v) (hx : opnd T x = .c .esl) (hu : P.underlying t = some (.slice el)) (hu2 : P.underlying t' = some (.slice e2)) (he : elemOk P el = some (1, b)) (hk : okS v = true) :
    evMem P (opnd T) M (.call { callee := .builtin .append, args := #[s, x], argTypes := #[t, t'] }) = some (v, M ++ []) := by
  show evAppend P M t t' (opnd T s) (opnd T x) = _
  rw [hs, hx, List.append_nil]
  simp only [evAppend, hu, noIntT, hu2, he]
  unfold okS at hk
  split at hk <;> first | rfl | cases hk
theorem m_bsc {cs : List Cell} {x : Arr} {el by' len n : Nat} {ps : Array (Nat × Operand)} (hu : P.underlying t = some (.slice el)) (he : elemOk P el = some (1, by')) (hr : repArr P el len = some x) (hd : denseA 0 (ps.toList.map fun p => (p.1, opnd T p.2)) = none) (hf : fillA (fun i => some (i * 1, 1)) x (ps.toList.map fun p => (p.1, opnd T p.2)) = some (.ac cs)) (h0 : ¬ len = 0) (h1 : len ≤ 16777216) (hn : M.length = n) :
    evMem P (opnd T) M (.buildSlice t len ps) = some (.c (.sl n 0 len len 1), M ++ [.row true (.ac cs)]) := by
  show evBuildSlice P M t len (ps.toList.map fun p => (p.1, opnd T p.2)) = _
  subst hn
  have e : (if True ∧ (ps.toList.map fun p => (p.1, opnd T p.2)).length = len then denseA 0 (ps.toList.map fun p => (p.1, opnd T p.2)) else none) = none := by split <;> first | exact hd | rfl
  simp only [evBuildSlice, hu, he, Nat.mul_one]
  rw [if_neg h0, if_pos h1, e]
  simp only [Nat.mul_one] at hf
  simp only [hr, hf]
theorem eqArr_of {P : Program} {t e n : Nat} {k : IntKind} {x y : Arr} {r : Bool} (hu : P.underlying t = some (.array n e)) (he : P.underlying e = some (.int k)) (hs : szT P e = some 1) (hx : x.size = n) (hy : y.size = n) (hr : x.alike y = some r) : eqArr P t x y = some r := by
  unfold szT at hs
  obtain ⟨i, hi, h1⟩ := Option.map_eq_some_iff.1 hs
  have hc : P.cellsOf e = 1 := by simp [Program.cellsOf, hi, h1]
  have hg : P.eqGuardType P.depth t = false := by
    show P.eqGuardType (2 * (P.types.size + Made.depth) + 1 + 1) t = false
    unfold Program.eqGuardType
    simp only [hu]
    unfold Program.eqGuardType
    simp only [he]
  unfold eqArr
  simp only [hu, he, hi, hc, hg, hx, hy, true_and, if_true, hr]
theorem v_eqlR8 {x y : Operand} {l m : List (BitVec 8)} {n e : Nat} (hx : opnd T x = .agg (.a8 l)) (hy : opnd T y = .agg (.a8 m)) (hu : P.underlying t = some (.array n e)) (he : P.underlying e = some (.int .u8)) (hs : szT P e = some 1) (hl : l.length = n) (hm : m.length = n) :
    evVal P (opnd T) M (.binOp .eql t x y t') = some (.c (.val (.bool (decide (l = m))))) := by
  show evBin P .eql t x y (opnd T x) (opnd T y) = _
  rw [hx, hy]
  simp only [evBin, eqArr_of hu he hs (x := .a8 l) (y := .a8 m) (r := decide (l = m)) hl hm rfl]
theorem v_eqlR32 {x y : Operand} {l m : List (BitVec 32)} {n e : Nat} (hx : opnd T x = .agg (.a32 l)) (hy : opnd T y = .agg (.a32 m)) (hu : P.underlying t = some (.array n e)) (he : P.underlying e = some (.int .u32)) (hs : szT P e = some 1) (hl : l.length = n) (hm : m.length = n) :
    evVal P (opnd T) M (.binOp .eql t x y t') = some (.c (.val (.bool (decide (l = m))))) := by
  show evBin P .eql t x y (opnd T x) (opnd T y) = _
  rw [hx, hy]
  simp only [evBin, eqArr_of hu he hs (x := .a32 l) (y := .a32 m) (r := decide (l = m)) hl hm rfl]
theorem v_eqlR64 {x y : Operand} {l m : List (BitVec 64)} {n e : Nat} (hx : opnd T x = .agg (.a64 l)) (hy : opnd T y = .agg (.a64 m)) (hu : P.underlying t = some (.array n e)) (he : P.underlying e = some (.int .u64)) (hs : szT P e = some 1) (hl : l.length = n) (hm : m.length = n) :
    evVal P (opnd T) M (.binOp .eql t x y t') = some (.c (.val (.bool (decide (l = m))))) := by
  show evBin P .eql t x y (opnd T x) (opnd T y) = _
  rw [hx, hy]
  simp only [evBin, eqArr_of hu he hs (x := .a64 l) (y := .a64 m) (r := decide (l = m)) hl hm rfl]
theorem v_neqR8 {x y : Operand} {l m : List (BitVec 8)} {n e : Nat} (hx : opnd T x = .agg (.a8 l)) (hy : opnd T y = .agg (.a8 m)) (hu : P.underlying t = some (.array n e)) (he : P.underlying e = some (.int .u8)) (hs : szT P e = some 1) (hl : l.length = n) (hm : m.length = n) :
    evVal P (opnd T) M (.binOp .neq t x y t') = some (.c (.val (.bool (!decide (l = m))))) := by
  show evBin P .neq t x y (opnd T x) (opnd T y) = _
  rw [hx, hy]
  simp only [evBin, eqArr_of hu he hs (x := .a8 l) (y := .a8 m) (r := decide (l = m)) hl hm rfl]
theorem v_neqR32 {x y : Operand} {l m : List (BitVec 32)} {n e : Nat} (hx : opnd T x = .agg (.a32 l)) (hy : opnd T y = .agg (.a32 m)) (hu : P.underlying t = some (.array n e)) (he : P.underlying e = some (.int .u32)) (hs : szT P e = some 1) (hl : l.length = n) (hm : m.length = n) :
    evVal P (opnd T) M (.binOp .neq t x y t') = some (.c (.val (.bool (!decide (l = m))))) := by
  show evBin P .neq t x y (opnd T x) (opnd T y) = _
  rw [hx, hy]
  simp only [evBin, eqArr_of hu he hs (x := .a32 l) (y := .a32 m) (r := decide (l = m)) hl hm rfl]
theorem v_neqR64 {x y : Operand} {l m : List (BitVec 64)} {n e : Nat} (hx : opnd T x = .agg (.a64 l)) (hy : opnd T y = .agg (.a64 m)) (hu : P.underlying t = some (.array n e)) (he : P.underlying e = some (.int .u64)) (hs : szT P e = some 1) (hl : l.length = n) (hm : m.length = n) :
    evVal P (opnd T) M (.binOp .neq t x y t') = some (.c (.val (.bool (!decide (l = m))))) := by
  show evBin P .neq t x y (opnd T x) (opnd T y) = _
  rw [hx, hy]
  simp only [evBin, eqArr_of hu he hs (x := .a64 l) (y := .a64 m) (r := decide (l = m)) hl hm rfl]
end
theorem CS_ {p : Prop} (h : p := by first | exact (rfl : _ = some (Arr.ac [_])) | exact (rfl : _ = some (Arr.ac [_, _])) | exact (rfl : _ = some (Arr.ac [_, _, _])) | exact (rfl : _ = some (Arr.ac [_, _, _, _])) | exact (rfl : _ = some (Arr.ac [_, _, _, _, _])) | exact (rfl : _ = some (Arr.ac [_, _, _, _, _, _]))) : p := h
end Go.Proofs.Ytcjponmaeamjdaa
/- The facts on the types of the program that the walks by abstract data ask for. (Printed by a program.) -/
namespace Go.Proofs.Ytcjponmaeamjdaa
open Go.RowKit
theorem row_2 : isRowT Try.prog 2 = some false := by kernel_rfl
theorem sz_2 : szT Try.prog 2 = some 1 := by kernel_rfl
theorem al_2 (m : Mem) : evAlloc Try.prog m 2 = some (.c (.ptr m.length 0), m ++ [.row true (.ai [0])]) := by kernel_rfl
theorem rep_2 (n : Nat) : repArr Try.prog 2 n = some (.ai (zeri n)) := by kernel_rfl
theorem el_2 : elemOk Try.prog 2 = some (1, 8) := by kernel_rfl
theorem row_3 : isRowT Try.prog 3 = some false := by kernel_rfl
theorem sz_3 : szT Try.prog 3 = some 1 := by kernel_rfl
theorem al_3 (m : Mem) : evAlloc Try.prog m 3 = some (.c (.ptr m.length 0), m ++ [.row true (.ai [0])]) := by kernel_rfl
theorem rep_3 (n : Nat) : repArr Try.prog 3 n = some (.ai (zeri n)) := by kernel_rfl
theorem el_3 : elemOk Try.prog 3 = some (1, 8) := by kernel_rfl
theorem row_4 : isRowT Try.prog 4 = some false := by kernel_rfl
theorem sz_4 : szT Try.prog 4 = some 1 := by kernel_rfl
theorem al_4 (m : Mem) : evAlloc Try.prog m 4 = some (.c (.ptr m.length 0), m ++ [.row true (.ac [.val (.bool false)])]) := by kernel_rfl
theorem el_4 : elemOk Try.prog 4 = some (1, 1) := by kernel_rfl
theorem row_5 : isRowT Try.prog 5 = some false := by kernel_rfl
theorem sz_5 : szT Try.prog 5 = some 1 := by kernel_rfl
theorem al_5 (m : Mem) : evAlloc Try.prog m 5 = some (.c (.ptr m.length 0), m ++ [.row true (.a8 [0#8])]) := by kernel_rfl
theorem rep_5 (n : Nat) : repArr Try.prog 5 n = some (.a8 (zer8 n)) := by kernel_rfl
theorem el_5 : elemOk Try.prog 5 = some (1, 1) := by kernel_rfl
theorem row_7 : isRowT Try.prog 7 = some true := by kernel_rfl
theorem sz_7 : szT Try.prog 7 = some 4 := by kernel_rfl
theorem al_7 (m : Mem) : evAlloc Try.prog m 7 = some (.c (.ptr m.length 0), m ++ [.row true (.ac [.val (.int .i64 0), .val (.int .i64 0), .val (.bool false), .val (.int .u8 0)])]) := by kernel_rfl
theorem el_7 : elemOk Try.prog 7 = some (4, 24) := by kernel_rfl
theorem row_9 : isRowT Try.prog 9 = some false := by kernel_rfl
theorem sz_9 : szT Try.prog 9 = some 1 := by kernel_rfl
theorem al_9 (m : Mem) : evAlloc Try.prog m 9 = some (.c (.ptr m.length 0), m ++ [.row true (.ac [.val (.string ByteArray.empty)])]) := by kernel_rfl
theorem el_9 : elemOk Try.prog 9 = some (1, 16) := by kernel_rfl
theorem row_12 : isRowT Try.prog 12 = some false := by kernel_rfl
theorem sz_12 : szT Try.prog 12 = some 1 := by kernel_rfl
theorem al_12 (m : Mem) : evAlloc Try.prog m 12 = some (.c (.ptr m.length 0), m ++ [.row true (.a64 [0#64])]) := by kernel_rfl
theorem rep_12 (n : Nat) : repArr Try.prog 12 n = some (.a64 (zer64 n)) := by kernel_rfl
theorem el_12 : elemOk Try.prog 12 = some (1, 8) := by kernel_rfl
theorem row_13 : isRowT Try.prog 13 = some true := by kernel_rfl
theorem sz_13 : szT Try.prog 13 = some 2 := by kernel_rfl
theorem al_13 (m : Mem) : evAlloc Try.prog m 13 = some (.c (.ptr m.length 0), m ++ [.row true (.ac [.val (.string ByteArray.empty), .val (.int .u64 0)])]) := by kernel_rfl
theorem el_13 : elemOk Try.prog 13 = some (2, 24) := by kernel_rfl
theorem row_15 : isRowT Try.prog 15 = some false := by kernel_rfl
theorem sz_15 : szT Try.prog 15 = some 1 := by kernel_rfl
theorem row_16 : isRowT Try.prog 16 = some false := by kernel_rfl
theorem sz_16 : szT Try.prog 16 = some 1 := by kernel_rfl
theorem row_18 : isRowT Try.prog 18 = some true := by kernel_rfl
theorem sz_18 : szT Try.prog 18 = some 1 := by kernel_rfl
theorem el_18 : elemOk Try.prog 18 = some (1, 8) := by kernel_rfl
theorem row_19 : isRowT Try.prog 19 = some true := by kernel_rfl
theorem sz_19 : szT Try.prog 19 = some 1 := by kernel_rfl
theorem el_19 : elemOk Try.prog 19 = some (1, 8) := by kernel_rfl
theorem row_21 : isRowT Try.prog 21 = some false := by kernel_rfl
theorem sz_21 : szT Try.prog 21 = some 1 := by kernel_rfl
theorem al_21 (m : Mem) : evAlloc Try.prog m 21 = some (.c (.ptr m.length 0), m ++ [.row true (.ac [.val (.int .i32 0)])]) := by kernel_rfl
theorem el_21 : elemOk Try.prog 21 = some (1, 4) := by kernel_rfl
theorem row_22 : isRowT Try.prog 22 = some true := by kernel_rfl
theorem sz_22 : szT Try.prog 22 = some 32 := by kernel_rfl
theorem al_22 (m : Mem) : evAlloc Try.prog m 22 = some (.c (.ptr m.length 0), m ++ [.row true (.a8 (zer8 32))]) := by kernel_rfl
theorem zc_22 : (Try.prog.info? 22).bind (fun i => i.zero.map (·.cells.size)) = some 32 := by kernel_rfl
theorem za_22 : (Try.prog.info? 22).bind (fun i => i.zero.map (fun z => absArr z.cells.toList)) = some (.a8 (zer8 32)) := by kernel_rfl
theorem el_22 : elemOk Try.prog 22 = some (32, 32) := by kernel_rfl
theorem row_23 : isRowT Try.prog 23 = some true := by kernel_rfl
theorem sz_23 : szT Try.prog 23 = some 12 := by kernel_rfl
theorem al_23 (m : Mem) : evAlloc Try.prog m 23 = some (.c (.ptr m.length 0), m ++ [.row true (.a8 (zer8 12))]) := by kernel_rfl
theorem zc_23 : (Try.prog.info? 23).bind (fun i => i.zero.map (·.cells.size)) = some 12 := by kernel_rfl
theorem za_23 : (Try.prog.info? 23).bind (fun i => i.zero.map (fun z => absArr z.cells.toList)) = some (.a8 (zer8 12)) := by kernel_rfl
theorem el_23 : elemOk Try.prog 23 = some (12, 12) := by kernel_rfl
theorem row_24 : isRowT Try.prog 24 = some false := by kernel_rfl
theorem sz_24 : szT Try.prog 24 = some 1 := by kernel_rfl
theorem al_24 (m : Mem) : evAlloc Try.prog m 24 = some (.c (.ptr m.length 0), m ++ [.row true (.ac [.nsl])]) := by kernel_rfl
theorem rep_24 (n : Nat) : repArr Try.prog 24 n = some (.ac (List.replicate n .nsl)) := by kernel_rfl
theorem el_24 : elemOk Try.prog 24 = some (1, 24) := by kernel_rfl
theorem row_26 : isRowT Try.prog 26 = some false := by kernel_rfl
theorem sz_26 : szT Try.prog 26 = some 1 := by kernel_rfl
theorem al_26 (m : Mem) : evAlloc Try.prog m 26 = some (.c (.ptr m.length 0), m ++ [.row true (.ai [0])]) := by kernel_rfl
theorem el_26 : elemOk Try.prog 26 = some (1, 8) := by kernel_rfl
theorem row_36 : isRowT Try.prog 36 = some false := by kernel_rfl
theorem sz_36 : szT Try.prog 36 = some 1 := by kernel_rfl
theorem al_36 (m : Mem) : evAlloc Try.prog m 36 = some (.c (.ptr m.length 0), m ++ [.row true (.a64 [0#64])]) := by kernel_rfl
theorem rep_36 (n : Nat) : repArr Try.prog 36 n = some (.a64 (zer64 n)) := by kernel_rfl
theorem el_36 : elemOk Try.prog 36 = some (1, 8) := by kernel_rfl
theorem row_39 : isRowT Try.prog 39 = some true := by kernel_rfl
theorem sz_39 : szT Try.prog 39 = some 64 := by kernel_rfl
theorem al_39 (m : Mem) : evAlloc Try.prog m 39 = some (.c (.ptr m.length 0), m ++ [.row true (.a8 (zer8 64))]) := by kernel_rfl
theorem zc_39 : (Try.prog.info? 39).bind (fun i => i.zero.map (·.cells.size)) = some 64 := by kernel_rfl
theorem za_39 : (Try.prog.info? 39).bind (fun i => i.zero.map (fun z => absArr z.cells.toList)) = some (.a8 (zer8 64)) := by kernel_rfl
theorem el_39 : elemOk Try.prog 39 = some (64, 64) := by kernel_rfl
theorem row_41 : isRowT Try.prog 41 = some false := by kernel_rfl
theorem sz_41 : szT Try.prog 41 = some 1 := by kernel_rfl
theorem al_41 (m : Mem) : evAlloc Try.prog m 41 = some (.c (.ptr m.length 0), m ++ [.row true (.a32 [0#32])]) := by kernel_rfl
theorem rep_41 (n : Nat) : repArr Try.prog 41 n = some (.a32 (zer32 n)) := by kernel_rfl
theorem el_41 : elemOk Try.prog 41 = some (1, 4) := by kernel_rfl
theorem row_42 : isRowT Try.prog 42 = some true := by kernel_rfl
theorem sz_42 : szT Try.prog 42 = some 16 := by kernel_rfl
theorem al_42 (m : Mem) : evAlloc Try.prog m 42 = some (.c (.ptr m.length 0), m ++ [.row true (.a8 (zer8 16))]) := by kernel_rfl
theorem zc_42 : (Try.prog.info? 42).bind (fun i => i.zero.map (·.cells.size)) = some 16 := by kernel_rfl
theorem za_42 : (Try.prog.info? 42).bind (fun i => i.zero.map (fun z => absArr z.cells.toList)) = some (.a8 (zer8 16)) := by kernel_rfl
theorem el_42 : elemOk Try.prog 42 = some (16, 16) := by kernel_rfl
theorem row_50 : isRowT Try.prog 50 = some true := by kernel_rfl
theorem sz_50 : szT Try.prog 50 = some 16 := by kernel_rfl
theorem al_50 (m : Mem) : evAlloc Try.prog m 50 = some (.c (.ptr m.length 0), m ++ [.row true (.a32 (zer32 16))]) := by kernel_rfl
theorem zc_50 : (Try.prog.info? 50).bind (fun i => i.zero.map (·.cells.size)) = some 16 := by kernel_rfl
theorem za_50 : (Try.prog.info? 50).bind (fun i => i.zero.map (fun z => absArr z.cells.toList)) = some (.a32 (zer32 16)) := by kernel_rfl
theorem el_50 : elemOk Try.prog 50 = some (16, 64) := by kernel_rfl
theorem row_51 : isRowT Try.prog 51 = some false := by kernel_rfl
theorem sz_51 : szT Try.prog 51 = some 1 := by kernel_rfl
theorem al_51 (m : Mem) : evAlloc Try.prog m 51 = some (.c (.ptr m.length 0), m ++ [.row true (.a64 [0#64])]) := by kernel_rfl
theorem rep_51 (n : Nat) : repArr Try.prog 51 n = some (.a64 (zer64 n)) := by kernel_rfl
theorem el_51 : elemOk Try.prog 51 = some (1, 8) := by kernel_rfl
theorem row_54 : isRowT Try.prog 54 = some false := by kernel_rfl
theorem sz_54 : szT Try.prog 54 = some 1 := by kernel_rfl
theorem row_55 : isRowT Try.prog 55 = some false := by kernel_rfl
theorem sz_55 : szT Try.prog 55 = some 1 := by kernel_rfl
theorem al_55 (m : Mem) : evAlloc Try.prog m 55 = some (.c (.ptr m.length 0), m ++ [.row true (.ac [.nsl])]) := by kernel_rfl
theorem rep_55 (n : Nat) : repArr Try.prog 55 n = some (.ac (List.replicate n .nsl)) := by kernel_rfl
theorem el_55 : elemOk Try.prog 55 = some (1, 24) := by kernel_rfl
theorem row_56 : isRowT Try.prog 56 = some true := by kernel_rfl
theorem sz_56 : szT Try.prog 56 = some 5 := by kernel_rfl
theorem al_56 (m : Mem) : evAlloc Try.prog m 56 = some (.c (.ptr m.length 0), m ++ [.row true (.a64 (zer64 5))]) := by kernel_rfl
theorem zc_56 : (Try.prog.info? 56).bind (fun i => i.zero.map (·.cells.size)) = some 5 := by kernel_rfl
theorem za_56 : (Try.prog.info? 56).bind (fun i => i.zero.map (fun z => absArr z.cells.toList)) = some (.a64 (zer64 5)) := by kernel_rfl
theorem el_56 : elemOk Try.prog 56 = some (5, 40) := by kernel_rfl
theorem row_57 : isRowT Try.prog 57 = some true := by kernel_rfl
theorem sz_57 : szT Try.prog 57 = some 5 := by kernel_rfl
theorem al_57 (m : Mem) : evAlloc Try.prog m 57 = some (.c (.ptr m.length 0), m ++ [.row true (.a64 (zer64 5))]) := by kernel_rfl
theorem zc_57 : (Try.prog.info? 57).bind (fun i => i.zero.map (·.cells.size)) = some 5 := by kernel_rfl
theorem za_57 : (Try.prog.info? 57).bind (fun i => i.zero.map (fun z => absArr z.cells.toList)) = some (.a64 (zer64 5)) := by kernel_rfl
theorem el_57 : elemOk Try.prog 57 = some (5, 40) := by kernel_rfl
theorem row_62 : isRowT Try.prog 62 = some false := by kernel_rfl
theorem sz_62 : szT Try.prog 62 = some 1 := by kernel_rfl
theorem al_62 (m : Mem) : evAlloc Try.prog m 62 = some (.c (.ptr m.length 0), m ++ [.row true (.ac [.nsl])]) := by kernel_rfl
theorem rep_62 (n : Nat) : repArr Try.prog 62 n = some (.ac (List.replicate n .nsl)) := by kernel_rfl
theorem el_62 : elemOk Try.prog 62 = some (1, 24) := by kernel_rfl
theorem row_68 : isRowT Try.prog 68 = some true := by kernel_rfl
theorem sz_68 : szT Try.prog 68 = some 64 := by kernel_rfl
theorem al_68 (m : Mem) : evAlloc Try.prog m 68 = some (.c (.ptr m.length 0), m ++ [.row true (.a32 (zer32 64))]) := by kernel_rfl
theorem zc_68 : (Try.prog.info? 68).bind (fun i => i.zero.map (·.cells.size)) = some 64 := by kernel_rfl
theorem za_68 : (Try.prog.info? 68).bind (fun i => i.zero.map (fun z => absArr z.cells.toList)) = some (.a32 (zer32 64)) := by kernel_rfl
theorem el_68 : elemOk Try.prog 68 = some (64, 256) := by kernel_rfl
theorem row_69 : isRowT Try.prog 69 = some true := by kernel_rfl
theorem sz_69 : szT Try.prog 69 = some 64 := by kernel_rfl
theorem al_69 (m : Mem) : evAlloc Try.prog m 69 = some (.c (.ptr m.length 0), m ++ [.row true (.a32 (zer32 64))]) := by kernel_rfl
theorem zc_69 : (Try.prog.info? 69).bind (fun i => i.zero.map (·.cells.size)) = some 64 := by kernel_rfl
theorem za_69 : (Try.prog.info? 69).bind (fun i => i.zero.map (fun z => absArr z.cells.toList)) = some (.a32 (zer32 64)) := by kernel_rfl
theorem el_69 : elemOk Try.prog 69 = some (64, 256) := by kernel_rfl
theorem row_72 : isRowT Try.prog 72 = some true := by kernel_rfl
theorem sz_72 : szT Try.prog 72 = some 4 := by kernel_rfl
theorem el_72 : elemOk Try.prog 72 = some (4, 40) := by kernel_rfl
theorem row_81 : isRowT Try.prog 81 = some false := by kernel_rfl
theorem sz_81 : szT Try.prog 81 = some 1 := by kernel_rfl
theorem row_84 : isRowT Try.prog 84 = some true := by kernel_rfl
theorem sz_84 : szT Try.prog 84 = some 11 := by kernel_rfl
theorem el_84 : elemOk Try.prog 84 = some (11, 48) := by kernel_rfl
theorem ok_3 : (Try.prog.funcs[3]?).any (fun fn => fn.body.isSome && !(fn.name == "runtime.NumGoroutine")) = true := by rw [Try.func3]; rfl
theorem ok_4 : (Try.prog.funcs[4]?).any (fun fn => fn.body.isSome && !(fn.name == "runtime.NumGoroutine")) = true := by rw [Try.func4]; rfl
theorem ok_5 : (Try.prog.funcs[5]?).any (fun fn => fn.body.isSome && !(fn.name == "runtime.NumGoroutine")) = true := by rw [Try.func5]; rfl
theorem ok_6 : (Try.prog.funcs[6]?).any (fun fn => fn.body.isSome && !(fn.name == "runtime.NumGoroutine")) = true := by rw [Try.func6]; rfl
theorem ok_7 : (Try.prog.funcs[7]?).any (fun fn => fn.body.isSome && !(fn.name == "runtime.NumGoroutine")) = true := by rw [Try.func7]; rfl
theorem ok_8 : (Try.prog.funcs[8]?).any (fun fn => fn.body.isSome && !(fn.name == "runtime.NumGoroutine")) = true := by rw [Try.func8]; rfl
theorem ok_9 : (Try.prog.funcs[9]?).any (fun fn => fn.body.isSome && !(fn.name == "runtime.NumGoroutine")) = true := by rw [Try.func9]; rfl
theorem ok_10 : (Try.prog.funcs[10]?).any (fun fn => fn.body.isSome && !(fn.name == "runtime.NumGoroutine")) = true := by rw [Try.func10]; rfl
theorem ok_11 : (Try.prog.funcs[11]?).any (fun fn => fn.body.isSome && !(fn.name == "runtime.NumGoroutine")) = true := by rw [Try.func11]; rfl
theorem ok_12 : (Try.prog.funcs[12]?).any (fun fn => fn.body.isSome && !(fn.name == "runtime.NumGoroutine")) = true := by rw [Try.func12]; rfl
theorem ok_13 : (Try.prog.funcs[13]?).any (fun fn => fn.body.isSome && !(fn.name == "runtime.NumGoroutine")) = true := by rw [Try.func13]; rfl
theorem ok_14 : (Try.prog.funcs[14]?).any (fun fn => fn.body.isSome && !(fn.name == "runtime.NumGoroutine")) = true := by rw [Try.func14]; rfl
theorem ok_15 : (Try.prog.funcs[15]?).any (fun fn => fn.body.isSome && !(fn.name == "runtime.NumGoroutine")) = true := by rw [Try.func15]; rfl
theorem ok_16 : (Try.prog.funcs[16]?).any (fun fn => fn.body.isSome && !(fn.name == "runtime.NumGoroutine")) = true := by rw [Try.func16]; rfl
theorem ok_17 : (Try.prog.funcs[17]?).any (fun fn => fn.body.isSome && !(fn.name == "runtime.NumGoroutine")) = true := by rw [Try.func17]; rfl
theorem ok_18 : (Try.prog.funcs[18]?).any (fun fn => fn.body.isSome && !(fn.name == "runtime.NumGoroutine")) = true := by rw [Try.func18]; rfl
theorem ok_19 : (Try.prog.funcs[19]?).any (fun fn => fn.body.isSome && !(fn.name == "runtime.NumGoroutine")) = true := by rw [Try.func19]; rfl
theorem ok_20 : (Try.prog.funcs[20]?).any (fun fn => fn.body.isSome && !(fn.name == "runtime.NumGoroutine")) = true := by rw [Try.func20]; rfl
theorem ok_21 : (Try.prog.funcs[21]?).any (fun fn => fn.body.isSome && !(fn.name == "runtime.NumGoroutine")) = true := by rw [Try.func21]; rfl
theorem ok_22 : (Try.prog.funcs[22]?).any (fun fn => fn.body.isSome && !(fn.name == "runtime.NumGoroutine")) = true := by rw [Try.func22]; rfl
theorem ok_23 : (Try.prog.funcs[23]?).any (fun fn => fn.body.isSome && !(fn.name == "runtime.NumGoroutine")) = true := by rw [Try.func23]; rfl
theorem ok_24 : (Try.prog.funcs[24]?).any (fun fn => fn.body.isSome && !(fn.name == "runtime.NumGoroutine")) = true := by rw [Try.func24]; rfl
theorem ok_25 : (Try.prog.funcs[25]?).any (fun fn => fn.body.isSome && !(fn.name == "runtime.NumGoroutine")) = true := by rw [Try.func25]; rfl
theorem ok_26 : (Try.prog.funcs[26]?).any (fun fn => fn.body.isSome && !(fn.name == "runtime.NumGoroutine")) = true := by rw [Try.func26]; rfl
theorem ok_27 : (Try.prog.funcs[27]?).any (fun fn => fn.body.isSome && !(fn.name == "runtime.NumGoroutine")) = true := by rw [Try.func27]; rfl
theorem ok_28 : (Try.prog.funcs[28]?).any (fun fn => fn.body.isSome && !(fn.name == "runtime.NumGoroutine")) = true := by rw [Try.func28]; rfl
theorem ok_29 : (Try.prog.funcs[29]?).any (fun fn => fn.body.isSome && !(fn.name == "runtime.NumGoroutine")) = true := by rw [Try.func29]; rfl
theorem ok_30 : (Try.prog.funcs[30]?).any (fun fn => fn.body.isSome && !(fn.name == "runtime.NumGoroutine")) = true := by rw [Try.func30]; rfl
theorem ok_31 : (Try.prog.funcs[31]?).any (fun fn => fn.body.isSome && !(fn.name == "runtime.NumGoroutine")) = true := by rw [Try.func31]; rfl
theorem ok_32 : (Try.prog.funcs[32]?).any (fun fn => fn.body.isSome && !(fn.name == "runtime.NumGoroutine")) = true := by rw [Try.func32]; rfl
theorem ok_33 : (Try.prog.funcs[33]?).any (fun fn => fn.body.isSome && !(fn.name == "runtime.NumGoroutine")) = true := by rw [Try.func33]; rfl
theorem ok_34 : (Try.prog.funcs[34]?).any (fun fn => fn.body.isSome && !(fn.name == "runtime.NumGoroutine")) = true := by rw [Try.func34]; rfl
theorem ok_35 : (Try.prog.funcs[35]?).any (fun fn => fn.body.isSome && !(fn.name == "runtime.NumGoroutine")) = true := by rw [Try.func35]; rfl
theorem ext_36 : ExtIs Try.prog 36 add64Entry := ⟨⟨_, Try.func36, by kernel_rfl, by kernel_rfl, by kernel_rfl, by kernel_rfl⟩⟩
theorem ok_37 : (Try.prog.funcs[37]?).any (fun fn => fn.body.isSome && !(fn.name == "runtime.NumGoroutine")) = true := by rw [Try.func37]; rfl
theorem ok_38 : (Try.prog.funcs[38]?).any (fun fn => fn.body.isSome && !(fn.name == "runtime.NumGoroutine")) = true := by rw [Try.func38]; rfl
theorem ok_39 : (Try.prog.funcs[39]?).any (fun fn => fn.body.isSome && !(fn.name == "runtime.NumGoroutine")) = true := by rw [Try.func39]; rfl
theorem ok_40 : (Try.prog.funcs[40]?).any (fun fn => fn.body.isSome && !(fn.name == "runtime.NumGoroutine")) = true := by rw [Try.func40]; rfl
theorem mixed : Try.prog.follows .mixedOrders = true := by kernel_rfl
end Go.Proofs.Ytcjponmaeamjdaa
/- aead.full (Drawn up by a program.) -/
namespace Go.Proofs.Ytcjponmaeamjdaa
open Go.RowKit
def adFull_L1_S (X1 : List (BitVec 8)) : List (BitVec 8) := X1 ++ [0#8]
def adFull_L1 (b : List (BitVec 8)) : Nat → List (BitVec 8)
  | 0 => b
  | j1 + 1 => adFull_L1_S (adFull_L1 b j1)
@[simp] theorem adFull_L1_len (b : List (BitVec 8)) (j1 : Nat) : (adFull_L1 b j1).length = b.length + j1 := by
  induction j1 with
  | zero => first | (simp [adFull_L1, *]; done) | (simp [adFull_L1, *]; omega)
  | succ j1 ih => rw [adFull_L1.eq_2, adFull_L1_S]; first | (simp [ih]; done) | (simp [ih]; omega) | (simp [*]; done) | (simp [*]; omega) | (split <;> first | (simp [ih]; done) | (simp [ih]; omega) | (simp [*]; done))
def adFull (b : List (BitVec 8)) : List (BitVec 8) := (adFull_L1 b ((16 - b.length % 16) % 16))
set_option maxRecDepth 100000 in
set_option maxHeartbeats 2000000 in
theorem adFull_ev (b : List (BitVec 8)) (n : Nat) (cap : Nat) (hb : b.length = n) (hn : n ≤ 1099511627776) : Ev Try.prog (.call 37 [.c (.sl 0 0 n cap 1)] [.row true (.a8 (b))]) (.val (.c (.sl 1 0 (n + (16 - n % 16) % 16) (n + (16 - n % 16) % 16) 1)) [.dead, .row true (.a8 (adFull b))]) := by
  have hP : Hid (adFull b = (adFull_L1 b ((16 - b.length % 16) % 16))) := ⟨rfl⟩
  try simp only [hb] at hP
  refine c_call Try.func37 rfl Try.ntmps37 rfl LEN_ ?_
  refine S_ ?_
  refine c_region ?_
  refine s_val (v_assignC rfl) rfl ?_
  refine s_nil ?_
  refine S_ ?_
  refine c_move 0 rfl rfl LEN_ rfl ?_
  refine S_ ?_
  refine c_loopC [0] (fun (zz : Nat × List (BitVec 8)) => ⟨11, keepT [0] [.c (.sl 1 0 (n + zz.1) (n + zz.1) 1)], [.dead, .row true (.a8 (zz.2))]⟩) (fun j1 => (j1, adFull_L1 b j1)) ((16 - n % 16) % 16) (by kernel_rfl) ?_ ?_
  · intro j1 hj1
    try dsimp only
    have hX1 : (adFull_L1 b j1).length = n + j1 := by rw [adFull_L1_len b _]; try omega
    rw [adFull_L1.eq_2, adFull_L1_S]
    try simp only [hb]
    generalize adFull_L1 b j1 = X1 at *
    refine S_ ?_
    refine c_region ?_
    refine s_val (v_moveC rfl) rfl ?_
    refine s_val (v_lenS rfl Try.underlying24) rfl ?_
    refine s_val (v_remN (b := 16) rfl rfl (by omega) (by omega)) rfl ?_
    refine s_val (v_neqN (b := 0) rfl rfl) rfl ?_
    refine s_nil ?_
    refine S_ ?_
    refine c_region ?_
    refine s_val (v_moveC rfl) rfl ?_
    refine s_memN (m_bs8 (l := [0#8]) Try.underlying24 el_5 rfl rfl (by decide) (by decide) LEN_) APP_ rfl ?_
    refine s_app8 rfl rfl rfl rfl Try.underlying24 Try.underlying24 el_5 EQL_ EQL_ (by omega) LEN_ KILL_ rfl ?_
    refine s_val (v_assignC rfl) rfl ?_
    refine s_nil ?_
    exact ⟨(j1 + 1, _), by kernel_rfl, rfl⟩
  · try dsimp only
    have hY2 : (adFull_L1 b ((16 - n % 16) % 16)).length = n + (16 - n % 16) % 16 := by rw [adFull_L1_len b _]; try omega
    generalize adFull_L1 b ((16 - n % 16) % 16) = Y2 at *
    refine S_ ?_
    refine c_region ?_
    refine s_val (v_moveC rfl) rfl ?_
    refine s_val (v_lenS rfl Try.underlying24) rfl ?_
    refine s_val (v_remN (b := 16) rfl rfl (by omega) (by omega)) rfl ?_
    refine s_val (v_neqN (b := 0) rfl rfl) rfl ?_
    refine s_nil ?_
    refine S_ ?_
    refine c_region ?_
    refine s_val (v_moveC rfl) rfl ?_
    refine s_val (v_assignC rfl) rfl ?_
    refine s_nil ?_
    refine S_ ?_
    rw [hP.out]
    exact k_1 (by first | exact r_tmpC rfl | exact r_tmpA rfl) (by first | kernel_rfl | rfl)

@[simp] theorem adFull_len (b : List (BitVec 8)) : (adFull b).length = b.length + (16 - b.length % 16) % 16 := by
  unfold adFull
  first | (simp [adFull_L1_len, *]; done) | (simp [adFull_L1_len, *]; omega)

attribute [irreducible] adFull
end Go.Proofs.Ytcjponmaeamjdaa
/- math/bits.RotateLeft32 (Drawn up by a program.) -/
namespace Go.Proofs.Ytcjponmaeamjdaa
open Go.RowKit
def rotl32 (x : BitVec 32) (k : Int) : BitVec 32 := (x <<< ((BitVec.ofInt 64 k) &&& 31#64).toNat) ||| (x >>> (32#64 - ((BitVec.ofInt 64 k) &&& 31#64)).toNat)
set_option maxRecDepth 100000 in
set_option maxHeartbeats 2000000 in
theorem rotl32_ev (x : BitVec 32) (k : Int)  : Ev Try.prog (.call 33 [.c (.val (U32 x)), .c (.val (.int .i64 k))] []) (.val (.c (.val (U32 (rotl32 x k)))) []) := by
  have hP : Hid (rotl32 x k = (x <<< ((BitVec.ofInt 64 k) &&& 31#64).toNat) ||| (x >>> (32#64 - ((BitVec.ofInt 64 k) &&& 31#64)).toNat)) := ⟨rfl⟩
  refine c_call Try.func33 rfl Try.ntmps33 rfl LEN_ ?_
  refine S_ ?_
  refine c_region ?_
  refine s_val (v_assignC rfl) rfl ?_
  refine s_nil ?_
  refine S_ ?_
  refine c_region ?_
  refine s_val (v_moveC rfl) rfl ?_
  refine s_val (v_conv rfl Try.underlying3 Try.underlying36 (wI_64 _)) rfl ?_
  refine s_val (v_and64 (b := 31#64) rfl rfl) rfl ?_
  refine s_val (v_assignC rfl) rfl ?_
  refine s_nil ?_
  refine S_ ?_
  refine c_region ?_
  refine s_val (v_moveC rfl) rfl ?_
  refine s_val (v_moveC rfl) rfl ?_
  refine s_val (v_shl32w rfl rfl) rfl ?_
  refine s_val (v_moveC rfl) rfl ?_
  refine s_val (v_moveC rfl) rfl ?_
  refine s_val (v_sub64 (a := 32#64) rfl rfl) rfl ?_
  refine s_val (v_shr32w rfl rfl) rfl ?_
  refine s_val (v_or32 rfl rfl) rfl ?_
  refine s_val (v_assignC rfl) rfl ?_
  refine s_nil ?_
  refine S_ ?_
  rw [hP.out]
  exact k_1 (by first | exact r_tmpC rfl | exact r_tmpA rfl) (by first | kernel_rfl | rfl)

attribute [irreducible] rotl32
end Go.Proofs.Ytcjponmaeamjdaa
/- chacha.quarter (Drawn up by a program.) -/
namespace Go.Proofs.Ytcjponmaeamjdaa
open Go.RowKit
def quar_R0 (x : List (BitVec 32)) (a : Nat) (b : Nat) : List (BitVec 32) := put x a ((nth x a) + (nth x b))
@[simp] theorem quar_R0_len (x : List (BitVec 32)) (a : Nat) (b : Nat) : (quar_R0 x a b).length = x.length := by simp [quar_R0]
def quar_R1 (a : Nat) (d : Nat) (X1 : List (BitVec 32)) : List (BitVec 32) := put X1 d (rotl32 ((nth X1 d) ^^^ (nth X1 a)) ((16 : Nat) : Int))
@[simp] theorem quar_R1_len (a : Nat) (d : Nat) (X1 : List (BitVec 32)) : (quar_R1 a d X1).length = X1.length := by simp [quar_R1]
def quar_R2 (c : Nat) (d : Nat) (X2 : List (BitVec 32)) : List (BitVec 32) := put X2 c ((nth X2 c) + (nth X2 d))
@[simp] theorem quar_R2_len (c : Nat) (d : Nat) (X2 : List (BitVec 32)) : (quar_R2 c d X2).length = X2.length := by simp [quar_R2]
def quar_R3 (b : Nat) (c : Nat) (X3 : List (BitVec 32)) : List (BitVec 32) := put X3 b (rotl32 ((nth X3 b) ^^^ (nth X3 c)) ((12 : Nat) : Int))
@[simp] theorem quar_R3_len (b : Nat) (c : Nat) (X3 : List (BitVec 32)) : (quar_R3 b c X3).length = X3.length := by simp [quar_R3]
def quar_R4 (a : Nat) (b : Nat) (X4 : List (BitVec 32)) : List (BitVec 32) := put X4 a ((nth X4 a) + (nth X4 b))
@[simp] theorem quar_R4_len (a : Nat) (b : Nat) (X4 : List (BitVec 32)) : (quar_R4 a b X4).length = X4.length := by simp [quar_R4]
def quar_R5 (a : Nat) (d : Nat) (X5 : List (BitVec 32)) : List (BitVec 32) := put X5 d (rotl32 ((nth X5 d) ^^^ (nth X5 a)) ((8 : Nat) : Int))
@[simp] theorem quar_R5_len (a : Nat) (d : Nat) (X5 : List (BitVec 32)) : (quar_R5 a d X5).length = X5.length := by simp [quar_R5]
def quar_R6 (c : Nat) (d : Nat) (X6 : List (BitVec 32)) : List (BitVec 32) := put X6 c ((nth X6 c) + (nth X6 d))
@[simp] theorem quar_R6_len (c : Nat) (d : Nat) (X6 : List (BitVec 32)) : (quar_R6 c d X6).length = X6.length := by simp [quar_R6]
def quar_R7 (b : Nat) (c : Nat) (X7 : List (BitVec 32)) : List (BitVec 32) := put X7 b (rotl32 ((nth X7 b) ^^^ (nth X7 c)) ((7 : Nat) : Int))
@[simp] theorem quar_R7_len (b : Nat) (c : Nat) (X7 : List (BitVec 32)) : (quar_R7 b c X7).length = X7.length := by simp [quar_R7]
def quar (x : List (BitVec 32)) (a : Nat) (b : Nat) (c : Nat) (d : Nat) : List (BitVec 32) := (quar_R7 b c (quar_R6 c d (quar_R5 a d (quar_R4 a b (quar_R3 b c (quar_R2 c d (quar_R1 a d (quar_R0 x a b))))))))
set_option maxRecDepth 100000 in
set_option maxHeartbeats 2000000 in
theorem quar_ev (x : List (BitVec 32)) (a : Nat) (b : Nat) (c : Nat) (d : Nat) (hx : x.length = 16) (ha : a ≤ 1099511627776) (hb : b ≤ 1099511627776) (hc : c ≤ 1099511627776) (hd : d ≤ 1099511627776) (la : a < 16) (lb : b < 16) (lc : c < 16) (ld : d < 16) : Ev Try.prog (.call 24 [.c (.ptr 0 0), .c (.val (.int .i64 ((a : Nat) : Int))), .c (.val (.int .i64 ((b : Nat) : Int))), .c (.val (.int .i64 ((c : Nat) : Int))), .c (.val (.int .i64 ((d : Nat) : Int)))] [.row true (.a32 (x))]) (.val (.tup []) [.row true (.a32 (quar x a b c d))]) := by
  have hP_quar : Hid (quar x a b c d = (quar_R7 b c (quar_R6 c d (quar_R5 a d (quar_R4 a b (quar_R3 b c (quar_R2 c d (quar_R1 a d (quar_R0 x a b))))))))) := ⟨rfl⟩
  refine c_call Try.func24 rfl Try.ntmps24 rfl LEN_ ?_
  refine S_ ?_
  refine c_draw 13 mixed (by kernel_rfl) rfl rfl rfl ?_
  refine h_val (v_moveC rfl) rfl ?_
  refine h_val (v_moveC rfl) rfl ?_
  refine h_val (v_nilP rfl) rfl ?_
  refine h_val (v_idxA1 rfl rfl Try.underlying50 sz_41 (by omega)) rfl ?_
  refine h_val (v_load32 rfl rfl row_41 LT_) rfl ?_
  refine h_val (v_moveC rfl) rfl ?_
  refine h_val (v_moveC rfl) rfl ?_
  refine h_val (v_nilP rfl) rfl ?_
  refine h_val (v_idxA1 rfl rfl Try.underlying50 sz_41 (by omega)) rfl ?_
  refine h_val (v_load32 rfl rfl row_41 LT_) rfl ?_
  refine h_val (v_add32 rfl rfl) rfl ?_
  refine h_val (v_nilP rfl) rfl ?_
  refine h_val (v_idxA1 rfl rfl Try.underlying50 sz_41 (by omega)) rfl ?_
  refine h_nil ?_
  refine s_store32 rfl rfl rfl sz_41 LT_ SET_ ?_
  refine s_nil ?_
  rw [show (put x a ((nth x a) + (nth x b))) = quar_R0 x a b from rfl]
  have hX1 : (quar_R0 x a b).length = 16 := LQ_
  generalize quar_R0 x a b = X1 at *
  refine S_ ?_
  refine c_draw 16 mixed (by kernel_rfl) rfl rfl rfl ?_
  refine h_val (v_moveC rfl) rfl ?_
  refine h_val (v_moveC rfl) rfl ?_
  refine h_val (v_moveC rfl) rfl ?_
  refine h_val (v_moveC rfl) rfl ?_
  refine h_val (v_nilP rfl) rfl ?_
  refine h_val (v_idxA1 rfl rfl Try.underlying50 sz_41 (by omega)) rfl ?_
  refine h_val (v_load32 rfl rfl row_41 LT_) rfl ?_
  refine h_val (v_moveC rfl) rfl ?_
  refine h_val (v_moveC rfl) rfl ?_
  refine h_val (v_nilP rfl) rfl ?_
  refine h_val (v_idxA1 rfl rfl Try.underlying50 sz_41 (by omega)) rfl ?_
  refine h_val (v_load32 rfl rfl row_41 LT_) rfl ?_
  refine h_val (v_xor32 rfl rfl) rfl ?_
  refine h_evN (e_callR (bs := []) (rotl32_ev ((nth X1 d) ^^^ (nth X1 a)) ((16 : Nat) : Int)) ok_33 (by kernel_rfl) (by kernel_rfl) rfl VAL_) APP_ rfl ?_
  refine h_val (v_nilP rfl) rfl ?_
  refine h_val (v_idxA1 rfl rfl Try.underlying50 sz_41 (by omega)) rfl ?_
  refine h_nil ?_
  refine s_store32 rfl rfl rfl sz_41 LT_ SET_ ?_
  refine s_nil ?_
  rw [show (put X1 d (rotl32 ((nth X1 d) ^^^ (nth X1 a)) ((16 : Nat) : Int))) = quar_R1 a d X1 from rfl]
  have hX2 : (quar_R1 a d X1).length = 16 := LQ_
  generalize quar_R1 a d X1 = X2 at *
  refine S_ ?_
  refine c_draw 13 mixed (by kernel_rfl) rfl rfl rfl ?_
  refine h_val (v_moveC rfl) rfl ?_
  refine h_val (v_moveC rfl) rfl ?_
  refine h_val (v_nilP rfl) rfl ?_
  refine h_val (v_idxA1 rfl rfl Try.underlying50 sz_41 (by omega)) rfl ?_
  refine h_val (v_load32 rfl rfl row_41 LT_) rfl ?_
  refine h_val (v_moveC rfl) rfl ?_
  refine h_val (v_moveC rfl) rfl ?_
  refine h_val (v_nilP rfl) rfl ?_
  refine h_val (v_idxA1 rfl rfl Try.underlying50 sz_41 (by omega)) rfl ?_
  refine h_val (v_load32 rfl rfl row_41 LT_) rfl ?_
  refine h_val (v_add32 rfl rfl) rfl ?_
  refine h_val (v_nilP rfl) rfl ?_
  refine h_val (v_idxA1 rfl rfl Try.underlying50 sz_41 (by omega)) rfl ?_
  refine h_nil ?_
  refine s_store32 rfl rfl rfl sz_41 LT_ SET_ ?_
  refine s_nil ?_
  rw [show (put X2 c ((nth X2 c) + (nth X2 d))) = quar_R2 c d X2 from rfl]
  have hX3 : (quar_R2 c d X2).length = 16 := LQ_
  generalize quar_R2 c d X2 = X3 at *
  refine S_ ?_
  refine c_draw 16 mixed (by kernel_rfl) rfl rfl rfl ?_
  refine h_val (v_moveC rfl) rfl ?_
  refine h_val (v_moveC rfl) rfl ?_
  refine h_val (v_moveC rfl) rfl ?_
  refine h_val (v_moveC rfl) rfl ?_
  refine h_val (v_nilP rfl) rfl ?_
  refine h_val (v_idxA1 rfl rfl Try.underlying50 sz_41 (by omega)) rfl ?_
  refine h_val (v_load32 rfl rfl row_41 LT_) rfl ?_
  refine h_val (v_moveC rfl) rfl ?_
  refine h_val (v_moveC rfl) rfl ?_
  refine h_val (v_nilP rfl) rfl ?_
  refine h_val (v_idxA1 rfl rfl Try.underlying50 sz_41 (by omega)) rfl ?_
  refine h_val (v_load32 rfl rfl row_41 LT_) rfl ?_
  refine h_val (v_xor32 rfl rfl) rfl ?_
  refine h_evN (e_callR (bs := []) (rotl32_ev ((nth X3 b) ^^^ (nth X3 c)) ((12 : Nat) : Int)) ok_33 (by kernel_rfl) (by kernel_rfl) rfl VAL_) APP_ rfl ?_
  refine h_val (v_nilP rfl) rfl ?_
  refine h_val (v_idxA1 rfl rfl Try.underlying50 sz_41 (by omega)) rfl ?_
  refine h_nil ?_
  refine s_store32 rfl rfl rfl sz_41 LT_ SET_ ?_
  refine s_nil ?_
  rw [show (put X3 b (rotl32 ((nth X3 b) ^^^ (nth X3 c)) ((12 : Nat) : Int))) = quar_R3 b c X3 from rfl]
  have hX4 : (quar_R3 b c X3).length = 16 := LQ_
  generalize quar_R3 b c X3 = X4 at *
  refine S_ ?_
  refine c_draw 13 mixed (by kernel_rfl) rfl rfl rfl ?_
  refine h_val (v_moveC rfl) rfl ?_
  refine h_val (v_moveC rfl) rfl ?_
  refine h_val (v_nilP rfl) rfl ?_
  refine h_val (v_idxA1 rfl rfl Try.underlying50 sz_41 (by omega)) rfl ?_
  refine h_val (v_load32 rfl rfl row_41 LT_) rfl ?_
  refine h_val (v_moveC rfl) rfl ?_
  refine h_val (v_moveC rfl) rfl ?_
  refine h_val (v_nilP rfl) rfl ?_
  refine h_val (v_idxA1 rfl rfl Try.underlying50 sz_41 (by omega)) rfl ?_
  refine h_val (v_load32 rfl rfl row_41 LT_) rfl ?_
  refine h_val (v_add32 rfl rfl) rfl ?_
  refine h_val (v_nilP rfl) rfl ?_
  refine h_val (v_idxA1 rfl rfl Try.underlying50 sz_41 (by omega)) rfl ?_
  refine h_nil ?_
  refine s_store32 rfl rfl rfl sz_41 LT_ SET_ ?_
  refine s_nil ?_
  rw [show (put X4 a ((nth X4 a) + (nth X4 b))) = quar_R4 a b X4 from rfl]
  have hX5 : (quar_R4 a b X4).length = 16 := LQ_
  generalize quar_R4 a b X4 = X5 at *
  refine S_ ?_
  refine c_draw 16 mixed (by kernel_rfl) rfl rfl rfl ?_
  refine h_val (v_moveC rfl) rfl ?_
  refine h_val (v_moveC rfl) rfl ?_
  refine h_val (v_moveC rfl) rfl ?_
  refine h_val (v_moveC rfl) rfl ?_
  refine h_val (v_nilP rfl) rfl ?_
  refine h_val (v_idxA1 rfl rfl Try.underlying50 sz_41 (by omega)) rfl ?_
  refine h_val (v_load32 rfl rfl row_41 LT_) rfl ?_
  refine h_val (v_moveC rfl) rfl ?_
  refine h_val (v_moveC rfl) rfl ?_
  refine h_val (v_nilP rfl) rfl ?_
  refine h_val (v_idxA1 rfl rfl Try.underlying50 sz_41 (by omega)) rfl ?_
  refine h_val (v_load32 rfl rfl row_41 LT_) rfl ?_
  refine h_val (v_xor32 rfl rfl) rfl ?_
  refine h_evN (e_callR (bs := []) (rotl32_ev ((nth X5 d) ^^^ (nth X5 a)) ((8 : Nat) : Int)) ok_33 (by kernel_rfl) (by kernel_rfl) rfl VAL_) APP_ rfl ?_
  refine h_val (v_nilP rfl) rfl ?_
  refine h_val (v_idxA1 rfl rfl Try.underlying50 sz_41 (by omega)) rfl ?_
  refine h_nil ?_
  refine s_store32 rfl rfl rfl sz_41 LT_ SET_ ?_
  refine s_nil ?_
  rw [show (put X5 d (rotl32 ((nth X5 d) ^^^ (nth X5 a)) ((8 : Nat) : Int))) = quar_R5 a d X5 from rfl]
  have hX6 : (quar_R5 a d X5).length = 16 := LQ_
  generalize quar_R5 a d X5 = X6 at *
  refine S_ ?_
  refine c_draw 13 mixed (by kernel_rfl) rfl rfl rfl ?_
  refine h_val (v_moveC rfl) rfl ?_
  refine h_val (v_moveC rfl) rfl ?_
  refine h_val (v_nilP rfl) rfl ?_
  refine h_val (v_idxA1 rfl rfl Try.underlying50 sz_41 (by omega)) rfl ?_
  refine h_val (v_load32 rfl rfl row_41 LT_) rfl ?_
  refine h_val (v_moveC rfl) rfl ?_
  refine h_val (v_moveC rfl) rfl ?_
  refine h_val (v_nilP rfl) rfl ?_
  refine h_val (v_idxA1 rfl rfl Try.underlying50 sz_41 (by omega)) rfl ?_
  refine h_val (v_load32 rfl rfl row_41 LT_) rfl ?_
  refine h_val (v_add32 rfl rfl) rfl ?_
  refine h_val (v_nilP rfl) rfl ?_
  refine h_val (v_idxA1 rfl rfl Try.underlying50 sz_41 (by omega)) rfl ?_
  refine h_nil ?_
  refine s_store32 rfl rfl rfl sz_41 LT_ SET_ ?_
  refine s_nil ?_
  rw [show (put X6 c ((nth X6 c) + (nth X6 d))) = quar_R6 c d X6 from rfl]
  have hX7 : (quar_R6 c d X6).length = 16 := LQ_
  generalize quar_R6 c d X6 = X7 at *
  refine S_ ?_
  refine c_draw 16 mixed (by kernel_rfl) rfl rfl rfl ?_
  refine h_val (v_moveC rfl) rfl ?_
  refine h_val (v_moveC rfl) rfl ?_
  refine h_val (v_moveC rfl) rfl ?_
  refine h_val (v_moveC rfl) rfl ?_
  refine h_val (v_nilP rfl) rfl ?_
  refine h_val (v_idxA1 rfl rfl Try.underlying50 sz_41 (by omega)) rfl ?_
  refine h_val (v_load32 rfl rfl row_41 LT_) rfl ?_
  refine h_val (v_moveC rfl) rfl ?_
  refine h_val (v_moveC rfl) rfl ?_
  refine h_val (v_nilP rfl) rfl ?_
  refine h_val (v_idxA1 rfl rfl Try.underlying50 sz_41 (by omega)) rfl ?_
  refine h_val (v_load32 rfl rfl row_41 LT_) rfl ?_
  refine h_val (v_xor32 rfl rfl) rfl ?_
  refine h_evN (e_callR (bs := []) (rotl32_ev ((nth X7 b) ^^^ (nth X7 c)) ((7 : Nat) : Int)) ok_33 (by kernel_rfl) (by kernel_rfl) rfl VAL_) APP_ rfl ?_
  refine h_val (v_nilP rfl) rfl ?_
  refine h_val (v_idxA1 rfl rfl Try.underlying50 sz_41 (by omega)) rfl ?_
  refine h_nil ?_
  refine s_store32 rfl rfl rfl sz_41 LT_ SET_ ?_
  refine s_nil ?_
  rw [show (put X7 b (rotl32 ((nth X7 b) ^^^ (nth X7 c)) ((7 : Nat) : Int))) = quar_R7 b c X7 from rfl]
  have hX8 : (quar_R7 b c X7).length = 16 := LQ_
  generalize quar_R7 b c X7 = X8 at *
  refine S_ ?_
  rw [hP_quar.out]
  exact k_0e (by first | exact .inl rfl | exact .inr rfl) (by first | kernel_rfl | rfl)

@[simp] theorem quar_len (x : List (BitVec 32)) (a : Nat) (b : Nat) (c : Nat) (d : Nat) : (quar x a b c d).length = x.length := by
  unfold quar
  first | (simp [quar_R0_len, quar_R1_len, quar_R2_len, quar_R3_len, quar_R4_len, quar_R5_len, quar_R6_len, quar_R7_len, *]; done) | (simp [quar_R0_len, quar_R1_len, quar_R2_len, quar_R3_len, quar_R4_len, quar_R5_len, quar_R6_len, quar_R7_len, *]; omega)

attribute [irreducible] quar
end Go.Proofs.Ytcjponmaeamjdaa
/- chacha.low (Drawn up by a program.) -/
namespace Go.Proofs.Ytcjponmaeamjdaa
open Go.RowKit
def chLow_L3_S (b : List (BitVec 8)) (o : Nat) (X1 : BitVec 64) (j3 : Nat) : BitVec 64 := X1 ||| (((nth b (o + j3)).setWidth 64) <<< (8 * j3))
def chLow_L3 (b : List (BitVec 8)) (o : Nat) : Nat → BitVec 64
  | 0 => 0#64
  | j3 + 1 => chLow_L3_S b o (chLow_L3 b o j3) j3
def chLow (b : List (BitVec 8)) (o : Nat) (n : Nat) : BitVec 64 := (chLow_L3 b o n)
set_option maxRecDepth 100000 in
set_option maxHeartbeats 2000000 in
theorem chLow_ev (b : List (BitVec 8)) (o : Nat) (n : Nat) (cap : Nat) (hb : o + n ≤ b.length) (hn : n ≤ 8796093022208) : Ev Try.prog (.call 23 [.c (.sl 0 o n cap 1)] [.row false (.a8 (b))]) (.val (.c (.val (U64 (chLow b o n)))) [.row false (.a8 (b))]) := by
  have hP : Hid (chLow b o n = (chLow_L3 b o n)) := ⟨rfl⟩
  refine c_call Try.func23 rfl Try.ntmps23 rfl LEN_ ?_
  refine S_ ?_
  refine c_region ?_
  refine s_val (v_assignC rfl) rfl ?_
  refine s_nil ?_
  refine S_ ?_
  refine c_region ?_
  refine s_val (v_assignC rfl) rfl ?_
  refine s_nil ?_
  refine S_ ?_
  refine c_region ?_
  refine s_val (v_moveC rfl) rfl ?_
  refine s_val (v_lenS rfl Try.underlying24) rfl ?_
  refine s_val (v_moveC rfl) rfl ?_
  refine s_nil ?_
  refine S_ ?_
  refine c_loopC [3, 6, 7, 8] (fun (zz : Nat × BitVec 64) => ⟨22, keepT [3, 6, 7, 8] [.c (.val (U64 (zz.2))), .c (.sl 0 o n cap 1), .c (.val (.int .i64 (((n : Nat) : Int)))), .c (.val (.int .i64 (((zz.1 : Nat) : Int))))], [.row false (.a8 (b))]⟩) (fun j3 => (j3, chLow_L3 b o j3)) (n) (by kernel_rfl) ?_ ?_
  · intro j3 hj3
    try dsimp only
    rw [chLow_L3.eq_2, chLow_L3_S]
    generalize chLow_L3 b o j3 = X1 at *
    refine S_ ?_
    refine c_region ?_
    refine s_val (v_lssN rfl rfl) rfl ?_
    refine s_nil ?_
    refine S_ ?_
    refine c_region ?_
    refine s_val (v_moveC rfl) rfl ?_
    refine s_val (v_idxSo rfl rfl Try.underlying24 sz_5 (by omega)) rfl ?_
    refine s_val (v_load8 rfl rfl row_5 LT_) rfl ?_
    refine s_val (v_assignC rfl) rfl ?_
    refine s_val (v_assignC rfl) rfl ?_
    refine s_nil ?_
    refine S_ ?_
    refine c_region ?_
    refine s_val (v_moveC rfl) rfl ?_
    refine s_val (v_moveC rfl) rfl ?_
    refine s_val (v_conv rfl Try.underlying5 Try.underlying51 (w8_64 _)) rfl ?_
    refine s_val (v_moveC rfl) rfl ?_
    refine s_val (v_mulN (a := 8) rfl rfl (by omega)) rfl ?_
    refine s_val (v_shl64n rfl rfl) rfl ?_
    refine s_val (v_or64 rfl rfl) rfl ?_
    refine s_val (v_assignC rfl) rfl ?_
    refine s_nil ?_
    refine S_ ?_
    refine c_region ?_
    refine s_val (v_addN (b := 1) rfl rfl (by omega)) rfl ?_
    refine s_val (v_moveC rfl) rfl ?_
    refine s_nil ?_
    exact ⟨(j3 + 1, _), by kernel_rfl, rfl⟩
  · try dsimp only
    generalize chLow_L3 b o n = Y2 at *
    refine S_ ?_
    refine c_region ?_
    refine s_val (v_lssN rfl rfl) rfl ?_
    refine s_nil ?_
    refine S_ ?_
    refine c_region ?_
    refine s_val (v_moveC rfl) rfl ?_
    refine s_val (v_assignC rfl) rfl ?_
    refine s_nil ?_
    refine S_ ?_
    rw [hP.out]
    exact k_1 (by first | exact r_tmpC rfl | exact r_tmpA rfl) (by first | kernel_rfl | rfl)

attribute [irreducible] chLow
end Go.Proofs.Ytcjponmaeamjdaa
/- chacha.Block (Drawn up by a program.) -/
namespace Go.Proofs.Ytcjponmaeamjdaa
open Go.RowKit
def chBlock_L3_S (key : List (BitVec 8)) (X1 : List (BitVec 32)) (j3 : Nat) : List (BitVec 32) := put X1 (4 + j3) ((chLow key (4 * j3) (((4 * j3) + 4) - (4 * j3))).setWidth 32)
def chBlock_L3 (key : List (BitVec 8)) : Nat → List (BitVec 32)
  | 0 => put (put (put (put (zer32 16) 0 1634760805#32) 1 857760878#32) 2 2036477234#32) 3 1797285236#32
  | j3 + 1 => chBlock_L3_S key (chBlock_L3 key j3) j3
@[simp] theorem chBlock_L3_len (key : List (BitVec 8)) (j3 : Nat) : (chBlock_L3 key j3).length = 16 := by
  induction j3 with
  | zero => first | (simp [chBlock_L3, *]; done) | (simp [chBlock_L3, *]; omega)
  | succ j3 ih => rw [chBlock_L3.eq_2, chBlock_L3_S]; first | (simp [ih]; done) | (simp [ih]; omega) | (simp [*]; done) | (simp [*]; omega) | (split <;> first | (simp [ih]; done) | (simp [ih]; omega) | (simp [*]; done))
def chBlock_L9_S (nonce : List (BitVec 8)) (X3 : List (BitVec 32)) (j9 : Nat) : List (BitVec 32) := put X3 (13 + j9) ((chLow nonce (4 * j9) (((4 * j9) + 4) - (4 * j9))).setWidth 32)
def chBlock_L9 (counter : BitVec 32) (nonce : List (BitVec 8)) (Y2 : List (BitVec 32)) : Nat → List (BitVec 32)
  | 0 => put Y2 12 counter
  | j9 + 1 => chBlock_L9_S nonce (chBlock_L9 counter nonce Y2 j9) j9
theorem chBlock_L9_len (counter : BitVec 32) (nonce : List (BitVec 8)) (Y2 : List (BitVec 32)) (hY2 : Y2.length = 16) (j9 : Nat) : (chBlock_L9 counter nonce Y2 j9).length = 16 := by
  induction j9 with
  | zero => first | (simp [chBlock_L9, *]; done) | (simp [chBlock_L9, *]; omega)
  | succ j9 ih => rw [chBlock_L9.eq_2, chBlock_L9_S]; first | (simp [ih]; done) | (simp [ih]; omega) | (simp [chBlock_L3_len, *]; done) | (simp [chBlock_L3_len, *]; omega) | (split <;> first | (simp [ih]; done) | (simp [ih]; omega) | (simp [chBlock_L3_len, *]; done))
def chBlock_L15_S (X5 : List (BitVec 32)) : List (BitVec 32) := quar (quar (quar (quar (quar (quar (quar (quar X5 0 4 8 12) 1 5 9 13) 2 6 10 14) 3 7 11 15) 0 5 10 15) 1 6 11 12) 2 7 8 13) 3 4 9 14
def chBlock_L15 (Y4 : List (BitVec 32)) : Nat → List (BitVec 32)
  | 0 => Y4
  | j15 + 1 => chBlock_L15_S (chBlock_L15 Y4 j15)
theorem chBlock_L15_len (Y4 : List (BitVec 32)) (hY4 : Y4.length = 16) (j15 : Nat) : (chBlock_L15 Y4 j15).length = 16 := by
  induction j15 with
  | zero => first | (simp [chBlock_L15, *]; done) | (simp [chBlock_L15, *]; omega)
  | succ j15 ih => rw [chBlock_L15.eq_2, chBlock_L15_S]; first | (simp [ih]; done) | (simp [ih]; omega) | (simp [chBlock_L3_len, chBlock_L9_len, *]; done) | (simp [chBlock_L3_len, chBlock_L9_len, *]; omega) | (split <;> first | (simp [ih]; done) | (simp [ih]; omega) | (simp [chBlock_L3_len, chBlock_L9_len, *]; done))
def chBlock_L27_S (Y4 : List (BitVec 32)) (Y14 : List (BitVec 32)) (X15 : List (BitVec 8)) (j27 : Nat) : List (BitVec 8) := put X15 j27 ((((nth Y14 (j27 / 4)) + (nth Y4 (j27 / 4))) >>> (8 * (j27 % 4))).setWidth 8)
def chBlock_L27 (Y4 : List (BitVec 32)) (Y14 : List (BitVec 32)) : Nat → List (BitVec 8)
  | 0 => zer8 64
  | j27 + 1 => chBlock_L27_S Y4 Y14 (chBlock_L27 Y4 Y14 j27) j27
@[simp] theorem chBlock_L27_len (Y4 : List (BitVec 32)) (Y14 : List (BitVec 32)) (j27 : Nat) : (chBlock_L27 Y4 Y14 j27).length = 64 := by
  induction j27 with
  | zero => first | (simp [chBlock_L27, *]; done) | (simp [chBlock_L27, *]; omega)
  | succ j27 ih => rw [chBlock_L27.eq_2, chBlock_L27_S]; first | (simp [ih]; done) | (simp [ih]; omega) | (simp [chBlock_L3_len, chBlock_L9_len, chBlock_L15_len, *]; done) | (simp [chBlock_L3_len, chBlock_L9_len, chBlock_L15_len, *]; omega) | (split <;> first | (simp [ih]; done) | (simp [ih]; omega) | (simp [chBlock_L3_len, chBlock_L9_len, chBlock_L15_len, *]; done))
def chBlock (key : List (BitVec 8)) (counter : BitVec 32) (nonce : List (BitVec 8)) : List (BitVec 8) := (chBlock_L27 (chBlock_L9 counter nonce (chBlock_L3 key 8) 3) (chBlock_L15 (chBlock_L9 counter nonce (chBlock_L3 key 8) 3) 10) 64)
set_option maxRecDepth 100000 in
set_option maxHeartbeats 2000000 in
theorem chBlock_ev (key : List (BitVec 8)) (counter : BitVec 32) (nonce : List (BitVec 8)) (hkey : key.length = 32) (hnonce : nonce.length = 12) : Ev Try.prog (.call 16 [.agg (.a8 (key)), .c (.val (U32 counter)), .agg (.a8 (nonce))] []) (.val (.agg (.a8 (chBlock key counter nonce))) []) := by
  have hP : Hid (chBlock key counter nonce = (chBlock_L27 (chBlock_L9 counter nonce (chBlock_L3 key 8) 3) (chBlock_L15 (chBlock_L9 counter nonce (chBlock_L3 key 8) 3) 10) 64)) := ⟨rfl⟩
  refine c_call Try.func16 rfl Try.ntmps16 rfl LEN_ ?_
  refine S_ ?_
  refine c_region ?_
  refine s_memN (m_box BX_ LEN_) APP_ rfl ?_
  refine s_memN (m_box BX_ LEN_) APP_ rfl ?_
  refine s_memN (m_alloc al_39 LEN_) APP_ rfl ?_
  refine s_nil ?_
  refine S_ ?_
  refine c_region ?_
  refine s_val (v_blf32 (l := (put (put (put (put (zer32 16) 0 (1634760805#32)) 1 (857760878#32)) 2 (2036477234#32)) 3 (1797285236#32))) za_50 Try.underlying50 sz_41 rfl rfl) rfl ?_
  refine s_memN (m_alloc al_50 LEN_) APP_ rfl ?_
  refine s_storeR rfl rfl rfl rfl sz_50 EQ_ EQ_ SET_ ?_
  refine s_nil ?_
  refine S_ ?_
  refine c_region ?_
  refine s_val (v_moveC rfl) rfl ?_
  refine s_nil ?_
  refine S_ ?_
  refine c_loopC [1, 3, 5, 6, 7, 14] (fun (zz : Nat × List (BitVec 32)) => ⟨79, keepT [1, 3, 5, 6, 7, 14] [.c (.val (U32 (counter))), .c (.ptr 0 0), .c (.ptr 1 0), .c (.ptr 2 0), .c (.ptr 3 0), .c (.val (.int .i64 (((zz.1 : Nat) : Int))))], [.row true (.a8 (key)), .row true (.a8 (nonce)), .row true (.a8 (zer8 64)), .row true (.a32 (zz.2))]⟩) (fun j3 => (j3, chBlock_L3 key j3)) (8) (by kernel_rfl) ?_ ?_
  · intro j3 hj3
    try dsimp only
    have hX1 : (chBlock_L3 key j3).length = 16 := by rw [chBlock_L3_len key _]; try omega
    rw [chBlock_L3.eq_2, chBlock_L3_S]
    generalize chBlock_L3 key j3 = X1 at *
    refine S_ ?_
    refine c_region ?_
    refine s_val (v_lssN (b := 8) rfl rfl) rfl ?_
    refine s_nil ?_
    refine S_ ?_
    refine c_region ?_
    refine s_val (v_moveC rfl) rfl ?_
    refine s_val (v_assignC rfl) rfl ?_
    refine s_nil ?_
    refine S_ ?_
    refine c_region ?_
    refine s_val (v_moveC rfl) rfl ?_
    refine s_val (v_addN (a := 4) rfl rfl (by omega)) rfl ?_
    refine s_val (v_moveC rfl) rfl ?_
    refine s_val (v_mulN (a := 4) rfl rfl (by omega)) rfl ?_
    refine s_val (v_moveC rfl) rfl ?_
    refine s_val (v_mulN (a := 4) rfl rfl (by omega)) rfl ?_
    refine s_val (v_addN (b := 4) rfl rfl (by omega)) rfl ?_
    refine s_val (v_slA1 rfl Try.underlying22 sz_5 rfl rfl rfl (by omega) (by omega) FIT_ rfl rfl) rfl ?_
    refine s_evN (e_callR (bs := [0]) (chLow_ev key (4 * j3) (((4 * j3) + 4) - (4 * j3)) (32 - (4 * j3)) HYP_ HYP_) ok_23 (by kernel_rfl) (by kernel_rfl) rfl VAL_) APP_ rfl ?_
    refine s_val (v_conv rfl Try.underlying51 Try.underlying41 (w64_32 _)) rfl ?_
    refine s_val (v_idxA1 rfl rfl Try.underlying50 sz_41 (by omega)) rfl ?_
    refine s_store32 rfl rfl rfl sz_41 LT_ SET_ ?_
    refine s_nil ?_
    refine S_ ?_
    refine c_region ?_
    refine s_val (v_addN (b := 1) rfl rfl (by omega)) rfl ?_
    refine s_val (v_moveC rfl) rfl ?_
    refine s_nil ?_
    exact ⟨(j3 + 1, _), by kernel_rfl, rfl⟩
  · try dsimp only
    have hY2 : (chBlock_L3 key 8).length = 16 := by rw [chBlock_L3_len key _]; try omega
    generalize chBlock_L3 key 8 = Y2 at *
    refine S_ ?_
    refine c_region ?_
    refine s_val (v_lssN (a := 8) (b := 8) rfl rfl) rfl ?_
    refine s_nil ?_
    refine S_ ?_
    refine c_region ?_
    refine s_val (v_moveC rfl) rfl ?_
    refine s_val (v_idxA1 (j := 12) rfl rfl Try.underlying50 sz_41 (by omega)) rfl ?_
    refine s_store32 rfl rfl rfl sz_41 LT_ SET_ ?_
    refine s_nil ?_
    refine S_ ?_
    refine c_region ?_
    refine s_val (v_moveC rfl) rfl ?_
    refine s_nil ?_
    refine S_ ?_
    refine c_loopC [5, 6, 7, 31] (fun (zz : Nat × List (BitVec 32)) => ⟨79, keepT [5, 6, 7, 31] [.c (.ptr 0 0), .c (.ptr 1 0), .c (.ptr 2 0), .c (.val (.int .i64 (((zz.1 : Nat) : Int))))], [.row true (.a8 (nonce)), .row true (.a8 (zer8 64)), .row true (.a32 (zz.2))]⟩) (fun j9 => (j9, chBlock_L9 counter nonce Y2 j9)) (3) (by kernel_rfl) ?_ ?_
    · intro j9 hj9
      try dsimp only
      have hX3 : (chBlock_L9 counter nonce Y2 j9).length = 16 := by rw [chBlock_L9_len counter nonce Y2 hY2 _]; try omega
      rw [chBlock_L9.eq_2, chBlock_L9_S]
      generalize chBlock_L9 counter nonce Y2 j9 = X3 at *
      refine S_ ?_
      refine c_region ?_
      refine s_val (v_lssN (b := 3) rfl rfl) rfl ?_
      refine s_nil ?_
      refine S_ ?_
      refine c_region ?_
      refine s_val (v_moveC rfl) rfl ?_
      refine s_val (v_assignC rfl) rfl ?_
      refine s_nil ?_
      refine S_ ?_
      refine c_region ?_
      refine s_val (v_moveC rfl) rfl ?_
      refine s_val (v_addN (a := 13) rfl rfl (by omega)) rfl ?_
      refine s_val (v_moveC rfl) rfl ?_
      refine s_val (v_mulN (a := 4) rfl rfl (by omega)) rfl ?_
      refine s_val (v_moveC rfl) rfl ?_
      refine s_val (v_mulN (a := 4) rfl rfl (by omega)) rfl ?_
      refine s_val (v_addN (b := 4) rfl rfl (by omega)) rfl ?_
      refine s_val (v_slA1 rfl Try.underlying23 sz_5 rfl rfl rfl (by omega) (by omega) FIT_ rfl rfl) rfl ?_
      refine s_evN (e_callR (bs := [0]) (chLow_ev nonce (4 * j9) (((4 * j9) + 4) - (4 * j9)) (12 - (4 * j9)) HYP_ HYP_) ok_23 (by kernel_rfl) (by kernel_rfl) rfl VAL_) APP_ rfl ?_
      refine s_val (v_conv rfl Try.underlying51 Try.underlying41 (w64_32 _)) rfl ?_
      refine s_val (v_idxA1 rfl rfl Try.underlying50 sz_41 (by omega)) rfl ?_
      refine s_store32 rfl rfl rfl sz_41 LT_ SET_ ?_
      refine s_nil ?_
      refine S_ ?_
      refine c_region ?_
      refine s_val (v_addN (b := 1) rfl rfl (by omega)) rfl ?_
      refine s_val (v_moveC rfl) rfl ?_
      refine s_nil ?_
      exact ⟨(j9 + 1, _), by kernel_rfl, rfl⟩
    · try dsimp only
      have hY4 : (chBlock_L9 counter nonce Y2 3).length = 16 := by rw [chBlock_L9_len counter nonce Y2 hY2 _]; try omega
      generalize chBlock_L9 counter nonce Y2 3 = Y4 at *
      refine S_ ?_
      refine c_region ?_
      refine s_val (v_lssN (a := 3) (b := 3) rfl rfl) rfl ?_
      refine s_nil ?_
      refine S_ ?_
      refine c_region ?_
      refine s_val (v_loadR rfl rfl row_50 sz_50 EQ_ (by decide)) rfl ?_
      refine s_memN (m_alloc al_50 LEN_) APP_ rfl ?_
      refine s_storeR rfl rfl rfl rfl sz_50 EQ_ EQ_ SET_ ?_
      refine s_nil ?_
      refine S_ ?_
      refine c_region ?_
      refine s_val (v_moveC rfl) rfl ?_
      refine s_nil ?_
      refine S_ ?_
      refine c_loopC [6, 7, 10, 47] (fun (zz : Nat × List (BitVec 32)) => ⟨79, keepT [6, 7, 10, 47] [.c (.ptr 0 0), .c (.ptr 1 0), .c (.ptr 2 0), .c (.val (.int .i64 (((zz.1 : Nat) : Int))))], [.row true (.a8 (zer8 64)), .row true (.a32 (Y4)), .row true (.a32 (zz.2))]⟩) (fun j15 => (j15, chBlock_L15 Y4 j15)) (10) (by kernel_rfl) ?_ ?_
      · intro j15 hj15
        try dsimp only
        have hX5 : (chBlock_L15 Y4 j15).length = 16 := by rw [chBlock_L15_len Y4 hY4 _]; try omega
        rw [chBlock_L15.eq_2, chBlock_L15_S]
        generalize chBlock_L15 Y4 j15 = X5 at *
        refine S_ ?_
        refine c_region ?_
        refine s_val (v_lssN (b := 10) rfl rfl) rfl ?_
        refine s_nil ?_
        have hQ6 : (quar X5 0 4 8 12).length = 16 := LQ_
        refine S_ ?_
        refine c_region ?_
        refine s_ev (e_callK (bs := [2]) (quar_ev X5 0 4 8 12 HYP_ HYP_ HYP_ HYP_ HYP_ HYP_ HYP_ HYP_ HYP_) ok_24 (by kernel_rfl) rfl rfl VAL_ APP_) rfl ?_
        refine s_nil ?_
        have hQ7 : (quar (quar X5 0 4 8 12) 1 5 9 13).length = 16 := LQ_
        refine S_ ?_
        refine c_region ?_
        refine s_ev (e_callK (bs := [2]) (quar_ev (quar X5 0 4 8 12) 1 5 9 13 HYP_ HYP_ HYP_ HYP_ HYP_ HYP_ HYP_ HYP_ HYP_) ok_24 (by kernel_rfl) rfl rfl VAL_ APP_) rfl ?_
        refine s_nil ?_
        have hQ8 : (quar (quar (quar X5 0 4 8 12) 1 5 9 13) 2 6 10 14).length = 16 := LQ_
        refine S_ ?_
        refine c_region ?_
        refine s_ev (e_callK (bs := [2]) (quar_ev (quar (quar X5 0 4 8 12) 1 5 9 13) 2 6 10 14 HYP_ HYP_ HYP_ HYP_ HYP_ HYP_ HYP_ HYP_ HYP_) ok_24 (by kernel_rfl) rfl rfl VAL_ APP_) rfl ?_
        refine s_nil ?_
        have hQ9 : (quar (quar (quar (quar X5 0 4 8 12) 1 5 9 13) 2 6 10 14) 3 7 11 15).length = 16 := LQ_
        refine S_ ?_
        refine c_region ?_
        refine s_ev (e_callK (bs := [2]) (quar_ev (quar (quar (quar X5 0 4 8 12) 1 5 9 13) 2 6 10 14) 3 7 11 15 HYP_ HYP_ HYP_ HYP_ HYP_ HYP_ HYP_ HYP_ HYP_) ok_24 (by kernel_rfl) rfl rfl VAL_ APP_) rfl ?_
        refine s_nil ?_
        have hQ10 : (quar (quar (quar (quar (quar X5 0 4 8 12) 1 5 9 13) 2 6 10 14) 3 7 11 15) 0 5 10 15).length = 16 := LQ_
        refine S_ ?_
        refine c_region ?_
        refine s_ev (e_callK (bs := [2]) (quar_ev (quar (quar (quar (quar X5 0 4 8 12) 1 5 9 13) 2 6 10 14) 3 7 11 15) 0 5 10 15 HYP_ HYP_ HYP_ HYP_ HYP_ HYP_ HYP_ HYP_ HYP_) ok_24 (by kernel_rfl) rfl rfl VAL_ APP_) rfl ?_
        refine s_nil ?_
        have hQ11 : (quar (quar (quar (quar (quar (quar X5 0 4 8 12) 1 5 9 13) 2 6 10 14) 3 7 11 15) 0 5 10 15) 1 6 11 12).length = 16 := LQ_
        refine S_ ?_
        refine c_region ?_
        refine s_ev (e_callK (bs := [2]) (quar_ev (quar (quar (quar (quar (quar X5 0 4 8 12) 1 5 9 13) 2 6 10 14) 3 7 11 15) 0 5 10 15) 1 6 11 12 HYP_ HYP_ HYP_ HYP_ HYP_ HYP_ HYP_ HYP_ HYP_) ok_24 (by kernel_rfl) rfl rfl VAL_ APP_) rfl ?_
        refine s_nil ?_
        have hQ12 : (quar (quar (quar (quar (quar (quar (quar X5 0 4 8 12) 1 5 9 13) 2 6 10 14) 3 7 11 15) 0 5 10 15) 1 6 11 12) 2 7 8 13).length = 16 := LQ_
        refine S_ ?_
        refine c_region ?_
        refine s_ev (e_callK (bs := [2]) (quar_ev (quar (quar (quar (quar (quar (quar X5 0 4 8 12) 1 5 9 13) 2 6 10 14) 3 7 11 15) 0 5 10 15) 1 6 11 12) 2 7 8 13 HYP_ HYP_ HYP_ HYP_ HYP_ HYP_ HYP_ HYP_ HYP_) ok_24 (by kernel_rfl) rfl rfl VAL_ APP_) rfl ?_
        refine s_nil ?_
        have hQ13 : (quar (quar (quar (quar (quar (quar (quar (quar X5 0 4 8 12) 1 5 9 13) 2 6 10 14) 3 7 11 15) 0 5 10 15) 1 6 11 12) 2 7 8 13) 3 4 9 14).length = 16 := LQ_
        refine S_ ?_
        refine c_region ?_
        refine s_ev (e_callK (bs := [2]) (quar_ev (quar (quar (quar (quar (quar (quar (quar X5 0 4 8 12) 1 5 9 13) 2 6 10 14) 3 7 11 15) 0 5 10 15) 1 6 11 12) 2 7 8 13) 3 4 9 14 HYP_ HYP_ HYP_ HYP_ HYP_ HYP_ HYP_ HYP_ HYP_) ok_24 (by kernel_rfl) rfl rfl VAL_ APP_) rfl ?_
        refine s_nil ?_
        refine S_ ?_
        refine c_region ?_
        refine s_val (v_addN (b := 1) rfl rfl (by omega)) rfl ?_
        refine s_val (v_moveC rfl) rfl ?_
        refine s_nil ?_
        exact ⟨(j15 + 1, _), by kernel_rfl, rfl⟩
      · try dsimp only
        have hY14 : (chBlock_L15 Y4 10).length = 16 := by rw [chBlock_L15_len Y4 hY4 _]; try omega
        generalize chBlock_L15 Y4 10 = Y14 at *
        refine S_ ?_
        refine c_region ?_
        refine s_val (v_lssN (a := 10) (b := 10) rfl rfl) rfl ?_
        refine s_nil ?_
        refine S_ ?_
        refine c_region ?_
        refine s_memN (m_alloc al_39 LEN_) APP_ rfl ?_
        refine s_nil ?_
        refine S_ ?_
        refine c_region ?_
        refine s_val (v_moveC rfl) rfl ?_
        refine s_nil ?_
        refine S_ ?_
        refine c_loopC [6, 7, 10, 11, 58] (fun (zz : Nat × List (BitVec 8)) => ⟨79, keepT [6, 7, 10, 11, 58] [.c (.ptr 0 0), .c (.ptr 1 0), .c (.ptr 2 0), .c (.ptr 3 0), .c (.val (.int .i64 (((zz.1 : Nat) : Int))))], [.row true (.a8 (zer8 64)), .row true (.a32 (Y4)), .row true (.a32 (Y14)), .row true (.a8 (zz.2))]⟩) (fun j27 => (j27, chBlock_L27 Y4 Y14 j27)) (64) (by kernel_rfl) ?_ ?_
        · intro j27 hj27
          try dsimp only
          have hX15 : (chBlock_L27 Y4 Y14 j27).length = 64 := by rw [chBlock_L27_len Y4 Y14 _]; try omega
          rw [chBlock_L27.eq_2, chBlock_L27_S]
          generalize chBlock_L27 Y4 Y14 j27 = X15 at *
          refine S_ ?_
          refine c_region ?_
          refine s_val (v_lssN (b := 64) rfl rfl) rfl ?_
          refine s_nil ?_
          refine S_ ?_
          refine c_region ?_
          refine s_val (v_moveC rfl) rfl ?_
          refine s_val (v_assignC rfl) rfl ?_
          refine s_nil ?_
          refine S_ ?_
          refine c_draw 16 mixed (by kernel_rfl) rfl rfl rfl ?_
          refine h_val (v_moveC rfl) rfl ?_
          refine h_val (v_moveC rfl) rfl ?_
          refine h_val (v_quoN (b := 4) rfl rfl (by omega) (by omega)) rfl ?_
          refine h_val (v_idxA1 rfl rfl Try.underlying50 sz_41 (by omega)) rfl ?_
          refine h_val (v_load32 rfl rfl row_41 LT_) rfl ?_
          refine h_val (v_moveC rfl) rfl ?_
          refine h_val (v_quoN (b := 4) rfl rfl (by omega) (by omega)) rfl ?_
          refine h_val (v_idxA1 rfl rfl Try.underlying50 sz_41 (by omega)) rfl ?_
          refine h_val (v_load32 rfl rfl row_41 LT_) rfl ?_
          refine h_val (v_add32 rfl rfl) rfl ?_
          refine h_val (v_moveC rfl) rfl ?_
          refine h_val (v_remN (b := 4) rfl rfl (by omega) (by omega)) rfl ?_
          refine h_val (v_mulN (a := 8) rfl rfl (by omega)) rfl ?_
          refine h_val (v_shr32n rfl rfl) rfl ?_
          refine h_val (v_conv rfl Try.underlying41 Try.underlying5 (w32_8 _)) rfl ?_
          refine h_val (v_idxA1 rfl rfl Try.underlying39 sz_5 (by omega)) rfl ?_
          refine h_nil ?_
          refine s_store8 rfl rfl rfl sz_5 LT_ SET_ ?_
          refine s_nil ?_
          refine S_ ?_
          refine c_region ?_
          refine s_val (v_addN (b := 1) rfl rfl (by omega)) rfl ?_
          refine s_val (v_moveC rfl) rfl ?_
          refine s_nil ?_
          exact ⟨(j27 + 1, _), by kernel_rfl, rfl⟩
        · try dsimp only
          have hY16 : (chBlock_L27 Y4 Y14 64).length = 64 := by rw [chBlock_L27_len Y4 Y14 _]; try omega
          generalize chBlock_L27 Y4 Y14 64 = Y16 at *
          refine S_ ?_
          refine c_region ?_
          refine s_val (v_lssN (a := 64) (b := 64) rfl rfl) rfl ?_
          refine s_nil ?_
          refine S_ ?_
          refine c_region ?_
          refine s_val (v_loadR rfl rfl row_39 sz_39 EQ_ (by decide)) rfl ?_
          refine s_storeR rfl rfl rfl rfl sz_39 EQ_ EQ_ SET_ ?_
          refine s_nil ?_
          refine S_ ?_
          rw [hP.out]
          exact k_1 (r_row rfl rfl row_39 sz_39 EQ_ (by decide)) (by first | kernel_rfl | rfl)

@[simp] theorem chBlock_len (key : List (BitVec 8)) (counter : BitVec 32) (nonce : List (BitVec 8)) (hkey : key.length = 32) (hnonce : nonce.length = 12) : (chBlock key counter nonce).length = 64 := by
  unfold chBlock
  first | (simp [chBlock_L3_len, chBlock_L9_len, chBlock_L15_len, chBlock_L27_len, *]; done) | (simp [chBlock_L3_len, chBlock_L9_len, chBlock_L15_len, chBlock_L27_len, *]; omega)

attribute [irreducible] chBlock
end Go.Proofs.Ytcjponmaeamjdaa
/- chacha.Xor (Drawn up by a program.) -/
namespace Go.Proofs.Ytcjponmaeamjdaa
open Go.RowKit
def chXor_L7_S (key : List (BitVec 8)) (counter : BitVec 32) (nonce : List (BitVec 8)) (j3 : Nat) (X3 : List (BitVec 8)) (j7 : Nat) : List (BitVec 8) := put X3 ((64 * j3) + j7) ((nth X3 ((64 * j3) + j7)) ^^^ (nth (chBlock key (counter + (BitVec.ofNat 32 ((64 * j3) / 64))) nonce) (((64 * j3) + j7) - (64 * j3))))
def chXor_L7 (key : List (BitVec 8)) (counter : BitVec 32) (nonce : List (BitVec 8)) (X1 : List (BitVec 8)) (j3 : Nat) : Nat → List (BitVec 8)
  | 0 => X1
  | j7 + 1 => chXor_L7_S key counter nonce j3 (chXor_L7 key counter nonce X1 j3 j7) j7
@[simp] theorem chXor_L7_len (key : List (BitVec 8)) (counter : BitVec 32) (nonce : List (BitVec 8)) (X1 : List (BitVec 8)) (j3 : Nat) (j7 : Nat) : (chXor_L7 key counter nonce X1 j3 j7).length = X1.length := by
  induction j7 with
  | zero => first | (simp [chXor_L7, *]; done) | (simp [chXor_L7, *]; omega)
  | succ j7 ih => rw [chXor_L7.eq_2, chXor_L7_S]; first | (simp [ih]; done) | (simp [ih]; omega) | (simp [*]; done) | (simp [*]; omega) | (split <;> first | (simp [ih]; done) | (simp [ih]; omega) | (simp [*]; done))
def chXor_L3_S (key : List (BitVec 8)) (counter : BitVec 32) (nonce : List (BitVec 8)) (t : List (BitVec 8)) (X1 : List (BitVec 8)) (j3 : Nat) : List (BitVec 8) := (chXor_L7 key counter nonce X1 j3 (min (64 * j3 + 64) t.length - 64 * j3))
def chXor_L3 (key : List (BitVec 8)) (counter : BitVec 32) (nonce : List (BitVec 8)) (t : List (BitVec 8)) : Nat → List (BitVec 8)
  | 0 => t
  | j3 + 1 => chXor_L3_S key counter nonce t (chXor_L3 key counter nonce t j3) j3
theorem chXor_L3_len (key : List (BitVec 8)) (counter : BitVec 32) (nonce : List (BitVec 8)) (t : List (BitVec 8)) (hkey : key.length = 32) (hnonce : nonce.length = 12) (j3 : Nat) : (chXor_L3 key counter nonce t j3).length = t.length := by
  induction j3 with
  | zero => first | (simp [chXor_L3, *]; done) | (simp [chXor_L3, *]; omega)
  | succ j3 ih => rw [chXor_L3.eq_2, chXor_L3_S]; first | (simp [ih]; done) | (simp [ih]; omega) | (simp [chXor_L7_len, *]; done) | (simp [chXor_L7_len, *]; omega) | (split <;> first | (simp [ih]; done) | (simp [ih]; omega) | (simp [chXor_L7_len, *]; done))
def chXor (key : List (BitVec 8)) (counter : BitVec 32) (nonce : List (BitVec 8)) (t : List (BitVec 8)) : List (BitVec 8) := (chXor_L3 key counter nonce t ((t.length + 63) / 64))
set_option maxRecDepth 100000 in
set_option maxHeartbeats 2000000 in
theorem chXor_ev (key : List (BitVec 8)) (counter : BitVec 32) (nonce : List (BitVec 8)) (b : List (BitVec 8)) (o : Nat) (n : Nat) (cap : Nat) (hkey : key.length = 32) (hnonce : nonce.length = 12) (hb : o + n ≤ b.length) (hn : n ≤ 1099511627776) : Ev Try.prog (.call 18 [.agg (.a8 (key)), .c (.val (U32 counter)), .agg (.a8 (nonce)), .c (.sl 0 o n cap 1)] [.row false (.a8 (b))]) (.val (.c (.sl 1 0 n n 1)) [.row false (.a8 (b)), .row true (.a8 (chXor key counter nonce (cut b o n)))]) := by
  have hP : Hid (chXor key counter nonce (cut b o n) = (chXor_L3 key counter nonce (cut b o n) (((cut b o n).length + 63) / 64))) := ⟨rfl⟩
  have ht : (cut b o n).length = n := by rw [cut_length]; omega
  try simp only [ht] at hP
  refine c_call Try.func18 rfl Try.ntmps18 rfl LEN_ ?_
  refine S_ ?_
  refine c_region ?_
  refine s_memN (m_box BX_ LEN_) APP_ rfl ?_
  refine s_memN (m_box BX_ LEN_) APP_ rfl ?_
  refine s_val (v_assignC rfl) rfl ?_
  refine s_nil ?_
  refine S_ ?_
  refine c_region ?_
  refine s_memN (m_bs0 Try.underlying24 el_5) APP_ rfl ?_
  refine s_val (v_moveC rfl) rfl ?_
  refine s_memN (m_appE8c rfl rfl rfl Try.underlying24 Try.underlying24 el_5 LE_ (by omega) LEN_) APP_ rfl ?_
  refine s_val (v_assignC rfl) rfl ?_
  refine s_nil ?_
  refine S_ ?_
  refine c_region ?_
  refine s_val (v_assignC rfl) rfl ?_
  refine s_nil ?_
  refine S_ ?_
  refine c_loopC [1, 4, 6, 9, 10] (fun (zz : Nat × List (BitVec 8)) => ⟨52, keepT [1, 4, 6, 9, 10] [.c (.val (U32 (counter))), .c (.ptr 1 0), .c (.ptr 2 0), .c (.sl 3 0 n n 1), .c (.val (.int .i64 (((64 * zz.1 : Nat) : Int))))], [.row false (.a8 (b)), .row true (.a8 (key)), .row true (.a8 (nonce)), .row true (.a8 (zz.2))]⟩) (fun j3 => (j3, chXor_L3 key counter nonce (cut b o n) j3)) ((n + 63) / 64) (by kernel_rfl) ?_ ?_
  · intro j3 hj3
    try dsimp only
    have hX1 : (chXor_L3 key counter nonce (cut b o n) j3).length = n := by rw [chXor_L3_len key counter nonce (cut b o n) hkey hnonce _]; try omega
    rw [chXor_L3.eq_2, chXor_L3_S]
    try simp only [ht]
    generalize chXor_L3 key counter nonce (cut b o n) j3 = X1 at *
    refine S_ ?_
    refine c_region ?_
    refine s_val (v_moveC rfl) rfl ?_
    refine s_val (v_moveC rfl) rfl ?_
    refine s_val (v_lenS rfl Try.underlying24) rfl ?_
    refine s_val (v_lssN rfl rfl) rfl ?_
    refine s_nil ?_
    have hQ2 : (chBlock key (counter + (BitVec.ofNat 32 ((64 * j3) / 64))) nonce).length = 64 := LQ_
    refine S_ ?_
    refine c_region ?_
    refine s_val (v_loadR rfl rfl row_22 sz_22 EQ_ (by decide)) rfl ?_
    refine s_val (v_moveC rfl) rfl ?_
    refine s_val (v_moveC rfl) rfl ?_
    refine s_val (v_quoN (b := 64) rfl rfl (by omega) (by omega)) rfl ?_
    refine s_val (v_conv rfl Try.underlying3 Try.underlying41 (wi_32 _)) rfl ?_
    refine s_val (v_add32 rfl rfl) rfl ?_
    refine s_val (v_loadR rfl rfl row_23 sz_23 EQ_ (by decide)) rfl ?_
    refine s_evN (e_callR (bs := []) (chBlock_ev key (counter + (BitVec.ofNat 32 ((64 * j3) / 64))) nonce HYP_ HYP_) ok_16 (by kernel_rfl) (by kernel_rfl) rfl VAL_) APP_ rfl ?_
    refine s_memN (m_alloc al_39 LEN_) APP_ rfl ?_
    refine s_storeR rfl rfl rfl rfl sz_39 EQ_ EQ_ SET_ ?_
    refine s_nil ?_
    refine S_ ?_
    refine c_region ?_
    refine s_val (v_moveC rfl) rfl ?_
    refine s_val (v_assignC rfl) rfl ?_
    refine s_nil ?_
    refine S_ ?_
    refine c_loopC [1, 4, 6, 9, 10, 11, 12] (fun (zz : Nat × List (BitVec 8)) => ⟨52, keepT [1, 4, 6, 9, 10, 11, 12] [.c (.val (U32 (counter))), .c (.ptr 1 0), .c (.ptr 2 0), .c (.sl 3 0 n n 1), .c (.val (.int .i64 (((64 * j3 : Nat) : Int)))), .c (.ptr 4 0), .c (.val (.int .i64 ((((64 * j3) + zz.1 : Nat) : Int))))], [.row false (.a8 (b)), .row true (.a8 (key)), .row true (.a8 (nonce)), .row true (.a8 (zz.2)), .row true (.a8 (chBlock key (counter + (BitVec.ofNat 32 ((64 * j3) / 64))) nonce))]⟩) (fun j7 => (j7, chXor_L7 key counter nonce X1 j3 j7)) (min (64 * j3 + 64) n - 64 * j3) (by kernel_rfl) ?_ ?_
    · intro j7 hj7
      try dsimp only
      have hX3 : (chXor_L7 key counter nonce X1 j3 j7).length = n := by rw [chXor_L7_len key counter nonce X1 j3 _]; try omega
      rw [chXor_L7.eq_2, chXor_L7_S]
      try simp only [ht, hX1]
      generalize chXor_L7 key counter nonce X1 j3 j7 = X3 at *
      refine S_ ?_
      refine c_region ?_
      refine s_val (v_moveC rfl) rfl ?_
      refine s_val (v_moveC rfl) rfl ?_
      refine s_val (v_addN (b := 64) rfl rfl (by omega)) rfl ?_
      refine s_val (v_moveC rfl) rfl ?_
      refine s_val (v_lenS rfl Try.underlying24) rfl ?_
      refine s_val (v_minN rfl rfl) rfl ?_
      refine s_val (v_lssN rfl rfl) rfl ?_
      refine s_nil ?_
      refine S_ ?_
      refine c_draw 11 mixed (by kernel_rfl) rfl rfl rfl ?_
      refine h_val (v_moveC rfl) rfl ?_
      refine h_val (v_moveC rfl) rfl ?_
      refine h_val (v_idxS1 rfl rfl Try.underlying24 sz_5 (by omega)) rfl ?_
      refine h_val (v_load8 rfl rfl row_5 LT_) rfl ?_
      refine h_val (v_moveC rfl) rfl ?_
      refine h_val (v_moveC rfl) rfl ?_
      first
        | refine h_val (v_subN rfl rfl (by omega) (by omega)) rfl ?_
        | refine h_val (v_subI rfl rfl (by omega)) rfl ?_
      refine h_val (v_idxA1 rfl rfl Try.underlying39 sz_5 (by omega)) rfl ?_
      refine h_val (v_load8 rfl rfl row_5 LT_) rfl ?_
      refine h_val (v_xor8 rfl rfl) rfl ?_
      refine h_val (v_idxS1 rfl rfl Try.underlying24 sz_5 (by omega)) rfl ?_
      refine h_nil ?_
      refine s_store8 rfl rfl rfl sz_5 LT_ SET_ ?_
      refine s_nil ?_
      refine S_ ?_
      refine c_region ?_
      refine s_val (v_moveC rfl) rfl ?_
      refine s_val (v_addN (b := 1) rfl rfl (by omega)) rfl ?_
      refine s_val (v_assignC rfl) rfl ?_
      refine s_nil ?_
      exact ⟨(j7 + 1, _), by kernel_rfl, rfl⟩
    · try dsimp only
      have hY4 : (chXor_L7 key counter nonce X1 j3 (min (64 * j3 + 64) n - 64 * j3)).length = n := by rw [chXor_L7_len key counter nonce X1 j3 _]; try omega
      generalize chXor_L7 key counter nonce X1 j3 (min (64 * j3 + 64) n - 64 * j3) = Y4 at *
      refine S_ ?_
      refine c_region ?_
      refine s_val (v_moveC rfl) rfl ?_
      refine s_val (v_moveC rfl) rfl ?_
      refine s_val (v_addN (b := 64) rfl rfl (by omega)) rfl ?_
      refine s_val (v_moveC rfl) rfl ?_
      refine s_val (v_lenS rfl Try.underlying24) rfl ?_
      refine s_val (v_minN rfl rfl) rfl ?_
      refine s_val (v_lssN rfl rfl) rfl ?_
      refine s_nil ?_
      refine S_ ?_
      refine c_region ?_
      refine s_val (v_moveC rfl) rfl ?_
      refine s_val (v_addN (b := 64) rfl rfl (by omega)) rfl ?_
      refine s_val (v_assignC rfl) rfl ?_
      refine s_nil ?_
      exact ⟨(j3 + 1, _), by kernel_rfl, rfl⟩
  · try dsimp only
    have hY5 : (chXor_L3 key counter nonce (cut b o n) ((n + 63) / 64)).length = n := by rw [chXor_L3_len key counter nonce (cut b o n) hkey hnonce _]; try omega
    generalize chXor_L3 key counter nonce (cut b o n) ((n + 63) / 64) = Y5 at *
    refine S_ ?_
    refine c_region ?_
    refine s_val (v_moveC rfl) rfl ?_
    refine s_val (v_moveC rfl) rfl ?_
    refine s_val (v_lenS rfl Try.underlying24) rfl ?_
    refine s_val (v_lssN rfl rfl) rfl ?_
    refine s_nil ?_
    refine S_ ?_
    refine c_region ?_
    refine s_val (v_moveC rfl) rfl ?_
    refine s_val (v_assignC rfl) rfl ?_
    refine s_nil ?_
    refine S_ ?_
    rw [hP.out]
    exact k_1 (by first | exact r_tmpC rfl | exact r_tmpA rfl) (by first | kernel_rfl | rfl)
theorem chXor_evS (key : List (BitVec 8)) (counter : BitVec 32) (nonce : List (BitVec 8)) (b : List (BitVec 8)) (n : Nat) (cap : Nat) (hkey : key.length = 32) (hnonce : nonce.length = 12) (hb : b.length = n) (hn : n ≤ 1099511627776) : Ev Try.prog (.call 18 [.agg (.a8 (key)), .c (.val (U32 counter)), .agg (.a8 (nonce)), .c (.sl 0 0 n cap 1)] [.row false (.a8 (b))]) (.val (.c (.sl 1 0 n n 1)) [.row false (.a8 (b)), .row true (.a8 (chXor key counter nonce b))]) := by
  have h_ := chXor_ev key counter nonce b 0 n cap hkey hnonce (by omega) hn
  rw [cut_all hb] at h_
  exact h_

@[simp] theorem chXor_len (key : List (BitVec 8)) (counter : BitVec 32) (nonce : List (BitVec 8)) (t : List (BitVec 8)) (hkey : key.length = 32) (hnonce : nonce.length = 12) : (chXor key counter nonce t).length = t.length := by
  unfold chXor
  first | (simp [chXor_L7_len, chXor_L3_len, *]; done) | (simp [chXor_L7_len, chXor_L3_len, *]; omega)

attribute [irreducible] chXor
end Go.Proofs.Ytcjponmaeamjdaa
/- The walk of poly.low. -/
namespace Go.Proofs.Ytcjponmaeamjdaa
open Go.RowKit
/-- The bytes from 'o' on as a number, the lowest first. -/
def lowAt (r : List (BitVec 8)) (o : Nat) : Nat → BitVec 64
  | 0 => 0#64
  | k + 1 => lowAt r o k ||| ((nth r (o + k)).setWidth 64 <<< (8 * k))
set_option maxRecDepth 100000 in
theorem low_ev (r : List (BitVec 8)) (o n cap : Nat) (hl : o + n ≤ r.length) (hn : n ≤ 65536) : Ev Try.prog (.call 34 [.c (.sl 0 o n cap 1)] [.row false (.a8 r)]) (.val (.c (.val (U64 (lowAt r o n)))) [.row false (.a8 r)]) := by
  refine c_call Try.func34 rfl Try.ntmps34 rfl LEN_ ?_
  refine S_ ?_
  refine c_region ?_
  refine s_val (v_assignC rfl) rfl ?_
  refine s_nil ?_
  refine S_ ?_
  refine c_region ?_
  refine s_val (v_assignC rfl) rfl ?_
  refine s_nil ?_
  refine S_ ?_
  refine c_region ?_
  first
    | refine s_val (v_moveC rfl) rfl ?_
    | refine s_val (v_moveA rfl) rfl ?_
    | refine s_val (v_moveT rfl) rfl ?_
  first
    | refine s_val (v_lenS rfl Try.underlying24) rfl ?_
    | refine s_val (v_lenN rfl Try.underlying24) rfl ?_
    | refine s_val (v_lenE rfl Try.underlying24) rfl ?_
  refine s_val (v_moveC rfl) rfl ?_
  refine s_nil ?_
  refine S_ ?_
  refine c_clean [2, 3, 6, 7, 8] rfl ?_
  refine c_loop [2, 3, 6, 7, 8] (fun (x : Nat × BitVec 64) => ⟨22, keepT [2, 3, 6, 7, 8] [.c (.val (.int .u64 0)), .c (.val (U64 x.2)), .c (.sl 0 o n cap 1), .c (.val (.int .i64 n)), .c (.val (.int .i64 x.1))], [.row false (.a8 r)]⟩) (fun j => (j, lowAt r o j)) n rfl ?r ?e
  case r =>
    intro j hj
    simp only [lowAt]
    refine S_ ?_
    refine c_region ?_
    first
      | refine s_val (v_lssN rfl rfl) rfl ?_
      | refine s_val (v_lssI rfl rfl) rfl ?_
    refine s_nil ?_
    refine S_ ?_
    refine c_region ?_
    first
      | refine s_val (v_moveC rfl) rfl ?_
      | refine s_val (v_moveA rfl) rfl ?_
      | refine s_val (v_moveT rfl) rfl ?_
    first
      | refine s_val (v_idxS1 rfl rfl Try.underlying24 sz_5 (by omega)) rfl ?_
      | refine s_val (v_idxSo rfl rfl Try.underlying24 sz_5 (by omega)) rfl ?_
      | refine s_val (v_idxS rfl rfl Try.underlying24 sz_5 (by omega)) rfl ?_
    refine s_val (v_load8 rfl rfl row_5 LT_) rfl ?_
    first
      | refine s_val (v_assignC rfl) rfl ?_
      | refine s_val (v_assignA rfl) rfl ?_
      | refine s_val (v_assignT rfl) rfl ?_
    first
      | refine s_val (v_assignC rfl) rfl ?_
      | refine s_val (v_assignA rfl) rfl ?_
      | refine s_val (v_assignT rfl) rfl ?_
    refine s_nil ?_
    refine S_ ?_
    refine c_region ?_
    first
      | refine s_val (v_moveC rfl) rfl ?_
      | refine s_val (v_moveA rfl) rfl ?_
      | refine s_val (v_moveT rfl) rfl ?_
    first
      | refine s_val (v_moveC rfl) rfl ?_
      | refine s_val (v_moveA rfl) rfl ?_
      | refine s_val (v_moveT rfl) rfl ?_
    refine s_val (v_conv rfl Try.underlying5 Try.underlying51 (w8_64 _)) rfl ?_
    first
      | refine s_val (v_moveC rfl) rfl ?_
      | refine s_val (v_moveA rfl) rfl ?_
      | refine s_val (v_moveT rfl) rfl ?_
    refine s_val (v_mulN (a := 8) rfl rfl (by omega)) rfl ?_
    refine s_val (v_shl64n rfl rfl) rfl ?_
    refine s_val (v_or64 rfl rfl) rfl ?_
    first
      | refine s_val (v_assignC rfl) rfl ?_
      | refine s_val (v_assignA rfl) rfl ?_
      | refine s_val (v_assignT rfl) rfl ?_
    refine s_nil ?_
    refine S_ ?_
    refine c_region ?_
    first
      | refine s_val (v_addN (b := 1) rfl rfl (by omega)) rfl ?_
      | refine s_val (v_addI rfl rfl (by omega)) rfl ?_
    first
      | refine s_val (v_moveC rfl) rfl ?_
      | refine s_val (v_moveA rfl) rfl ?_
      | refine s_val (v_moveT rfl) rfl ?_
    refine s_nil ?_
    exact ⟨_, by kernel_rfl, rfl⟩
  case e =>
    dsimp only
    refine S_ ?_
    refine c_region ?_
    first
      | refine s_val (v_lssN rfl rfl) rfl ?_
      | refine s_val (v_lssI rfl rfl) rfl ?_
    refine s_nil ?_
    refine S_ ?_
    refine S_ ?_
    refine c_region ?_
    first
      | refine s_val (v_moveC rfl) rfl ?_
      | refine s_val (v_moveA rfl) rfl ?_
      | refine s_val (v_moveT rfl) rfl ?_
    first
      | refine s_val (v_assignC rfl) rfl ?_
      | refine s_val (v_assignA rfl) rfl ?_
      | refine s_val (v_assignT rfl) rfl ?_
    refine s_nil ?_
    refine S_ ?_
    exact k_1 (by first | exact r_tmpC rfl | exact r_tmpA rfl) (by first | kernel_rfl | rfl)
end Go.Proofs.Ytcjponmaeamjdaa
/- The walk of poly.word26. -/
namespace Go.Proofs.Ytcjponmaeamjdaa
open Go.RowKit
/-- The 26 bits from the bit 'i' on. -/
def wordAt (r : List (BitVec 8)) (i : Nat) : BitVec 64 := (lowAt r (i / 8) (min (i / 8 + 5) r.length - i / 8) >>> (i % 8)) &&& 67108863#64
set_option maxRecDepth 100000 in
theorem word26_ev (r : List (BitVec 8)) (n cap i : Nat) (hl : r.length = n) (hn : n ≤ 65536) (hi : i / 8 ≤ n) : Ev Try.prog (.call 25 [.c (.sl 0 0 n cap 1), .c (.val (.int .i64 i))] [.row false (.a8 r)]) (.val (.c (.val (U64 (wordAt r i)))) [.row false (.a8 r)]) := by
  subst hl
  refine c_call Try.func25 rfl Try.ntmps25 rfl LEN_ ?_
  refine S_ ?_
  refine c_region ?_
  refine s_val (v_assignC rfl) rfl ?_
  refine s_nil ?_
  refine S_ ?_
  refine c_region ?_
  first
    | refine s_val (v_moveC rfl) rfl ?_
    | refine s_val (v_moveA rfl) rfl ?_
    | refine s_val (v_moveT rfl) rfl ?_
  first
    | refine s_val (v_moveC rfl) rfl ?_
    | refine s_val (v_moveA rfl) rfl ?_
    | refine s_val (v_moveT rfl) rfl ?_
  refine s_val (v_quoN (b := 8) rfl rfl (by omega) (by omega)) rfl ?_
  first
    | refine s_val (v_moveC rfl) rfl ?_
    | refine s_val (v_moveA rfl) rfl ?_
    | refine s_val (v_moveT rfl) rfl ?_
  refine s_val (v_quoN (b := 8) rfl rfl (by omega) (by omega)) rfl ?_
  first
    | refine s_val (v_addN (b := 5) rfl rfl (by omega)) rfl ?_
    | refine s_val (v_addI rfl rfl (by omega)) rfl ?_
  first
    | refine s_val (v_moveC rfl) rfl ?_
    | refine s_val (v_moveA rfl) rfl ?_
    | refine s_val (v_moveT rfl) rfl ?_
  first
    | refine s_val (v_lenS rfl Try.underlying24) rfl ?_
    | refine s_val (v_lenN rfl Try.underlying24) rfl ?_
    | refine s_val (v_lenE rfl Try.underlying24) rfl ?_
  first
    | refine s_val (v_minN rfl rfl) rfl ?_
    | refine s_val (v_minL rfl rfl (by omega)) rfl ?_
    | refine s_val (v_minR rfl rfl (by omega)) rfl ?_
  first
    | refine s_val (v_slS1 rfl Try.underlying24 sz_5 rfl rfl (by omega) (by omega)) rfl ?_
    | refine s_val (v_slSo rfl Try.underlying24 sz_5 rfl rfl (by omega) (by omega)) rfl ?_
  refine s_evN (e_callR (low_ev r _ _ _ (by omega) (by omega)) ok_34 rfl rfl rfl VAL_) APP_ rfl ?_
  first
    | refine s_val (v_moveC rfl) rfl ?_
    | refine s_val (v_moveA rfl) rfl ?_
    | refine s_val (v_moveT rfl) rfl ?_
  refine s_val (v_remN (b := 8) rfl rfl (by omega) (by omega)) rfl ?_
  refine s_val (v_shr64n rfl rfl) rfl ?_
  refine s_val (v_and64 (b := 67108863#64) rfl rfl) rfl ?_
  first
    | refine s_val (v_assignC rfl) rfl ?_
    | refine s_val (v_assignA rfl) rfl ?_
    | refine s_val (v_assignT rfl) rfl ?_
  refine s_nil ?_
  refine S_ ?_
  exact k_1 (by first | exact r_tmpC rfl | exact r_tmpA rfl) (by first | kernel_rfl | rfl)
end Go.Proofs.Ytcjponmaeamjdaa
/- The walk of poly.carried. -/
namespace Go.Proofs.Ytcjponmaeamjdaa
open Go.RowKit
/-- What has been carried on, word by word: the words, and what is over. -/
def carrySt (l : List (BitVec 64)) : Nat → List (BitVec 64) × BitVec 64
  | 0 => (l, 0#64)
  | k + 1 => (put (carrySt l k).1 k ((nth (carrySt l k).1 k + (carrySt l k).2) &&& 67108863#64), (nth (carrySt l k).1 k + (carrySt l k).2) >>> 26)
theorem carrySt_succ (l : List (BitVec 64)) (k : Nat) : carrySt l (k + 1) = (put (carrySt l k).1 k ((nth (carrySt l k).1 k + (carrySt l k).2) &&& 67108863#64), (nth (carrySt l k).1 k + (carrySt l k).2) >>> 26) := rfl
theorem carrySt_length (l : List (BitVec 64)) (k : Nat) : (carrySt l k).1.length = l.length := by
  induction k with
  | zero => rfl
  | succ k ih => simp [carrySt, ih]
def carriedL (l : List (BitVec 64)) : List (BitVec 64) := put (carrySt l 5).1 0 (nth (carrySt l 5).1 0 + 5#64 * (carrySt l 5).2)
set_option maxRecDepth 100000 in
theorem carried_ev (l : List (BitVec 64)) (hl : l.length = 5) : Ev Try.prog (.call 35 [.agg (.a64 l)] []) (.val (.agg (.a64 (carriedL l))) []) := by
  refine c_call Try.func35 rfl Try.ntmps35 rfl LEN_ ?_
  refine S_ ?_
  refine c_region ?_
  refine s_memN (m_box BX_ LEN_) APP_ rfl ?_
  refine s_memN (m_alloc al_57 LEN_) APP_ rfl ?_
  refine s_nil ?_
  refine S_ ?_
  refine c_region ?_
  refine s_val (v_assignC rfl) rfl ?_
  refine s_nil ?_
  refine S_ ?_
  refine c_region ?_
  refine s_val (v_moveC rfl) rfl ?_
  refine s_nil ?_
  refine c_clean [5, 3, 1, 2] rfl ?_
  refine S_ ?_
  refine c_loop [5, 3, 1, 2] (fun (x : Nat × BitVec 64 × List (BitVec 64)) => ⟨31, keepT [5, 3, 1, 2] [.c (.val (.int .i64 x.1)), .c (.val (U64 x.2.1)), .c (.ptr 0 0), .c (.ptr 1 0)], [.row true (.a64 x.2.2), .row true (.a64 (zer64 5))]⟩) (fun j => (j, (carrySt l j).2, (carrySt l j).1)) 5 rfl ?r ?e
  case r =>
    intro j hj
    have h1 : (carrySt l j).1.length = 5 := by rw [carrySt_length, hl]
    generalize hS : (carrySt l j).1 = S at *
    generalize hC : (carrySt l j).2 = C at *
    dsimp only
    refine S_ ?_
    refine c_region ?_
    first
      | refine s_val (v_lssN (b := 5) rfl rfl) rfl ?_
      | refine s_val (v_lssI rfl rfl) rfl ?_
    refine s_nil ?_
    refine S_ ?_
    refine c_region ?_
    first
      | refine s_val (v_moveC rfl) rfl ?_
      | refine s_val (v_moveA rfl) rfl ?_
      | refine s_val (v_moveT rfl) rfl ?_
    first
      | refine s_val (v_assignC rfl) rfl ?_
      | refine s_val (v_assignA rfl) rfl ?_
      | refine s_val (v_assignT rfl) rfl ?_
    refine s_nil ?_
    refine S_ ?_
    refine c_region ?_
    first
      | refine s_val (v_moveC rfl) rfl ?_
      | refine s_val (v_moveA rfl) rfl ?_
      | refine s_val (v_moveT rfl) rfl ?_
    first
      | refine s_val (v_idxA1 rfl rfl Try.underlying57 sz_51 (by omega)) rfl ?_
      | refine s_val (v_idxA rfl rfl Try.underlying57 sz_51 (by omega)) rfl ?_
    refine s_val (v_load64 rfl rfl row_51 LT_) rfl ?_
    first
      | refine s_val (v_moveC rfl) rfl ?_
      | refine s_val (v_moveA rfl) rfl ?_
      | refine s_val (v_moveT rfl) rfl ?_
    refine s_val (v_add64 rfl rfl) rfl ?_
    first
      | refine s_val (v_idxA1 rfl rfl Try.underlying57 sz_51 (by omega)) rfl ?_
      | refine s_val (v_idxA rfl rfl Try.underlying57 sz_51 (by omega)) rfl ?_
    refine s_store64 rfl rfl rfl sz_51 LT_ SET_ ?_
    refine s_nil ?_
    refine S_ ?_
    refine c_region ?_
    first
      | refine s_val (v_moveC rfl) rfl ?_
      | refine s_val (v_moveA rfl) rfl ?_
      | refine s_val (v_moveT rfl) rfl ?_
    first
      | refine s_val (v_idxA1 rfl rfl Try.underlying57 sz_51 (by omega)) rfl ?_
      | refine s_val (v_idxA rfl rfl Try.underlying57 sz_51 (by omega)) rfl ?_
    refine s_val (v_load64 rfl rfl row_51 LT_) rfl ?_
    refine s_val (v_shr64n (j := 26) rfl rfl) rfl ?_
    first
      | refine s_val (v_assignC rfl) rfl ?_
      | refine s_val (v_assignA rfl) rfl ?_
      | refine s_val (v_assignT rfl) rfl ?_
    refine s_nil ?_
    refine S_ ?_
    refine c_region ?_
    first
      | refine s_val (v_moveC rfl) rfl ?_
      | refine s_val (v_moveA rfl) rfl ?_
      | refine s_val (v_moveT rfl) rfl ?_
    first
      | refine s_val (v_idxA1 rfl rfl Try.underlying57 sz_51 (by omega)) rfl ?_
      | refine s_val (v_idxA rfl rfl Try.underlying57 sz_51 (by omega)) rfl ?_
    refine s_val (v_load64 rfl rfl row_51 LT_) rfl ?_
    refine s_val (v_and64 (b := 67108863#64) rfl rfl) rfl ?_
    first
      | refine s_val (v_idxA1 rfl rfl Try.underlying57 sz_51 (by omega)) rfl ?_
      | refine s_val (v_idxA rfl rfl Try.underlying57 sz_51 (by omega)) rfl ?_
    refine s_store64 rfl rfl rfl sz_51 LT_ SET_ ?_
    refine s_nil ?_
    refine S_ ?_
    refine c_region ?_
    first
      | refine s_val (v_addN (b := 1) rfl rfl (by omega)) rfl ?_
      | refine s_val (v_addI rfl rfl (by omega)) rfl ?_
    first
      | refine s_val (v_moveC rfl) rfl ?_
      | refine s_val (v_moveA rfl) rfl ?_
      | refine s_val (v_moveT rfl) rfl ?_
    refine s_nil ?_
    refine ⟨(_, _, _), rfl, ?_⟩
    simp only [carrySt, hS, hC, set_put, put_again, nth_put _ _ _ _ (show j < S.length by omega), if_true]
  case e =>
    have h1 : (carrySt l 5).1.length = 5 := by rw [carrySt_length, hl]
    have hE : carriedL l = put (carrySt l 5).1 0 (nth (carrySt l 5).1 0 + 5#64 * (carrySt l 5).2) := rfl
    generalize hS : (carrySt l 5).1 = S at *
    generalize hC : (carrySt l 5).2 = C at *
    rw [hE]
    dsimp only
    refine S_ ?_
    refine c_region ?_
    first
      | refine s_val (v_lssN (b := 5) rfl rfl) rfl ?_
      | refine s_val (v_lssI rfl rfl) rfl ?_
    refine s_nil ?_
    refine S_ ?_
    refine S_ ?_
    refine c_region ?_
    first
      | refine s_val (v_idxA1 (j := 0) rfl rfl Try.underlying57 sz_51 (by omega)) rfl ?_
      | refine s_val (v_idxA (j := 0) rfl rfl Try.underlying57 sz_51 (by omega)) rfl ?_
    refine s_val (v_load64 rfl rfl row_51 LT_) rfl ?_
    first
      | refine s_val (v_moveC rfl) rfl ?_
      | refine s_val (v_moveA rfl) rfl ?_
      | refine s_val (v_moveT rfl) rfl ?_
    refine s_val (v_mul64 (a := 5#64) rfl rfl) rfl ?_
    refine s_val (v_add64 rfl rfl) rfl ?_
    first
      | refine s_val (v_idxA1 (j := 0) rfl rfl Try.underlying57 sz_51 (by omega)) rfl ?_
      | refine s_val (v_idxA (j := 0) rfl rfl Try.underlying57 sz_51 (by omega)) rfl ?_
    refine s_store64 rfl rfl rfl sz_51 LT_ SET_ ?_
    refine s_nil ?_
    refine S_ ?_
    refine c_region ?_
    first
      | refine s_val (v_loadR rfl rfl row_57 sz_57 EQ_ (by decide)) rfl ?_
      | refine s_val (v_loadW8 rfl rfl row_57 sz_57 LE_ (by decide)) rfl ?_
      | refine s_val (v_loadW64 rfl rfl row_57 sz_57 LE_ (by decide)) rfl ?_
    refine s_storeR rfl rfl rfl rfl sz_57 EQ_ EQ_ SET_ ?_
    refine s_nil ?_
    refine S_ ?_
    exact k_1 (r_row rfl rfl row_57 sz_57 EQ_ (by decide)) (by first | kernel_rfl | rfl)
theorem carriedL_eq (l : List (BitVec 64)) : carriedL l = put (carrySt l 5).1 0 (nth (carrySt l 5).1 0 + 5#64 * (carrySt l 5).2) := rfl
@[simp] theorem carriedL_length (l : List (BitVec 64)) : (carriedL l).length = l.length := by simp [carriedL, carrySt_length]
attribute [irreducible] carriedL
end Go.Proofs.Ytcjponmaeamjdaa
/- The walk of poly.times. -/
namespace Go.Proofs.Ytcjponmaeamjdaa
open Go.RowKit
/-- One product of two words, laid where it belongs. -/
def mulStep (a b s : List (BitVec 64)) (i j : Nat) : List (BitVec 64) :=
  put s ((i + j) % 5) (nth s ((i + j) % 5) + if 5 ≤ i + j then nth a i * nth b j * 5#64 else nth a i * nth b j)
def mulRow (a b s : List (BitVec 64)) (i : Nat) : Nat → List (BitVec 64)
  | 0 => s
  | j + 1 => mulStep a b (mulRow a b s i j) i j
def mulAll (a b : List (BitVec 64)) : Nat → List (BitVec 64)
  | 0 => zer64 5
  | i + 1 => mulRow a b (mulAll a b i) i 5
theorem mulRow_length (a b s : List (BitVec 64)) (i : Nat) : ∀ j, (mulRow a b s i j).length = s.length
  | 0 => rfl
  | j + 1 => by simp [mulRow, mulStep, mulRow_length a b s i j]
theorem mulAll_length (a b : List (BitVec 64)) : ∀ i, (mulAll a b i).length = 5
  | 0 => rfl
  | i + 1 => by rw [mulAll, mulRow_length, mulAll_length a b i]
def timesL (a b : List (BitVec 64)) : List (BitVec 64) := carriedL (carriedL (mulAll a b 5))
theorem timesL_eq (a b : List (BitVec 64)) : timesL a b = carriedL (carriedL (mulAll a b 5)) := rfl
@[simp] theorem timesL_length (a b : List (BitVec 64)) : (timesL a b).length = 5 := by rw [timesL, carriedL_length, carriedL_length, mulAll_length]
attribute [irreducible] timesL
set_option maxRecDepth 100000 in
set_option maxHeartbeats 1000000 in
theorem times_ev (a b : List (BitVec 64)) (ha : a.length = 5) (hb : b.length = 5) : Ev Try.prog (.call 26 [.agg (.a64 a), .agg (.a64 b)] []) (.val (.agg (.a64 (timesL a b))) []) := by
  refine c_call Try.func26 rfl Try.ntmps26 rfl LEN_ ?_
  refine S_ ?_
  refine c_region ?_
  refine s_memN (m_box BX_ LEN_) APP_ rfl ?_
  refine s_memN (m_box BX_ LEN_) APP_ rfl ?_
  refine s_memN (m_alloc al_57 LEN_) APP_ rfl ?_
  refine s_nil ?_
  refine S_ ?_
  refine c_region ?_
  refine s_memN (m_alloc al_57 LEN_) APP_ rfl ?_
  refine s_nil ?_
  refine S_ ?_
  refine c_region ?_
  refine s_val (v_moveC rfl) rfl ?_
  refine s_nil ?_
  refine S_ ?_
  refine c_loopC [2, 3, 5, 9, 4] (fun (x : Nat × List (BitVec 64)) => ⟨42, keepT [2, 3, 5, 9, 4] [.c (.ptr 0 0), .c (.ptr 1 0), .c (.ptr 2 0), .c (.val (.int .i64 (x.1))), .c (.ptr 3 0)], [.row true (.a64 (a)), .row true (.a64 (b)), .row true (.a64 (x.2)), .row true (.a64 (zer64 5))]⟩) (fun j => (j, mulAll a b j)) (5) (by kernel_rfl) ?_ ?_
  · intro i hi
    have h1 : (mulAll a b i).length = 5 := mulAll_length a b i
    simp only [mulAll]
    generalize mulAll a b i = S at *
    refine S_ ?_
    refine c_region ?_
    first
      | refine s_val (v_lssN (b := 5) rfl rfl) rfl ?_
      | refine s_val (v_lssI rfl rfl) rfl ?_
    refine s_nil ?_
    refine S_ ?_
    refine c_region ?_
    first
      | refine s_val (v_moveC rfl) rfl ?_
      | refine s_val (v_moveA rfl) rfl ?_
      | refine s_val (v_moveT rfl) rfl ?_
    first
      | refine s_val (v_assignC rfl) rfl ?_
      | refine s_val (v_assignA rfl) rfl ?_
      | refine s_val (v_assignT rfl) rfl ?_
    refine s_nil ?_
    refine S_ ?_
    refine c_region ?_
    refine s_val (v_moveC rfl) rfl ?_
    refine s_nil ?_
    refine S_ ?_
    refine c_loopC [2, 3, 5, 9, 4, 6, 12] (fun (x : Nat × List (BitVec 64)) => ⟨42, keepT [2, 3, 5, 9, 4, 6, 12] [.c (.ptr 0 0), .c (.ptr 1 0), .c (.ptr 2 0), .c (.val (.int .i64 (i))), .c (.ptr 3 0), .c (.val (.int .i64 (i))), .c (.val (.int .i64 (x.1)))], [.row true (.a64 (a)), .row true (.a64 (b)), .row true (.a64 (x.2)), .row true (.a64 (zer64 5))]⟩) (fun j => (j, mulRow a b S i j)) (5) (by kernel_rfl) ?_ ?_
    · intro j hj
      have h2 : (mulRow a b S i j).length = 5 := by rw [mulRow_length, h1]
      simp only [mulRow]
      generalize mulRow a b S i j = U at *
      unfold mulStep
      refine S_ ?_
      refine c_region ?_
      first
        | refine s_val (v_lssN (b := 5) rfl rfl) rfl ?_
        | refine s_val (v_lssI rfl rfl) rfl ?_
      refine s_nil ?_
      refine S_ ?_
      refine c_region ?_
      first
        | refine s_val (v_moveC rfl) rfl ?_
        | refine s_val (v_moveA rfl) rfl ?_
        | refine s_val (v_moveT rfl) rfl ?_
      first
        | refine s_val (v_assignC rfl) rfl ?_
        | refine s_val (v_assignA rfl) rfl ?_
        | refine s_val (v_assignT rfl) rfl ?_
      refine s_nil ?_
      refine S_ ?_
      refine c_draw 8 mixed (by kernel_rfl) rfl rfl rfl ?_
      first
        | refine h_val (v_moveC rfl) rfl ?_
        | refine h_val (v_moveA rfl) rfl ?_
        | refine h_val (v_moveT rfl) rfl ?_
      first
        | refine h_val (v_idxA1 rfl rfl Try.underlying57 sz_51 (by omega)) rfl ?_
        | refine h_val (v_idxA rfl rfl Try.underlying57 sz_51 (by omega)) rfl ?_
      refine h_val (v_load64 rfl rfl row_51 LT_) rfl ?_
      first
        | refine h_val (v_moveC rfl) rfl ?_
        | refine h_val (v_moveA rfl) rfl ?_
        | refine h_val (v_moveT rfl) rfl ?_
      first
        | refine h_val (v_idxA1 rfl rfl Try.underlying57 sz_51 (by omega)) rfl ?_
        | refine h_val (v_idxA rfl rfl Try.underlying57 sz_51 (by omega)) rfl ?_
      refine h_val (v_load64 rfl rfl row_51 LT_) rfl ?_
      refine h_val (v_mul64 rfl rfl) rfl ?_
      first
        | refine h_val (v_assignC rfl) rfl ?_
        | refine h_val (v_assignA rfl) rfl ?_
        | refine h_val (v_assignT rfl) rfl ?_
      refine h_nil ?_
      refine s_nil ?_
      refine S_ ?_
      refine c_region ?_
      first
        | refine s_val (v_moveC rfl) rfl ?_
        | refine s_val (v_moveA rfl) rfl ?_
        | refine s_val (v_moveT rfl) rfl ?_
      first
        | refine s_val (v_moveC rfl) rfl ?_
        | refine s_val (v_moveA rfl) rfl ?_
        | refine s_val (v_moveT rfl) rfl ?_
      first
        | refine s_val (v_addN rfl rfl (by omega)) rfl ?_
        | refine s_val (v_addI rfl rfl (by omega)) rfl ?_
      first
        | refine s_val (v_geqN (b := 5) rfl rfl) rfl ?_
        | refine s_val (v_geqI rfl rfl) rfl ?_
      refine s_nil ?_
      by_cases h5 : 5 ≤ i + j
      · rw [if_pos h5]
        refine S_ ?_
        refine c_region ?_
        first
          | refine s_val (v_moveC rfl) rfl ?_
          | refine s_val (v_moveA rfl) rfl ?_
          | refine s_val (v_moveT rfl) rfl ?_
        refine s_val (v_mul64 (b := 5#64) rfl rfl) rfl ?_
        first
          | refine s_val (v_assignC rfl) rfl ?_
          | refine s_val (v_assignA rfl) rfl ?_
          | refine s_val (v_assignT rfl) rfl ?_
        refine s_nil ?_
        refine S_ ?_
        refine c_region ?_
        first
          | refine s_val (v_moveC rfl) rfl ?_
          | refine s_val (v_moveA rfl) rfl ?_
          | refine s_val (v_moveT rfl) rfl ?_
        first
          | refine s_val (v_moveC rfl) rfl ?_
          | refine s_val (v_moveA rfl) rfl ?_
          | refine s_val (v_moveT rfl) rfl ?_
        first
          | refine s_val (v_addN rfl rfl (by omega)) rfl ?_
          | refine s_val (v_addI rfl rfl (by omega)) rfl ?_
        refine s_val (v_remN (b := 5) rfl rfl (by omega) (by omega)) rfl ?_
        first
          | refine s_val (v_idxA1 rfl rfl Try.underlying57 sz_51 (by omega)) rfl ?_
          | refine s_val (v_idxA rfl rfl Try.underlying57 sz_51 (by omega)) rfl ?_
        refine s_val (v_load64 rfl rfl row_51 LT_) rfl ?_
        first
          | refine s_val (v_moveC rfl) rfl ?_
          | refine s_val (v_moveA rfl) rfl ?_
          | refine s_val (v_moveT rfl) rfl ?_
        refine s_val (v_add64 rfl rfl) rfl ?_
        first
          | refine s_val (v_idxA1 rfl rfl Try.underlying57 sz_51 (by omega)) rfl ?_
          | refine s_val (v_idxA rfl rfl Try.underlying57 sz_51 (by omega)) rfl ?_
        refine s_store64 rfl rfl rfl sz_51 LT_ SET_ ?_
        refine s_nil ?_
        refine S_ ?_
        refine c_region ?_
        first
          | refine s_val (v_addN (b := 1) rfl rfl (by omega)) rfl ?_
          | refine s_val (v_addI rfl rfl (by omega)) rfl ?_
        first
          | refine s_val (v_moveC rfl) rfl ?_
          | refine s_val (v_moveA rfl) rfl ?_
          | refine s_val (v_moveT rfl) rfl ?_
        refine s_nil ?_
        exact ⟨_, by kernel_rfl, rfl⟩
      · rw [if_neg h5]
        refine S_ ?_
        refine c_region ?_
        first
          | refine s_val (v_moveC rfl) rfl ?_
          | refine s_val (v_moveA rfl) rfl ?_
          | refine s_val (v_moveT rfl) rfl ?_
        first
          | refine s_val (v_moveC rfl) rfl ?_
          | refine s_val (v_moveA rfl) rfl ?_
          | refine s_val (v_moveT rfl) rfl ?_
        first
          | refine s_val (v_addN rfl rfl (by omega)) rfl ?_
          | refine s_val (v_addI rfl rfl (by omega)) rfl ?_
        refine s_val (v_remN (b := 5) rfl rfl (by omega) (by omega)) rfl ?_
        first
          | refine s_val (v_idxA1 rfl rfl Try.underlying57 sz_51 (by omega)) rfl ?_
          | refine s_val (v_idxA rfl rfl Try.underlying57 sz_51 (by omega)) rfl ?_
        refine s_val (v_load64 rfl rfl row_51 LT_) rfl ?_
        first
          | refine s_val (v_moveC rfl) rfl ?_
          | refine s_val (v_moveA rfl) rfl ?_
          | refine s_val (v_moveT rfl) rfl ?_
        refine s_val (v_add64 rfl rfl) rfl ?_
        first
          | refine s_val (v_idxA1 rfl rfl Try.underlying57 sz_51 (by omega)) rfl ?_
          | refine s_val (v_idxA rfl rfl Try.underlying57 sz_51 (by omega)) rfl ?_
        refine s_store64 rfl rfl rfl sz_51 LT_ SET_ ?_
        refine s_nil ?_
        refine S_ ?_
        refine c_region ?_
        first
          | refine s_val (v_addN (b := 1) rfl rfl (by omega)) rfl ?_
          | refine s_val (v_addI rfl rfl (by omega)) rfl ?_
        first
          | refine s_val (v_moveC rfl) rfl ?_
          | refine s_val (v_moveA rfl) rfl ?_
          | refine s_val (v_moveT rfl) rfl ?_
        refine s_nil ?_
        exact ⟨_, by kernel_rfl, rfl⟩
    · dsimp only
      have h3 : (mulRow a b S i 5).length = 5 := by rw [mulRow_length, h1]
      refine S_ ?_
      refine c_region ?_
      first
        | refine s_val (v_lssN (b := 5) rfl rfl) rfl ?_
        | refine s_val (v_lssI rfl rfl) rfl ?_
      refine s_nil ?_
      refine S_ ?_
      refine c_region ?_
      first
        | refine s_val (v_addN (b := 1) rfl rfl (by omega)) rfl ?_
        | refine s_val (v_addI rfl rfl (by omega)) rfl ?_
      first
        | refine s_val (v_moveC rfl) rfl ?_
        | refine s_val (v_moveA rfl) rfl ?_
        | refine s_val (v_moveT rfl) rfl ?_
      refine s_nil ?_
      exact ⟨_, by kernel_rfl, rfl⟩
  · dsimp only
    have h1 : (mulAll a b 5).length = 5 := mulAll_length a b 5
    rw [timesL_eq]
    generalize mulAll a b 5 = S at *
    refine S_ ?_
    refine c_region ?_
    first
      | refine s_val (v_lssN (b := 5) rfl rfl) rfl ?_
      | refine s_val (v_lssI rfl rfl) rfl ?_
    refine s_nil ?_
    refine S_ ?_
    refine c_region ?_
    first
      | refine s_val (v_loadR rfl rfl row_57 sz_57 EQ_ (by decide)) rfl ?_
      | refine s_val (v_loadW8 rfl rfl row_57 sz_57 LE_ (by decide)) rfl ?_
      | refine s_val (v_loadW64 rfl rfl row_57 sz_57 LE_ (by decide)) rfl ?_
    refine s_evN (e_callR (carried_ev _ h1) ok_35 rfl rfl rfl VAL_) APP_ rfl ?_
    refine s_evN (e_callR (carried_ev _ (by rw [carriedL_length]; exact h1)) ok_35 rfl rfl rfl VAL_) APP_ rfl ?_
    refine s_storeR rfl rfl rfl rfl sz_57 EQ_ EQ_ SET_ ?_
    refine s_nil ?_
    refine S_ ?_
    exact k_1 (r_row rfl rfl row_57 sz_57 EQ_ (by decide)) (by first | kernel_rfl | rfl)
end Go.Proofs.Ytcjponmaeamjdaa
/- The walk of poly.tag. -/
namespace Go.Proofs.Ytcjponmaeamjdaa
open Go.RowKit
theorem addC_le (x y c : BitVec 64) (h : c.toNat ≤ 1) : (addC x y c).toNat ≤ 1 := by
  unfold addC
  rw [BitVec.toNat_ofNat]
  have := x.isLt
  have := y.isLt
  omega
/-- What is left of the number, below the modulus. -/
def modL (h : List (BitVec 64)) : List (BitVec 64) :=
  if 0 < (carrySt (put (carriedL (carriedL (carriedL h))) 0 (nth (carriedL (carriedL (carriedL h))) 0 + 5#64)) 5).2.toNat
  then (carrySt (put (carriedL (carriedL (carriedL h))) 0 (nth (carriedL (carriedL (carriedL h))) 0 + 5#64)) 5).1 else carriedL (carriedL (carriedL h))
def loL (h : List (BitVec 64)) : BitVec 64 := (nth h 0 ||| (nth h 1 <<< 26)) ||| (nth h 2 <<< 52)
def hiL (h : List (BitVec 64)) : BitVec 64 := ((nth h 2 >>> 12) ||| (nth h 3 <<< 14)) ||| (nth h 4 <<< 40)
def sixteen (lo hi : BitVec 64) : Nat → List (BitVec 8)
  | 0 => zer8 16
  | k + 1 => put (put (sixteen lo hi k) k ((lo >>> (8 * k)).setWidth 8)) (8 + k) ((hi >>> (8 * k)).setWidth 8)
theorem sixteen_length (lo hi : BitVec 64) (k : Nat) : (sixteen lo hi k).length = 16 := by
  induction k with
  | zero => rfl
  | succ k ih => simp [sixteen, ih]
def tagEnd (h : List (BitVec 64)) (key : List (BitVec 8)) : List (BitVec 8) :=
  sixteen (loL (modL h) + lowAt key 16 8 + 0#64) (hiL (modL h) + lowAt key 24 8 + addC (loL (modL h)) (lowAt key 16 8) 0#64) 8
theorem tagEnd_eq (h : List (BitVec 64)) (key : List (BitVec 8)) : tagEnd h key = sixteen (loL (modL h) + lowAt key 16 8 + 0#64) (hiL (modL h) + lowAt key 24 8 + addC (loL (modL h)) (lowAt key 16 8) 0#64) 8 := rfl
@[simp] theorem tagEnd_length (h : List (BitVec 64)) (key : List (BitVec 8)) : (tagEnd h key).length = 16 := by rw [tagEnd_eq, sixteen_length]
theorem modL_eq (h S : List (BitVec 64)) (e : carriedL (carriedL (carriedL h)) = S) : modL h = if 0 < (carrySt (put S 0 (nth S 0 + 5#64)) 5).2.toNat then (carrySt (put S 0 (nth S 0 + 5#64)) 5).1 else S := by subst e; rfl
theorem modL_length (h : List (BitVec 64)) : (modL h).length = h.length := by
  unfold modL
  split <;> simp [carrySt_length]
attribute [irreducible] tagEnd loL hiL modL
attribute [local irreducible] lowAt
set_option maxRecDepth 100000 in
set_option maxHeartbeats 1000000 in
theorem tag_ev (h : List (BitVec 64)) (key : List (BitVec 8)) (hh : h.length = 5) (hk : key.length = 32) : Ev Try.prog (.call 27 [.agg (.a64 h), .agg (.a8 key)] []) (.val (.agg (.a8 (tagEnd h key))) []) := by
  have hS : (carriedL (carriedL (carriedL h))).length = 5 := by simp [hh]
  have hM := modL_eq h _ rfl
  have hE := tagEnd_eq h key
  refine c_call Try.func27 rfl Try.ntmps27 rfl LEN_ ?_
  refine S_ ?_
  refine c_region ?_
  refine s_memN (m_box BX_ LEN_) APP_ rfl ?_
  refine s_memN (m_box BX_ LEN_) APP_ rfl ?_
  refine s_memN (m_alloc al_42 LEN_) APP_ rfl ?_
  refine s_nil ?_
  refine S_ ?_
  refine c_region ?_
  first
    | refine s_val (v_loadR rfl rfl row_57 sz_57 EQ_ (by decide)) rfl ?_
    | refine s_val (v_loadW8 rfl rfl row_57 sz_57 LE_ (by decide)) rfl ?_
    | refine s_val (v_loadW64 rfl rfl row_57 sz_57 LE_ (by decide)) rfl ?_
  refine s_evN (e_callR (carried_ev _ hh) ok_35 rfl rfl rfl VAL_) APP_ rfl ?_
  refine s_evN (e_callR (carried_ev _ (by simp [hh])) ok_35 rfl rfl rfl VAL_) APP_ rfl ?_
  refine s_evN (e_callR (carried_ev _ (by simp [hh])) ok_35 rfl rfl rfl VAL_) APP_ rfl ?_
  refine s_storeR rfl rfl rfl rfl sz_57 EQ_ EQ_ SET_ ?_
  refine s_nil ?_
  generalize carriedL (carriedL (carriedL h)) = S at *
  refine S_ ?_
  refine c_region ?_
  first
    | refine s_val (v_loadR rfl rfl row_57 sz_57 EQ_ (by decide)) rfl ?_
    | refine s_val (v_loadW8 rfl rfl row_57 sz_57 LE_ (by decide)) rfl ?_
    | refine s_val (v_loadW64 rfl rfl row_57 sz_57 LE_ (by decide)) rfl ?_
  refine s_memN (m_alloc al_57 LEN_) APP_ rfl ?_
  refine s_storeR rfl rfl rfl rfl sz_57 EQ_ EQ_ SET_ ?_
  refine s_nil ?_
  refine S_ ?_
  refine c_region ?_
  first
    | refine s_val (v_idxA1 (j := 0) rfl rfl Try.underlying57 sz_51 (by omega)) rfl ?_
    | refine s_val (v_idxA (j := 0) rfl rfl Try.underlying57 sz_51 (by omega)) rfl ?_
  refine s_val (v_load64 rfl rfl row_51 LT_) rfl ?_
  refine s_val (v_add64 (b := 5#64) rfl rfl) rfl ?_
  first
    | refine s_val (v_idxA1 (j := 0) rfl rfl Try.underlying57 sz_51 (by omega)) rfl ?_
    | refine s_val (v_idxA (j := 0) rfl rfl Try.underlying57 sz_51 (by omega)) rfl ?_
  refine s_store64 rfl rfl rfl sz_51 LT_ SET_ ?_
  refine s_nil ?_
  refine S_ ?_
  refine c_region ?_
  refine s_val (v_assignC rfl) rfl ?_
  refine s_nil ?_
  refine S_ ?_
  refine c_region ?_
  refine s_val (v_moveC rfl) rfl ?_
  refine s_nil ?_
  refine S_ ?_
  refine c_loopC [2, 3, 4, 5, 6, 21] (fun (x : Nat × List (BitVec 64) × BitVec 64) => ⟨99, keepT [2, 3, 4, 5, 6, 21] [.c (.ptr 0 0), .c (.ptr 1 0), .c (.ptr 2 0), .c (.ptr 3 0), .c (.val (U64 (x.2.2))), .c (.val (.int .i64 (x.1)))], [.row true (.a64 (S)), .row true (.a8 (key)), .row true (.a8 (zer8 16)), .row true (.a64 (x.2.1))]⟩) (fun j => (j, carrySt (put S 0 (nth S 0 + 5#64)) j)) (5) (by kernel_rfl) ?_ ?_
  · intro j hj
    have h1 : (carrySt (put S 0 (nth S 0 + 5#64)) j).1.length = 5 := by rw [carrySt_length, put_length, hS]
    rw [carrySt_succ]
    generalize carrySt (put S 0 (nth S 0 + 5#64)) j = U at *
    obtain ⟨U, C⟩ := U
    dsimp only at h1 ⊢
    refine S_ ?_
    refine c_region ?_
    first
      | refine s_val (v_lssN (b := 5) rfl rfl) rfl ?_
      | refine s_val (v_lssI rfl rfl) rfl ?_
    refine s_nil ?_
    refine S_ ?_
    refine c_region ?_
    first
      | refine s_val (v_moveC rfl) rfl ?_
      | refine s_val (v_moveA rfl) rfl ?_
      | refine s_val (v_moveT rfl) rfl ?_
    first
      | refine s_val (v_assignC rfl) rfl ?_
      | refine s_val (v_assignA rfl) rfl ?_
      | refine s_val (v_assignT rfl) rfl ?_
    refine s_nil ?_
    refine S_ ?_
    refine c_region ?_
    first
      | refine s_val (v_moveC rfl) rfl ?_
      | refine s_val (v_moveA rfl) rfl ?_
      | refine s_val (v_moveT rfl) rfl ?_
    first
      | refine s_val (v_idxA1 rfl rfl Try.underlying57 sz_51 (by omega)) rfl ?_
      | refine s_val (v_idxA rfl rfl Try.underlying57 sz_51 (by omega)) rfl ?_
    refine s_val (v_load64 rfl rfl row_51 LT_) rfl ?_
    first
      | refine s_val (v_moveC rfl) rfl ?_
      | refine s_val (v_moveA rfl) rfl ?_
      | refine s_val (v_moveT rfl) rfl ?_
    refine s_val (v_add64 rfl rfl) rfl ?_
    first
      | refine s_val (v_idxA1 rfl rfl Try.underlying57 sz_51 (by omega)) rfl ?_
      | refine s_val (v_idxA rfl rfl Try.underlying57 sz_51 (by omega)) rfl ?_
    refine s_store64 rfl rfl rfl sz_51 LT_ SET_ ?_
    refine s_nil ?_
    refine S_ ?_
    refine c_region ?_
    first
      | refine s_val (v_moveC rfl) rfl ?_
      | refine s_val (v_moveA rfl) rfl ?_
      | refine s_val (v_moveT rfl) rfl ?_
    first
      | refine s_val (v_idxA1 rfl rfl Try.underlying57 sz_51 (by omega)) rfl ?_
      | refine s_val (v_idxA rfl rfl Try.underlying57 sz_51 (by omega)) rfl ?_
    refine s_val (v_load64 rfl rfl row_51 LT_) rfl ?_
    refine s_val (v_shr64n (j := 26) rfl rfl) rfl ?_
    first
      | refine s_val (v_assignC rfl) rfl ?_
      | refine s_val (v_assignA rfl) rfl ?_
      | refine s_val (v_assignT rfl) rfl ?_
    refine s_nil ?_
    refine S_ ?_
    refine c_region ?_
    first
      | refine s_val (v_moveC rfl) rfl ?_
      | refine s_val (v_moveA rfl) rfl ?_
      | refine s_val (v_moveT rfl) rfl ?_
    first
      | refine s_val (v_idxA1 rfl rfl Try.underlying57 sz_51 (by omega)) rfl ?_
      | refine s_val (v_idxA rfl rfl Try.underlying57 sz_51 (by omega)) rfl ?_
    refine s_val (v_load64 rfl rfl row_51 LT_) rfl ?_
    refine s_val (v_and64 (b := 67108863#64) rfl rfl) rfl ?_
    first
      | refine s_val (v_idxA1 rfl rfl Try.underlying57 sz_51 (by omega)) rfl ?_
      | refine s_val (v_idxA rfl rfl Try.underlying57 sz_51 (by omega)) rfl ?_
    refine s_store64 rfl rfl rfl sz_51 LT_ SET_ ?_
    refine s_nil ?_
    refine S_ ?_
    refine c_region ?_
    first
      | refine s_val (v_addN (b := 1) rfl rfl (by omega)) rfl ?_
      | refine s_val (v_addI rfl rfl (by omega)) rfl ?_
    first
      | refine s_val (v_moveC rfl) rfl ?_
      | refine s_val (v_moveA rfl) rfl ?_
      | refine s_val (v_moveT rfl) rfl ?_
    refine s_nil ?_
    refine ⟨(_, _, _), rfl, ?_⟩
    simp only [set_put, put_again, nth_put _ _ _ _ (show j < U.length by omega), if_true]
  · have h1 : (carrySt (put S 0 (nth S 0 + 5#64)) 5).1.length = 5 := by rw [carrySt_length, put_length, hS]
    generalize carrySt (put S 0 (nth S 0 + 5#64)) 5 = U at *
    obtain ⟨U, C⟩ := U
    dsimp only at h1 hM ⊢
    refine S_ ?_
    refine c_region ?_
    first
      | refine s_val (v_lssN (b := 5) rfl rfl) rfl ?_
      | refine s_val (v_lssI rfl rfl) rfl ?_
    refine s_nil ?_
    refine S_ ?_
    refine c_region ?_
    first
      | refine s_val (v_moveC rfl) rfl ?_
      | refine s_val (v_moveA rfl) rfl ?_
      | refine s_val (v_moveT rfl) rfl ?_
    refine s_val (v_gtr64 (b := 0#64) rfl rfl) rfl ?_
    refine s_nil ?_
    refine Q_ ?_
    refine c_join [2, 3, 4] (fun (x : List (BitVec 64)) => ⟨99, keepT [2, 3, 4] [.c (.ptr 0 0), .c (.ptr 1 0), .c (.ptr 2 0)], [.row true (.a64 (x)), .row true (.a8 (key)), .row true (.a8 (zer8 16))]⟩) (modL h) rfl (fun hb => ?_) (fun hb => ?_) ?_
    · refine S_ ?_
      refine S_ ?_
      refine c_region ?_
      first
        | refine s_val (v_loadR rfl rfl row_57 sz_57 EQ_ (by decide)) rfl ?_
        | refine s_val (v_loadW8 rfl rfl row_57 sz_57 LE_ (by decide)) rfl ?_
        | refine s_val (v_loadW64 rfl rfl row_57 sz_57 LE_ (by decide)) rfl ?_
      refine s_storeR rfl rfl rfl rfl sz_57 EQ_ EQ_ SET_ ?_
      refine s_nil ?_
      refine ⟨_, rfl, ?_⟩
      rw [hM, if_pos (show 0 < C.toNat from of_decide_eq_true hb)]
    · refine S_ ?_
      refine ⟨_, rfl, ?_⟩
      rw [hM, if_neg (show ¬ 0 < C.toNat from of_decide_eq_false hb)]
    have hL : (modL h).length = 5 := by rw [modL_length, hh]
    have hlo : loL (modL h) = (nth (modL h) 0 ||| (nth (modL h) 1 <<< 26)) ||| (nth (modL h) 2 <<< 52) := by with_unfolding_all rfl
    have hhi : hiL (modL h) = ((nth (modL h) 2 >>> 12) ||| (nth (modL h) 3 <<< 14)) ||| (nth (modL h) 4 <<< 40) := by with_unfolding_all rfl
    rw [hlo, hhi] at hE
    clear hM hlo hhi
    generalize modL h = U at *
    refine S_ ?_
    refine c_region ?_
    first
      | refine s_val (v_idxA1 (j := 0) rfl rfl Try.underlying57 sz_51 (by omega)) rfl ?_
      | refine s_val (v_idxA (j := 0) rfl rfl Try.underlying57 sz_51 (by omega)) rfl ?_
    refine s_val (v_load64 rfl rfl row_51 LT_) rfl ?_
    first
      | refine s_val (v_idxA1 (j := 1) rfl rfl Try.underlying57 sz_51 (by omega)) rfl ?_
      | refine s_val (v_idxA (j := 1) rfl rfl Try.underlying57 sz_51 (by omega)) rfl ?_
    refine s_val (v_load64 rfl rfl row_51 LT_) rfl ?_
    refine s_val (v_shl64n (j := 26) rfl rfl) rfl ?_
    refine s_val (v_or64 rfl rfl) rfl ?_
    first
      | refine s_val (v_idxA1 (j := 2) rfl rfl Try.underlying57 sz_51 (by omega)) rfl ?_
      | refine s_val (v_idxA (j := 2) rfl rfl Try.underlying57 sz_51 (by omega)) rfl ?_
    refine s_val (v_load64 rfl rfl row_51 LT_) rfl ?_
    refine s_val (v_shl64n (j := 52) rfl rfl) rfl ?_
    refine s_val (v_or64 rfl rfl) rfl ?_
    first
      | refine s_val (v_assignC rfl) rfl ?_
      | refine s_val (v_assignA rfl) rfl ?_
      | refine s_val (v_assignT rfl) rfl ?_
    refine s_nil ?_
    refine S_ ?_
    refine c_region ?_
    first
      | refine s_val (v_idxA1 (j := 2) rfl rfl Try.underlying57 sz_51 (by omega)) rfl ?_
      | refine s_val (v_idxA (j := 2) rfl rfl Try.underlying57 sz_51 (by omega)) rfl ?_
    refine s_val (v_load64 rfl rfl row_51 LT_) rfl ?_
    refine s_val (v_shr64n (j := 12) rfl rfl) rfl ?_
    first
      | refine s_val (v_idxA1 (j := 3) rfl rfl Try.underlying57 sz_51 (by omega)) rfl ?_
      | refine s_val (v_idxA (j := 3) rfl rfl Try.underlying57 sz_51 (by omega)) rfl ?_
    refine s_val (v_load64 rfl rfl row_51 LT_) rfl ?_
    refine s_val (v_shl64n (j := 14) rfl rfl) rfl ?_
    refine s_val (v_or64 rfl rfl) rfl ?_
    first
      | refine s_val (v_idxA1 (j := 4) rfl rfl Try.underlying57 sz_51 (by omega)) rfl ?_
      | refine s_val (v_idxA (j := 4) rfl rfl Try.underlying57 sz_51 (by omega)) rfl ?_
    refine s_val (v_load64 rfl rfl row_51 LT_) rfl ?_
    refine s_val (v_shl64n (j := 40) rfl rfl) rfl ?_
    refine s_val (v_or64 rfl rfl) rfl ?_
    first
      | refine s_val (v_assignC rfl) rfl ?_
      | refine s_val (v_assignA rfl) rfl ?_
      | refine s_val (v_assignT rfl) rfl ?_
    refine s_nil ?_
    refine S_ ?_
    refine c_region ?_
    first
      | refine s_val (v_moveC rfl) rfl ?_
      | refine s_val (v_moveA rfl) rfl ?_
      | refine s_val (v_moveT rfl) rfl ?_
    first
      | refine s_val (v_slA1 (l := 16) (h := 24) (len := 8) (cp := 16) rfl Try.underlying22 sz_5 rfl rfl rfl (by omega) (by omega) FIT_ rfl rfl) rfl ?_
      | refine s_val (v_slA (l := 16) (h := 24) rfl Try.underlying22 sz_5 rfl rfl rfl (by omega) (by omega) FIT_) rfl ?_
    refine s_evN (e_callR (low_ev key _ 8 _ (by omega) (by omega)) ok_34 rfl rfl rfl VAL_) APP_ rfl ?_
    refine s_evN (e_add ext_36 rfl rfl rfl (c := 0#64) rfl (by decide)) APP_ rfl ?_
    first
      | refine s_val (v_moveC rfl) rfl ?_
      | refine s_val (v_moveA rfl) rfl ?_
      | refine s_val (v_moveT rfl) rfl ?_
    refine s_val (v_extract rfl rfl) rfl ?_
    refine s_val (v_extract rfl rfl) rfl ?_
    first
      | refine s_val (v_assignC rfl) rfl ?_
      | refine s_val (v_assignA rfl) rfl ?_
      | refine s_val (v_assignT rfl) rfl ?_
    first
      | refine s_val (v_assignC rfl) rfl ?_
      | refine s_val (v_assignA rfl) rfl ?_
      | refine s_val (v_assignT rfl) rfl ?_
    refine s_nil ?_
    refine S_ ?_
    refine c_region ?_
    first
      | refine s_val (v_moveC rfl) rfl ?_
      | refine s_val (v_moveA rfl) rfl ?_
      | refine s_val (v_moveT rfl) rfl ?_
    first
      | refine s_val (v_slA1 (l := 24) (h := 32) (len := 8) (cp := 8) rfl Try.underlying22 sz_5 rfl rfl rfl (by omega) (by omega) FIT_ rfl rfl) rfl ?_
      | refine s_val (v_slA (l := 24) (h := 32) rfl Try.underlying22 sz_5 rfl rfl rfl (by omega) (by omega) FIT_) rfl ?_
    refine s_evN (e_callR (low_ev key _ 8 _ (by omega) (by omega)) ok_34 rfl rfl rfl VAL_) APP_ rfl ?_
    first
      | refine s_val (v_moveC rfl) rfl ?_
      | refine s_val (v_moveA rfl) rfl ?_
      | refine s_val (v_moveT rfl) rfl ?_
    refine s_evN (e_add ext_36 rfl rfl rfl rfl (addC_le _ _ _ (by decide))) APP_ rfl ?_
    first
      | refine s_val (v_moveC rfl) rfl ?_
      | refine s_val (v_moveA rfl) rfl ?_
      | refine s_val (v_moveT rfl) rfl ?_
    refine s_val (v_extract rfl rfl) rfl ?_
    refine s_val (v_extract rfl rfl) rfl ?_
    first
      | refine s_val (v_assignC rfl) rfl ?_
      | refine s_val (v_assignA rfl) rfl ?_
      | refine s_val (v_assignT rfl) rfl ?_
    refine s_nil ?_
    refine S_ ?_
    refine c_region ?_
    refine s_memN (m_alloc al_42 LEN_) APP_ rfl ?_
    refine s_nil ?_
    refine S_ ?_
    refine c_region ?_
    refine s_val (v_moveC rfl) rfl ?_
    refine s_nil ?_
    rw [hE]
    generalize (nth U 0 ||| nth U 1 <<< 26 ||| nth U 2 <<< 52) + lowAt key 16 8 + 0#64 = lo
    generalize (nth U 2 >>> 12 ||| nth U 3 <<< 14 ||| nth U 4 <<< 40) + lowAt key 24 8 + addC (nth U 0 ||| nth U 1 <<< 26 ||| nth U 2 <<< 52) (lowAt key 16 8) 0#64 = hi
    refine S_ ?_
    refine c_loopC [4, 8, 9, 10, 79] (fun (x : Nat × List (BitVec 8)) => ⟨99, keepT [4, 8, 9, 10, 79] [.c (.ptr 0 0), .c (.val (U64 (lo))), .c (.val (U64 (hi))), .c (.ptr 1 0), .c (.val (.int .i64 (x.1)))], [.row true (.a8 (zer8 16)), .row true (.a8 (x.2))]⟩) (fun j => (j, sixteen lo hi j)) (8) (by kernel_rfl) ?_ ?_
    · intro j hj
      have h2 : (sixteen lo hi j).length = 16 := sixteen_length lo hi j
      simp only [sixteen]
      generalize sixteen lo hi j = V at *
      refine S_ ?_
      refine c_region ?_
      first
        | refine s_val (v_lssN (b := 8) rfl rfl) rfl ?_
        | refine s_val (v_lssI rfl rfl) rfl ?_
      refine s_nil ?_
      refine S_ ?_
      refine c_region ?_
      first
        | refine s_val (v_moveC rfl) rfl ?_
        | refine s_val (v_moveA rfl) rfl ?_
        | refine s_val (v_moveT rfl) rfl ?_
      first
        | refine s_val (v_assignC rfl) rfl ?_
        | refine s_val (v_assignA rfl) rfl ?_
        | refine s_val (v_assignT rfl) rfl ?_
      refine s_nil ?_
      refine S_ ?_
      refine c_stores mixed (by kernel_rfl) ?_
      first
        | refine d_val (v_moveC rfl) rfl ?_
        | refine d_val (v_moveA rfl) rfl ?_
        | refine d_val (v_moveT rfl) rfl ?_
      first
        | refine d_val (v_moveC rfl) rfl ?_
        | refine d_val (v_moveA rfl) rfl ?_
        | refine d_val (v_moveT rfl) rfl ?_
      first
        | refine d_val (v_addN (a := 8) rfl rfl (by omega)) rfl ?_
        | refine d_val (v_addI rfl rfl (by omega)) rfl ?_
      first
        | refine d_val (v_moveC rfl) rfl ?_
        | refine d_val (v_moveA rfl) rfl ?_
        | refine d_val (v_moveT rfl) rfl ?_
      first
        | refine d_val (v_moveC rfl) rfl ?_
        | refine d_val (v_moveA rfl) rfl ?_
        | refine d_val (v_moveT rfl) rfl ?_
      refine d_val (v_mulN (a := 8) rfl rfl (by omega)) rfl ?_
      refine d_val (v_shr64n rfl rfl) rfl ?_
      refine d_val (v_conv rfl Try.underlying51 Try.underlying5 (w64_8 _)) rfl ?_
      first
        | refine d_val (v_moveC rfl) rfl ?_
        | refine d_val (v_moveA rfl) rfl ?_
        | refine d_val (v_moveT rfl) rfl ?_
      first
        | refine d_val (v_moveC rfl) rfl ?_
        | refine d_val (v_moveA rfl) rfl ?_
        | refine d_val (v_moveT rfl) rfl ?_
      refine d_val (v_mulN (a := 8) rfl rfl (by omega)) rfl ?_
      refine d_val (v_shr64n rfl rfl) rfl ?_
      refine d_val (v_conv rfl Try.underlying51 Try.underlying5 (w64_8 _)) rfl ?_
      first
        | refine d_val (v_idxA1 rfl rfl Try.underlying42 sz_5 (by omega)) rfl ?_
        | refine d_val (v_idxA rfl rfl Try.underlying42 sz_5 (by omega)) rfl ?_
      refine d_store8 rfl rfl rfl sz_5 LT_ SET_ ?_
      first
        | refine d_val (v_idxA1 rfl rfl Try.underlying42 sz_5 (by omega)) rfl ?_
        | refine d_val (v_idxA rfl rfl Try.underlying42 sz_5 (by omega)) rfl ?_
      refine d_store8 rfl rfl rfl sz_5 LT_ SET_ ?_
      refine d_nil ?_
      refine S_ ?_
      refine c_region ?_
      first
        | refine s_val (v_addN (b := 1) rfl rfl (by omega)) rfl ?_
        | refine s_val (v_addI rfl rfl (by omega)) rfl ?_
      first
        | refine s_val (v_moveC rfl) rfl ?_
        | refine s_val (v_moveA rfl) rfl ?_
        | refine s_val (v_moveT rfl) rfl ?_
      refine s_nil ?_
      exact ⟨_, by kernel_rfl, rfl⟩
    · dsimp only
      have h2 : (sixteen lo hi 8).length = 16 := sixteen_length lo hi 8
      generalize sixteen lo hi 8 = V at *
      refine S_ ?_
      refine c_region ?_
      first
        | refine s_val (v_lssN (b := 8) rfl rfl) rfl ?_
        | refine s_val (v_lssI rfl rfl) rfl ?_
      refine s_nil ?_
      refine S_ ?_
      refine c_region ?_
      first
        | refine s_val (v_loadR rfl rfl row_42 sz_42 EQ_ (by decide)) rfl ?_
        | refine s_val (v_loadW8 rfl rfl row_42 sz_42 LE_ (by decide)) rfl ?_
        | refine s_val (v_loadW64 rfl rfl row_42 sz_42 LE_ (by decide)) rfl ?_
      refine s_storeR rfl rfl rfl rfl sz_42 EQ_ EQ_ SET_ ?_
      refine s_nil ?_
      refine S_ ?_
      exact k_1 (r_row rfl rfl row_42 sz_42 EQ_ (by decide)) (by first | kernel_rfl | rfl)
end Go.Proofs.Ytcjponmaeamjdaa
