/- The texts AvTac2, AvTac3, AvMore, AvTac4, AvMore2, AvStruct, AvTy, GNum, SNum, SPad5, SRot, SSum512, GHalf, FMul64, FCarry, FRfNum, merged into one. -/
import Derived.Test.YtcgncafhonlmlaaGT2
namespace Go.Proofs.Ytcgncafhonlmlaa
open Go.RowKit
section
variable {P : Program} {k N : Nat} {ops : Array Oper} {d : Nat} {ty : TypeId} {pos : String} {af : Array Edge} {l0 : List Oper} {T : Nat → AV} {M M' : Mem} {K : St → Prop} {t t' : TypeId}
theorem v_lenS {x : Operand} {b o n cap sz el : Nat} (hx : opnd T x = .c (.sl b o n cap sz)) (hu : P.underlying t = some (.slice el)) : evVal P (opnd T) M (.call { callee := .builtin .len, args := #[x], argTypes := #[t] }) = some (.c (.val (.int .i64 (n : Int)))) := by
  show evLen P t (opnd T x) = _
  rw [hx]; simp [evLen, isSliceT, hu]
theorem v_arrP {x : Operand} {n el b o len cap sz : Nat} (hx : opnd T x = .c (.sl b o len cap sz)) (hu : P.underlying t = some (.array n el)) (h1 : n ≤ len) (h0 : 0 < n) : evVal P (opnd T) M (.sliceToArrayPointer t x) = some (.c (.ptr b o)) := by
  show evArrPtr P t (opnd T x) = _
  rw [hx]; simp [evArrPtr, hu, h1, h0]
theorem v_slA {x : Operand} {lo hi : Option Operand} {n el b o sz l h : Nat} {own : Bool} {y : Arr} (hx : opnd T x = .c (.ptr b o)) (hu : P.underlying t = some (.array n el)) (hs : szT P el = some sz) (hm : M[b]? = some (.row own y))
    (hl : bnd 0 (lo.map (opnd T)) = some (l : Int)) (hh : bnd n (hi.map (opnd T)) = some (h : Int)) (h1 : l ≤ h) (h2 : h ≤ n) (hf : o + n * sz ≤ y.size) : evVal P (opnd T) M (.slice t x lo hi none) = some (.c (.sl b (o + l * sz) (h - l) (n - l) sz)) := by
  show evSlice P M t (opnd T x) (lo.map (opnd T)) (hi.map (opnd T)) = _
  rw [hx]
  simp only [evSlice, hu, hs, hl, hh, hm]
  rw [if_pos ⟨by omega, by omega, by omega, hf⟩]
  congr 3 <;> omega
theorem v_slA1 {x : Operand} {lo hi : Option Operand} {n el b l h len cp : Nat} {own : Bool} {y : Arr} (hx : opnd T x = .c (.ptr b 0)) (hu : P.underlying t = some (.array n el)) (hs : szT P el = some 1) (hm : M[b]? = some (.row own y))
    (hl : bnd 0 (lo.map (opnd T)) = some (l : Int)) (hh : bnd n (hi.map (opnd T)) = some (h : Int)) (h1 : l ≤ h) (h2 : h ≤ n) (hf : n ≤ y.size) (hlen : h - l = len) (hcp : n - l = cp) : evVal P (opnd T) M (.slice t x lo hi none) = some (.c (.sl b l len cp 1)) := by
  subst hlen; subst hcp
  rw [v_slA hx hu hs hm hl hh h1 h2 (by omega), Nat.zero_add, Nat.mul_one]
theorem v_slS {x : Operand} {lo hi : Option Operand} {el b o sz len cap l h : Nat} (hx : opnd T x = .c (.sl b o len cap sz)) (hu : P.underlying t = some (.slice el)) (hs : szT P el = some sz)
    (hl : bnd 0 (lo.map (opnd T)) = some (l : Int)) (hh : bnd len (hi.map (opnd T)) = some (h : Int)) (h1 : l ≤ h) (h2 : h ≤ max len cap) : evVal P (opnd T) M (.slice t x lo hi none) = some (.c (.sl b (o + l * sz) (h - l) (cap - l) sz)) := by
  show evSlice P M t (opnd T x) (lo.map (opnd T)) (hi.map (opnd T)) = _
  rw [hx]
  simp only [evSlice, hu, hl, hh]
  rw [if_pos ⟨hs, by omega, by omega, by omega⟩]
  congr 3 <;> omega
theorem v_slSo {x : Operand} {lo hi : Option Operand} {el b o len cap l h : Nat} (hx : opnd T x = .c (.sl b o len cap 1)) (hu : P.underlying t = some (.slice el)) (hs : szT P el = some 1)
    (hl : bnd 0 (lo.map (opnd T)) = some (l : Int)) (hh : bnd len (hi.map (opnd T)) = some (h : Int)) (h1 : l ≤ h) (h2 : h ≤ max len cap) : evVal P (opnd T) M (.slice t x lo hi none) = some (.c (.sl b (o + l) (h - l) (cap - l) 1)) := by
  rw [v_slS hx hu hs hl hh h1 h2, Nat.mul_one]
theorem all_map {α : Type} {f : Value → Option α} {g : α → Value} (h : ∀ x, f (g x) = some x) : ∀ l : List α, all? f (l.map g) = some l
  | [] => rfl
  | x :: l => by simp [all?, h, all_map h l]
theorem abs8 (l : List (BitVec 8)) : absArr (l.map U8) = .a8 l := by unfold absArr; rw [all_map w8?_U8]
theorem all_none {α β : Type} {f : Value → Option α} {g : β → Value} (h : ∀ x, f (g x) = none) : ∀ l : List β, l ≠ [] → all? f (l.map g) = none
  | [], hl => absurd rfl hl
  | x :: l, _ => by simp [all?, h]
theorem abs64 {l : List (BitVec 64)} (hl : l ≠ []) : absArr (l.map U64) = .a64 l := by unfold absArr; rw [all_none (fun _ => rfl) l hl, all_none (fun _ => rfl) l hl, all_map w64?_U64]
theorem m_bs0 {el sz by' : Nat} (hu : P.underlying t = some (.slice el)) (he : elemOk P el = some (sz, by')) : evMem P (opnd T) M (.buildSlice t 0 #[]) = some (.c .esl, M ++ []) := by
  show evBuildSlice P M t 0 [] = _
  simp [evBuildSlice, hu, he]
theorem m_bs {el by' len n : Nat} {ps : Array (Nat × Operand)} {vs : List Value} (hu : P.underlying t = some (.slice el)) (he : elemOk P el = some (1, by')) (hd : denseA 0 (ps.toList.map fun p => (p.1, opnd T p.2)) = some vs) (hl : ps.toList.length = len) (h0 : ¬ len = 0) (h1 : len ≤ 16777216) (hn : M.length = n) :
    evMem P (opnd T) M (.buildSlice t len ps) = some (.c (.sl n 0 len len 1), M ++ [.row true (absArr vs)]) := by
  show evBuildSlice P M t len (ps.toList.map fun p => (p.1, opnd T p.2)) = _
  subst hn
  simp only [evBuildSlice, hu, he, Nat.mul_one]
  rw [if_neg h0, if_pos h1, if_pos ⟨trivial, by simpa using hl⟩, hd]
theorem m_bs8 {l : List (BitVec 8)} {el by' len n : Nat} {ps : Array (Nat × Operand)} (hu : P.underlying t = some (.slice el)) (he : elemOk P el = some (1, by')) (hd : denseA 0 (ps.toList.map fun p => (p.1, opnd T p.2)) = some (l.map U8)) (hl : ps.toList.length = len) (h0 : ¬ len = 0) (h1 : len ≤ 16777216) (hn : M.length = n) :
    evMem P (opnd T) M (.buildSlice t len ps) = some (.c (.sl n 0 len len 1), M ++ [.row true (.a8 l)]) := by
  have hn0 : l ≠ [] := by
    intro e; subst e
    have := denseA_len hd
    have h9 : ps.toList.length = ps.size := by simp
    simp at this
    omega
  rw [m_bs hu he hd hl h0 h1 hn, abs8 l]
theorem v_bld8 {l : List (BitVec 8)} {n el : Nat} {ps : Array (Nat × Operand)} (hz : (P.info? t).bind (fun i => i.zero.map (·.cells.size)) = some n) (hu : P.underlying t = some (.array n el)) (hs : szT P el = some 1) (hd : denseA 0 (ps.toList.map fun p => (p.1, opnd T p.2)) = some (l.map U8)) (hl : ps.toList.length = n) (h0 : ¬ n = 0) :
    evVal P (opnd T) M (.build t ps) = some (.agg (.a8 l)) := by
  show evBuild P t (ps.toList.map fun p => (p.1, opnd T p.2)) = _
  obtain ⟨it, hi, hz2⟩ := Option.bind_eq_some_iff.1 hz
  obtain ⟨z, hz3, hz4⟩ := Option.map_eq_some_iff.1 hz2
  obtain ⟨ie, hie, h1⟩ := Option.map_eq_some_iff.1 hs
  have hn0 : l ≠ [] := by
    intro e; subst e
    have := denseA_len hd
    have h9 : ps.toList.length = ps.size := by simp
    simp at this
    omega
  simp only [evBuild, hi, hu, hz3, hie]
  rw [if_pos ⟨h1, by simpa using hl, hz4⟩, hd]
  simp only [abs8 l]
theorem v_ix8 {x i : Operand} {n el j : Nat} {kd : IntKind} {y : List (BitVec 8)} (hx : opnd T x = .agg (.a8 y)) (hi : opnd T i = .c (.val (.int kd (j : Int)))) (hu : P.underlying t = some (.array n el)) (hs : szT P el = some 1) (hr : isRowT P el = some false) (h0 : j < n) (hl : j < y.length) :
    evVal P (opnd T) M (.index t x i) = some (.c (.val (U8 (nth y j)))) := by
  show evIdx P t (opnd T x) (opnd T i) = _
  rw [hx, hi]
  have h1 : (0 : Int) ≤ (j : Int) ∧ (j : Int) < (n : Int) := by omega
  simp only [evIdx, hu, intOf?, hs, h1, and_self, if_true, Int.toNat_natCast, Nat.mul_one, partA, hr]
  rw [if_pos (show j < Arr.size (.a8 y) from hl)]
  rfl
theorem m_make8 {x y : Operand} {el by' a b n : Nat} {ka kb : IntKind} (hu : P.underlying t = some (.slice el)) (hx : opnd T x = .c (.val (.int ka (a : Int)))) (hy : opnd T y = .c (.val (.int kb (b : Int)))) (he : elemOk P el = some (1, by')) (hrep : ∀ n, repArr P el n = some (.a8 (zer8 n))) (h1 : a ≤ b) (h2 : b * by' ≤ 281474976710656) (h3 : b ≤ 9223372036854775807) (hn : M.length = n) :
    evMem P (opnd T) M (.makeSlice t x y) = some (.c (.sl n 0 a b 1), M ++ [.row true (.a8 (zer8 b))]) := by
  show evMakeSlice P M t (opnd T x) (opnd T y) = _
  subst hn
  rw [hx, hy]
  simp only [evMakeSlice, hu, intOf?, he]
  rw [if_pos ⟨by omega, by omega, by rw [← Int.natCast_mul]; omega, by omega⟩]
  simp [hrep]
theorem m_appE8 {s x : Operand} {el by' b n c m : Nat} {own : Bool} {r : List (BitVec 8)} {e2 : TypeId} (hs : opnd T s = .c .esl) (hx : opnd T x = .c (.sl b 0 n c 1)) (hm : M[b]? = some (.row own (.a8 r))) (hu : P.underlying t = some (.slice el)) (hu2 : P.underlying t' = some (.slice e2)) (he : elemOk P el = some (1, by')) (hl : r.length = n) (hb : n * by' ≤ 140737488355328 ∧ n ≤ 9223372036854775807) (hn : M.length = m) :
    evMem P (opnd T) M (.call { callee := .builtin .append, args := #[s, x], argTypes := #[t, t'] }) = some (.c (.sl m 0 n n 1), M ++ [.row true (.a8 r)]) := by
  show evAppend P M t t' (opnd T s) (opnd T x) = _
  subst hn
  rw [hs, hx]
  have hz : Arr.size (.a8 r) = n := hl
  simp [evAppend, hu, noIntT, hu2, he, srcOf, hm, hz, winA, Arr.one, hb.1, hb.2]
theorem m_appE8c {s x : Operand} {el by' b o n c m : Nat} {own : Bool} {r : List (BitVec 8)} {e2 : TypeId} (hs : opnd T s = .c .esl) (hx : opnd T x = .c (.sl b o n c 1)) (hm : M[b]? = some (.row own (.a8 r))) (hu : P.underlying t = some (.slice el)) (hu2 : P.underlying t' = some (.slice e2)) (he : elemOk P el = some (1, by')) (hl : o + n ≤ r.length) (hb : n * by' ≤ 140737488355328 ∧ n ≤ 9223372036854775807) (hn : M.length = m) :
    evMem P (opnd T) M (.call { callee := .builtin .append, args := #[s, x], argTypes := #[t, t'] }) = some (.c (.sl m 0 n n 1), M ++ [.row true (.a8 (cut r o n))]) := by
  show evAppend P M t t' (opnd T s) (opnd T x) = _
  subst hn
  rw [hs, hx]
  have hw : winA (.a8 r) o (n * 1) = .a8 (cut r o n) := by
    unfold winA
    split
    · rename_i h
      have h2 : r.length = n := by have := h.2; simp [Arr.size] at this; omega
      rw [h.1]; subst h2; simp [cut]
    · rw [Nat.mul_one]; rfl
  have hsz : o + n * 1 ≤ Arr.size (.a8 r) := by simp [Arr.size]; exact hl
  have hsrc : srcOf M 1 (.c (.sl b o n c 1)) = some (n, .a8 (cut r o n)) := by
    simp only [srcOf, hm]
    rw [if_pos ⟨trivial, hsz⟩, hw]
  simp [evAppend, hu, noIntT, hu2, he, hsrc, Arr.one, hb.1, hb.2]
theorem m_appN8 {s x : Operand} {el by' b n c m : Nat} {own : Bool} {r : List (BitVec 8)} {e2 : TypeId} (hs : opnd T s = .c .nsl) (hx : opnd T x = .c (.sl b 0 n c 1)) (hm : M[b]? = some (.row own (.a8 r))) (hu : P.underlying t = some (.slice el)) (hu2 : P.underlying t' = some (.slice e2)) (he : elemOk P el = some (1, by')) (hl : r.length = n) (hb : n * by' ≤ 140737488355328 ∧ n ≤ 9223372036854775807) (hn : M.length = m) :
    evMem P (opnd T) M (.call { callee := .builtin .append, args := #[s, x], argTypes := #[t, t'] }) = some (.c (.sl m 0 n n 1), M ++ [.row true (.a8 r)]) := by
  show evAppend P M t t' (opnd T s) (opnd T x) = _
  subst hn
  rw [hs, hx]
  have hz : Arr.size (.a8 r) = n := hl
  simp [evAppend, hu, noIntT, hu2, he, srcOf, hm, hz, winA, Arr.one, hb.1, hb.2]
theorem m_appN8c {s x : Operand} {el by' b o n c m : Nat} {own : Bool} {r : List (BitVec 8)} {e2 : TypeId} (hs : opnd T s = .c .nsl) (hx : opnd T x = .c (.sl b o n c 1)) (hm : M[b]? = some (.row own (.a8 r))) (hu : P.underlying t = some (.slice el)) (hu2 : P.underlying t' = some (.slice e2)) (he : elemOk P el = some (1, by')) (hl : o + n ≤ r.length) (hb : n * by' ≤ 140737488355328 ∧ n ≤ 9223372036854775807) (hn : M.length = m) :
    evMem P (opnd T) M (.call { callee := .builtin .append, args := #[s, x], argTypes := #[t, t'] }) = some (.c (.sl m 0 n n 1), M ++ [.row true (.a8 (cut r o n))]) := by
  show evAppend P M t t' (opnd T s) (opnd T x) = _
  subst hn
  rw [hs, hx]
  have hw : winA (.a8 r) o (n * 1) = .a8 (cut r o n) := by
    unfold winA
    split
    · rename_i h
      have h2 : r.length = n := by have := h.2; simp [Arr.size] at this; omega
      rw [h.1]; subst h2; simp [cut]
    · rw [Nat.mul_one]; rfl
  have hsz : o + n * 1 ≤ Arr.size (.a8 r) := by simp [Arr.size]; exact hl
  have hsrc : srcOf M 1 (.c (.sl b o n c 1)) = some (n, .a8 (cut r o n)) := by
    simp only [srcOf, hm]
    rw [if_pos ⟨trivial, hsz⟩, hw]
  simp [evAppend, hu, noIntT, hu2, he, hsrc, Arr.one, hb.1, hb.2]
theorem s_app8 {s x : Operand} {el by' b0 len cap b n c m : Nat} {own : Bool} {u r : List (BitVec 8)} {e2 : TypeId} (hs : opnd T s = .c (.sl b0 0 len cap 1)) (hms : M[b0]? = some (.row true (.a8 u))) (hx : opnd T x = .c (.sl b 0 n c 1)) (hm : M[b]? = some (.row own (.a8 r))) (hu : P.underlying t = some (.slice el)) (hu2 : P.underlying t' = some (.slice e2)) (he : elemOk P el = some (1, by'))
    (hlu : u.length = len) (hl : r.length = n) (hb : (len + n) * by' ≤ 140737488355328 ∧ len + n ≤ 9223372036854775807 ∧ n * by' ≤ 140737488355328) (hn : M.length = m) (hM : M.set b0 .dead ++ [.row true (.a8 (u ++ r))] = M') (hd : decide (d < N) = true) (hk : WO P k ops l0 ⟨N, upd T d (.c (.sl m 0 (len + n) (len + n) 1)), M'⟩ K) :
    WO P k ops (⟨some d, .call { callee := .builtin .append, args := #[s, x], argTypes := #[t, t'] }, ty, pos, af, none⟩ :: l0) ⟨N, T, M⟩ K :=
  s_mem (by
    show evAppend P M t t' (opnd T s) (opnd T x) = _
    subst hn; subst hM
    rw [hs, hx]
    have hz : Arr.size (.a8 r) = n := hl
    have hz2 : Arr.size (.a8 u) = len := hlu
    have hn9 : n ≤ 9223372036854775807 := by omega
    simp [evAppend, hu, noIntT, hu2, he, srcOf, hm, hms, hz, hz2, winA, Arr.one, Arr.app, hb.1, hb.2.1, hb.2.2, hn9]) hd hk
theorem s_app8c {s x : Operand} {el by' b0 len cap b o n c m : Nat} {own : Bool} {u r : List (BitVec 8)} {e2 : TypeId} (hs : opnd T s = .c (.sl b0 0 len cap 1)) (hms : M[b0]? = some (.row true (.a8 u))) (hx : opnd T x = .c (.sl b o n c 1)) (hm : M[b]? = some (.row own (.a8 r))) (hu : P.underlying t = some (.slice el)) (hu2 : P.underlying t' = some (.slice e2)) (he : elemOk P el = some (1, by'))
    (hlu : u.length = len) (hl : o + n ≤ r.length) (hb : (len + n) * by' ≤ 140737488355328 ∧ len + n ≤ 9223372036854775807 ∧ n * by' ≤ 140737488355328) (hn : M.length = m) (hM : M.set b0 .dead ++ [.row true (.a8 (u ++ cut r o n))] = M') (hd : decide (d < N) = true) (hk : WO P k ops l0 ⟨N, upd T d (.c (.sl m 0 (len + n) (len + n) 1)), M'⟩ K) :
    WO P k ops (⟨some d, .call { callee := .builtin .append, args := #[s, x], argTypes := #[t, t'] }, ty, pos, af, none⟩ :: l0) ⟨N, T, M⟩ K :=
  s_mem (by
    show evAppend P M t t' (opnd T s) (opnd T x) = _
    subst hn; subst hM
    rw [hs, hx]
    have hw : winA (.a8 r) o (n * 1) = .a8 (cut r o n) := by
      unfold winA
      split
      · rename_i h
        have h2 : r.length = n := by have := h.2; simp [Arr.size] at this; omega
        rw [h.1]; subst h2; simp [cut]
      · rw [Nat.mul_one]; rfl
    have hsz : o + n * 1 ≤ Arr.size (.a8 r) := by simp [Arr.size]; exact hl
    have hsrc : srcOf M 1 (.c (.sl b o n c 1)) = some (n, .a8 (cut r o n)) := by
      simp only [srcOf, hm]
      rw [if_pos ⟨trivial, hsz⟩, hw]
    have hz2 : Arr.size (.a8 u) = len := hlu
    have hn9 : n ≤ 9223372036854775807 := by omega
    simp [evAppend, hu, noIntT, hu2, he, hsrc, hms, hz2, winA, Arr.one, Arr.app, hb.1, hb.2.1, hb.2.2, hn9]) hd hk
theorem m_bs64 {l : List (BitVec 64)} {el by' len n : Nat} {ps : Array (Nat × Operand)} (hu : P.underlying t = some (.slice el)) (he : elemOk P el = some (1, by')) (hd : denseA 0 (ps.toList.map fun p => (p.1, opnd T p.2)) = some (l.map U64)) (hl : ps.toList.length = len) (h0 : ¬ len = 0) (h1 : len ≤ 16777216) (hn : M.length = n) :
    evMem P (opnd T) M (.buildSlice t len ps) = some (.c (.sl n 0 len len 1), M ++ [.row true (.a64 l)]) := by
  have hn0 : l ≠ [] := by
    intro e; subst e
    have := denseA_len hd
    have h9 : ps.toList.length = ps.size := by simp
    simp at this
    omega
  rw [m_bs hu he hd hl h0 h1 hn, abs64 hn0]
theorem v_bld64 {l : List (BitVec 64)} {n el : Nat} {ps : Array (Nat × Operand)} (hz : (P.info? t).bind (fun i => i.zero.map (·.cells.size)) = some n) (hu : P.underlying t = some (.array n el)) (hs : szT P el = some 1) (hd : denseA 0 (ps.toList.map fun p => (p.1, opnd T p.2)) = some (l.map U64)) (hl : ps.toList.length = n) (h0 : ¬ n = 0) :
    evVal P (opnd T) M (.build t ps) = some (.agg (.a64 l)) := by
  show evBuild P t (ps.toList.map fun p => (p.1, opnd T p.2)) = _
  obtain ⟨it, hi, hz2⟩ := Option.bind_eq_some_iff.1 hz
  obtain ⟨z, hz3, hz4⟩ := Option.map_eq_some_iff.1 hz2
  obtain ⟨ie, hie, h1⟩ := Option.map_eq_some_iff.1 hs
  have hn0 : l ≠ [] := by
    intro e; subst e
    have := denseA_len hd
    have h9 : ps.toList.length = ps.size := by simp
    simp at this
    omega
  simp only [evBuild, hi, hu, hz3, hie]
  rw [if_pos ⟨h1, by simpa using hl, hz4⟩, hd]
  simp only [abs64 hn0]
theorem v_ix64 {x i : Operand} {n el j : Nat} {kd : IntKind} {y : List (BitVec 64)} (hx : opnd T x = .agg (.a64 y)) (hi : opnd T i = .c (.val (.int kd (j : Int)))) (hu : P.underlying t = some (.array n el)) (hs : szT P el = some 1) (hr : isRowT P el = some false) (h0 : j < n) (hl : j < y.length) :
    evVal P (opnd T) M (.index t x i) = some (.c (.val (U64 (nth y j)))) := by
  show evIdx P t (opnd T x) (opnd T i) = _
  rw [hx, hi]
  have h1 : (0 : Int) ≤ (j : Int) ∧ (j : Int) < (n : Int) := by omega
  simp only [evIdx, hu, intOf?, hs, h1, and_self, if_true, Int.toNat_natCast, Nat.mul_one, partA, hr]
  rw [if_pos (show j < Arr.size (.a64 y) from hl)]
  rfl
theorem v_pickT {c a b : Operand} {p : Bool} {v : AV} (hc : opnd T c = .c (.val (.bool p))) (hp : p = true) (ha : opnd T a = v) : evVal P (opnd T) M (.pick c a b) = some v := by
  subst hp
  simp only [evVal, hc, if_true, ha]
theorem v_pickF {c a b : Operand} {p : Bool} {v : AV} (hc : opnd T c = .c (.val (.bool p))) (hp : p = false) (hb : opnd T b = v) : evVal P (opnd T) M (.pick c a b) = some v := by
  subst hp
  simp only [evVal, hc, hb]
  rfl
theorem v_unxor64 {x : Operand} {a : BitVec 64} (hx : opnd T x = .c (.val (U64 a))) : evVal P (opnd T) M (.unOp .xor t x) = some (.c (.val (U64 (~~~a)))) := by
  simp only [evVal, hx, not64]; rfl
theorem v_unnotB {x : Operand} {a : Bool} (hx : opnd T x = .c (.val (.bool a))) : evVal P (opnd T) M (.unOp .not t x) = some (.c (.val (.bool (!a)))) := by
  simp only [evVal, hx]; rfl
theorem v_neqB {x y : Operand} {a b : Bool} (hx : opnd T x = .c (.val (.bool a))) (hy : opnd T y = .c (.val (.bool b))) (hu : P.underlying t = some .bool) : evVal P (opnd T) M (.binOp .neq t x y t') = some (.c (.val (.bool (!(a == b))))) := by
  show evBin P .neq t x y (opnd T x) (opnd T y) = _
  rw [hx, hy]; simp [evBin, isBoolT, hu]
theorem e_call {f : FuncId} {ops2 : Array Operand} {ts : Array TypeId} {args : List AV} {mc mc' : Mem} {bs : List Nat} {v v' : AV} {news : Mem} (h : Ev P (.call f args mc) (.val v mc')) (hf : (P.funcs[f]?).any (fun fn => fn.body.isSome && !(fn.name == "runtime.NumGoroutine")) = true)
    (hin : canon 0 (ops2.toList.map (opnd T)) M = some (args, mc, bs)) (hM : backRows bs mc' (backRen bs M.length) 0 M = M) (hN : (mc'.drop bs.length).map (Row.ren (backRen bs M.length)) = news) (hv : v.ren (backRen bs M.length) = v') :
    Ev P (.op (.call { callee := .value (.func f), args := ops2, argTypes := ts }) (opnd T) M) (.val v' (M ++ news)) := by
  have := Ev.fn (c := { callee := .value (.func f), args := ops2, argTypes := ts }) (e := opnd T) f rfl rfl hf hin h
  simp only [linkOut, hM, hN, hv] at this
  exact this
theorem e_callR {f : FuncId} {ops2 : Array Operand} {ts : Array TypeId} {args : List AV} {mc mc' : Mem} {bs : List Nat} {v v' : AV} {news : Mem} (h : Ev P (.call f args mc) (.val v mc')) (hf : (P.funcs[f]?).any (fun fn => fn.body.isSome && !(fn.name == "runtime.NumGoroutine")) = true)
    (hin : canon 0 (ops2.toList.map (opnd T)) (roMem M) = some (args, mc, bs)) (hM : backRows bs mc' (backRen bs (roMem M).length) 0 (roMem M) = roMem M) (hN : (mc'.drop bs.length).map (Row.ren (backRen bs (roMem M).length)) = news) (hv : v.ren (backRen bs (roMem M).length) = v') :
    Ev P (.op (.call { callee := .value (.func f), args := ops2, argTypes := ts }) (opnd T) M) (.val v' (M ++ news)) :=
  .ro (e_call h hf hin hM hN hv)
theorem e_callK {f : FuncId} {ops2 : Array Operand} {ts : Array TypeId} {args : List AV} {mc mc' : Mem} {bs : List Nat} {v v' : AV} {news M1 : Mem} (h : Ev P (.call f args mc) (.val v mc')) (hf : (P.funcs[f]?).any (fun fn => fn.body.isSome && !(fn.name == "runtime.NumGoroutine")) = true)
    (hin : canon 0 (ops2.toList.map (opnd T)) M = some (args, mc, bs)) (hM : backRows bs mc' (backRen bs M.length) 0 M = M1) (hN : (mc'.drop bs.length).map (Row.ren (backRen bs M.length)) = news) (hv : v.ren (backRen bs M.length) = v') (hA : M1 ++ news = M') :
    Ev P (.op (.call { callee := .value (.func f), args := ops2, argTypes := ts }) (opnd T) M) (.val v' M') := by
  have := Ev.fn (c := { callee := .value (.func f), args := ops2, argTypes := ts }) (e := opnd T) f rfl rfl hf hin h
  simp only [linkOut, hM, hN, hv, hA] at this
  exact this
def viewOf (r : List (Option Nat)) (j : Nat) : Option Nat := (r[j]?).bind id
theorem e_add {f : FuncId} {x y z : Operand} {ts : Array TypeId} {a b : BitVec 64} {cv : Value} {c : BitVec 64} (hf : ExtIs P f add64Entry) (hx : opnd T x = .c (.val (U64 a))) (hy : opnd T y = .c (.val (U64 b))) (hz : opnd T z = .c (.val cv)) (hcv : cv = U64 c) (hc : c.toNat ≤ 1) :
    Ev P (.op (.call { callee := .value (.func f), args := #[x, y, z], argTypes := ts }) (opnd T) M) (.val (addAV a b c) (M ++ [])) := by
  rw [List.append_nil]
  refine Ev.add64 f rfl rfl hf ?_
  show ev64 addAV [opnd T x, opnd T y, opnd T z] = _
  rw [hx, hy, hz, hcv]
  simp [ev64, hc]
theorem e_sub {f : FuncId} {x y z : Operand} {ts : Array TypeId} {a b : BitVec 64} {cv : Value} {c : BitVec 64} (hf : ExtIs P f sub64Entry) (hx : opnd T x = .c (.val (U64 a))) (hy : opnd T y = .c (.val (U64 b))) (hz : opnd T z = .c (.val cv)) (hcv : cv = U64 c) (hc : c.toNat ≤ 1) :
    Ev P (.op (.call { callee := .value (.func f), args := #[x, y, z], argTypes := ts }) (opnd T) M) (.val (subAV a b c) (M ++ [])) := by
  rw [List.append_nil]
  refine Ev.sub64 f rfl rfl hf ?_
  show ev64 subAV [opnd T x, opnd T y, opnd T z] = _
  rw [hx, hy, hz, hcv]
  simp [ev64, hc]
end
end Go.Proofs.Ytcgncafhonlmlaa
namespace Go.Proofs.Ytcgncafhonlmlaa
open Go.RowKit
theorem cut_all {α : Type} {l : List α} {n : Nat} (h : l.length = n) : cut l 0 n = l := by subst h; simp [cut]
theorem emb_lt {ι : Emb} {M : Mem} {w : World} (hR : R ι M w) {b : Nat} {l : Loc} (h : ι b = some l) : b < M.length := by
  rcases Nat.lt_or_ge b M.length with h1 | h1
  · exact h1
  · rw [hR.dom b h1] at h; cases h
theorem app_lt {M : Mem} {x : Row} {b : Nat} (h : b < M.length) : (M ++ [x])[b]? = M[b]? := List.getElem?_append_left h
theorem nil_step {k : Nat} {ι : Emb} {M : Mem} {w : World} {x : Arr} (hk : k ≤ M.length) (hR : R ι M w) : Step k ι M w ι (M ++ [.row true x]) w := by
  have lt := fun {b : Nat} {l : Loc} (h : ι b = some l) => emb_lt hR h
  refine ⟨⟨fun b hb => hR.dom b (by simp at hb; omega), fun b l own y h1 h2 => ?_, fun b b' l l' own own' y y' hne h1 h2 h3 h4 ho => ?_⟩, ⟨rfl, rfl, rfl, Nat.le_refl _, fun _ _ _ => rfl, ?_⟩, fun _ _ => rfl, by simp; omega, fun b y hb h => ?_, fun b own y hb h => ?_, fun b l own y hb h1 h2 => ?_⟩
  · rw [app_lt (lt h1)] at h2; exact hR.rows b l own y h1 h2
  · rw [app_lt (lt h1)] at h3; rw [app_lt (lt h2)] at h4; exact hR.inj b b' l l' own own' y y' hne h1 h2 h3 h4 ho
  · rintro c ⟨b, l, y, h1, h2, h3⟩
    rw [app_lt (lt h1)] at h2; exact .inr ⟨b, l, y, h1, h2, h3⟩
  · rw [app_lt (by omega)]; exact h
  · rw [app_lt (by omega)] at h; exact ⟨y, h⟩
  · rw [app_lt (lt h1)] at h2; exact .inr (.inr ⟨b, l, own, y, hb, h1, h2, rfl⟩)
def moveEmb (n b : Nat) (ι : Emb) : Emb := fun i => if i = n then ι b else ι i
theorem move_le {ι : Emb} {M : Mem} {w : World} (hR : R ι M w) (b : Nat) : ι.le (moveEmb M.length b ι) := fun i l h => by
  have := emb_lt hR h
  unfold moveEmb
  rw [if_neg (by omega)]; exact h
theorem move_step {k : Nat} {ι : Emb} {M : Mem} {w : World} {b : Nat} {x : Arr} (hk : k ≤ M.length) (hR : R ι M w) (hb : M[b]? = some (.row true x)) : Step k ι M w (moveEmb M.length b ι) (M.set b .dead ++ [.row true x]) w := by
  have hbl : b < M.length := by
    rcases Nat.lt_or_ge b M.length with h1 | h1
    · exact h1
    · rw [List.getElem?_eq_none h1] at hb; cases hb
  have e1 : ∀ {i : Nat}, i ≠ M.length → moveEmb M.length b ι i = ι i := fun h => if_neg h
  have e2 : moveEmb M.length b ι M.length = ι b := if_pos rfl
  -- a row that is there after it
  have src : ∀ {i : Nat} {own : Bool} {y : Arr}, (M.set b .dead ++ [.row true x])[i]? = some (.row own y) → (i = M.length ∧ own = true ∧ y = x) ∨ (i < M.length ∧ i ≠ b ∧ M[i]? = some (.row own y)) := by
    intro i own y h
    rcases Nat.lt_trichotomy i M.length with h1 | h1 | h1
    · right
      rw [List.getElem?_append_left (by simp; exact h1), List.getElem?_set] at h
      by_cases e : b = i
      · subst e; simp [h1] at h
      · rw [if_neg e] at h; exact ⟨h1, fun h => e h.symm, h⟩
    · left
      subst h1
      rw [List.getElem?_append_right (by simp)] at h
      simp only [List.length_set, Nat.sub_self, List.getElem?_cons_zero, Option.some.injEq, Row.row.injEq] at h
      exact ⟨rfl, h.1.symm, h.2.symm⟩
    · rw [List.getElem?_eq_none (by simp; omega)] at h; cases h
  -- where it was
  have org : ∀ {i : Nat} {l : Loc} {own : Bool} {y : Arr}, moveEmb M.length b ι i = some l → (M.set b .dead ++ [.row true x])[i]? = some (.row own y) → ∃ i0, ι i0 = some l ∧ M[i0]? = some (.row own y) ∧ (i0 = i ∨ (i0 = b ∧ i = M.length)) := by
    intro i l own y h1 h2
    rcases src h2 with ⟨rfl, rfl, rfl⟩ | ⟨h3, h4, h5⟩
    · rw [e2] at h1; exact ⟨b, h1, hb, .inr ⟨rfl, rfl⟩⟩
    · rw [e1 (by omega)] at h1; exact ⟨i, h1, h5, .inl rfl⟩
  refine ⟨⟨fun i hi => ?_, fun i l own y h1 h2 => ?_, fun i i' l l' own own' y y' hne h1 h2 h3 h4 ho => ?_⟩, ⟨rfl, rfl, rfl, Nat.le_refl _, fun _ _ _ => rfl, ?_⟩, fun i hi => e1 (by omega), by simp; omega, fun i y hi h => ?_, fun i own y hi h => ?_, fun i l own y hi h1 h2 => ?_⟩
  · simp at hi
    rw [e1 (by omega)]; exact hR.dom i (by omega)
  · obtain ⟨i0, h3, h4, _⟩ := org h1 h2
    obtain ⟨cs, t, fr, g1, g2, g3, g4⟩ := hR.rows i0 l own y h3 h4
    exact ⟨cs, t, fr, g1, g2, g3.mono' (move_le hR b), g4⟩
  · obtain ⟨j, k1, k2, k3⟩ := org h1 h3
    obtain ⟨j', g1, g2, g3⟩ := org h2 h4
    have hs := src h3
    have hs' := src h4
    refine hR.inj j j' l l' own own' y y' (fun e => ?_) k1 g1 k2 g2 ho
    subst e
    rcases k3 with k3 | k3 <;> rcases g3 with g3 | g3
    · exact hne (by omega)
    · rcases hs with hs | hs
      · have := emb_lt hR k1; omega
      · omega
    · rcases hs' with hs' | hs'
      · have := emb_lt hR k1; omega
      · omega
    · omega
  · rintro c ⟨i, l, y, h1, h2, h3⟩
    obtain ⟨i0, h4, h5, _⟩ := org h1 h2
    exact .inr ⟨i0, l, y, h4, h5, h3⟩
  · rw [List.getElem?_append_left (by simp; omega), List.getElem?_set]
    by_cases e : b = i
    · subst e; rw [hb] at h; cases h
    · rw [if_neg e]; exact h
  · rcases src h with ⟨h1, _⟩ | ⟨_, _, h1⟩
    · omega
    · exact ⟨y, h1⟩
  · obtain ⟨i0, h3, h4, h5⟩ := org h1 h2
    rcases h5 with rfl | ⟨rfl, rfl⟩
    · exact .inr (.inr ⟨i0, l, own, y, hi, h3, h4, rfl⟩)
    · rcases src h2 with ⟨_, rfl, rfl⟩ | ⟨h6, _⟩
      · exact .inr (.inl ⟨i0, l, y, h3, hb, rfl⟩)
      · omega
section
variable {P : Program} {k N n : Nat} {c : Code} {T : Nat → AV} {M M' : Mem} {Φ : Ex → St → Prop}
theorem frel_upd {ι : Emb} {s s' : St} {a : Act} (d : Nat) {v : AV} (h : FRel ι s a) (hn : s'.n = s.n) (ht : s'.t = upd s.t d v) (hv : ∀ u, (s.t d).rel ι u → v.rel ι u) : FRel ι s' a := by
  refine ⟨h.size.trans hn.symm, fun t => ?_⟩
  rw [ht]
  unfold upd
  split
  · rename_i e; subst e; exact hv _ (h.rel t)
  · exact h.rel t
theorem c_nil (d sz : Nat) (x : Arr) (_hx : x.size = 0) (hd : T d = .c .nsl) (hn : M.length = n) (hM : M ++ [.row true x] = M') (h : WC P k c ⟨N, upd T d (.c (.sl n 0 0 0 sz)), M'⟩ Φ) : WC P k c ⟨N, T, M⟩ Φ := by
  subst hM; subst hn
  obtain ⟨e, r, h1, h2⟩ := h.h
  refine ⟨⟨e, r, Ev.weak ?_ h1, h2⟩⟩
  intro ι w a hk hR hf
  refine ⟨ι, frel_upd (s := ⟨N, T, M⟩) d hf rfl rfl ?_, nil_step hk hR⟩
  intro u hu
  change (T d).rel ι u at hu
  rw [hd] at hu
  change u = _ at hu
  subst hu
  exact ⟨none, 0, rfl, Nat.le_refl _, Nat.le_refl _, .inl rfl⟩
theorem c_move (d : Nat) {b o len cap sz : Nat} {x : Arr} (hd : T d = .c (.sl b o len cap sz)) (hb : M[b]? = some (.row true x)) (hn : M.length = n) (hM : M.set b .dead ++ [.row true x] = M') (h : WC P k c ⟨N, upd T d (.c (.sl n o len len sz)), M'⟩ Φ) : WC P k c ⟨N, T, M⟩ Φ := by
  subst hM; subst hn
  obtain ⟨e, r, h1, h2⟩ := h.h
  refine ⟨⟨e, r, Ev.weak ?_ h1, h2⟩⟩
  intro ι w a hk hR hf
  refine ⟨_, frel_upd (s := ⟨N, T, M⟩) d (hf.mono (move_le hR b) M) rfl rfl ?_, move_step hk hR hb⟩
  intro u hu
  have hu' := hf.rel d
  change (T d).rel _ u at hu
  rw [hd] at hu
  obtain ⟨p, c', rfl, h3, h4, h5⟩ := hu
  refine ⟨p, c', rfl, h4, h4, h5.imp id ?_⟩
  rintro ⟨l, h6, h7⟩
  refine ⟨l, ?_, h7⟩
  show (if M.length = M.length then ι b else ι M.length) = some l
  rw [if_pos rfl]
  unfold moveEmb at h6
  split at h6
  · exact h6
  · exact h6
def peelK (P : Program) (k : Nat) (c : Code) (Φ : Ex → St → Prop) : Ex → St → Prop
  | .normal, s => WC P k (.loop c) s Φ
  | e, s => Φ e s
theorem c_peel {s : St} (h : WC P k c s (peelK P k c Φ)) : WC P k (.loop c) s Φ := by
  obtain ⟨e, r, h1, h2⟩ := h.h
  cases e with
  | normal => obtain ⟨e', r', h3, h4⟩ := WC.h h2; exact ⟨⟨e', r', Ev.loop h1 h3, h4⟩⟩
  | exit i => exact ⟨⟨_, r, Ev.loopx h1 (by simp), h2⟩⟩
  | ret => exact ⟨⟨_, r, Ev.loopx h1 (by simp), h2⟩⟩
end
section
variable {P : Program} {k N : Nat} {ops : Array Oper} {d : Nat} {ty : TypeId} {pos : String} {af : Array Edge} {l0 : List Oper} {T : Nat → AV} {M M' : Mem} {K : St → Prop} {t t' : TypeId} {x y : Operand}
end
end Go.Proofs.Ytcgncafhonlmlaa
namespace Go.Proofs.Ytcgncafhonlmlaa
open Go.RowKit
theorem ev_want {ops : Array Oper} {t : Nat → AV} {o : Oper} {j d : Nat} {want b c : Bool} (hg : o.guard = some (j, want)) (hd : (ops[j]?).bind (·.dst) = some d) (ht : t d = .c (.val (.bool b))) (hb : (b == want) = c) : evWanted ops t o = some c := by
  simp only [evWanted, hg, hd, ht, hb]
theorem ev_wantU {ops : Array Oper} {t : Nat → AV} {o : Oper} {j d : Nat} {want : Bool} {y : Array Value} (hg : o.guard = some (j, want)) (hd : (ops[j]?).bind (·.dst) = some d) (ht : t d = .c (.val (.tuple y))) : evWanted ops t o = some false := by
  simp only [evWanted, hg, hd, ht]
theorem beqT {p : Prop} [Decidable p] (h : p) : (decide p == true) = true := by simp [h]
theorem beqF {p : Prop} [Decidable p] (h : ¬ p) : (decide p == false) = true := by simp [h]
theorem beqTn {p : Prop} [Decidable p] (h : p) : (decide p == false) = false := by simp [h]
theorem beqFn {p : Prop} [Decidable p] (h : ¬ p) : (decide p == true) = false := by simp [h]
def zern (n : Nat) : List Nat := List.replicate n 0
@[simp] theorem zern_len (n : Nat) : (zern n).length = n := by simp [zern]
theorem over_all {α : Type} (u m : List α) (h : m.length = u.length) : over u 0 m = m := by
  simp [over, h]
@[simp] theorem over_len {α : Type} (u m : List α) (o : Nat) : (over u o m).length = min o u.length + m.length + (u.length - (o + m.length)) := by simp [over, Nat.add_assoc]
section
variable {P : Program} {k N : Nat} {ops : Array Oper} {d : Nat} {ty : TypeId} {pos : String} {af : Array Edge} {l0 : List Oper} {T : Nat → AV} {M M' : Mem} {K : St → Prop} {t t' : TypeId}
theorem copy8 {s x : Operand} {el b0 o len cap b o2 n c m : Nat} {own : Bool} {u r : List (BitVec 8)} (hs : opnd T s = .c (.sl b0 o len cap 1)) (hms : M[b0]? = some (.row true (.a8 u))) (hx : opnd T x = .c (.sl b o2 n c 1)) (hm : M[b]? = some (.row own (.a8 r))) (hu : P.underlying t = some (.slice el)) (hz : szT P el = some 1)
    (hlu : o + len ≤ u.length) (hl : o2 + n ≤ r.length) (hn : min n len = m) (hM : M.set b0 (.row true (.a8 (over u o (cut r o2 m)))) = M') :
    evMem P (opnd T) M (.call { callee := .builtin .copy, args := #[s, x], argTypes := #[t, t'] }) = some (.c (.val (.int .i64 ((m : Nat) : Int))), M') := by
  show evCopy P M t (opnd T s) (opnd T x) = _
  subst hM; subst hn
  rw [hs, hx]
  have h1 : o2 + min n len ≤ Arr.size (.a8 r) := by simp only [Arr.size]; omega
  have h2 : o + min n len ≤ Arr.size (.a8 u) := by simp only [Arr.size]; omega
  simp only [evCopy, hu, hz, hms, hm, true_and, Nat.lt_irrefl, if_true, Nat.zero_lt_one, h1, h2, Arr.win, Arr.one, and_self, Arr.putW, Option.map_some, Nat.mul_one]
theorem s_copy8a {s x : Operand} {el b0 o len cap b n c m : Nat} {own : Bool} {u r : List (BitVec 8)} (hs : opnd T s = .c (.sl b0 o len cap 1)) (hms : M[b0]? = some (.row true (.a8 u))) (hx : opnd T x = .c (.sl b 0 n c 1)) (hm : M[b]? = some (.row own (.a8 r))) (hu : P.underlying t = some (.slice el)) (hz : szT P el = some 1)
    (hlu : o + len ≤ u.length) (hl : r.length = n) (hn : min n len = m) (he : m = n) (hM : M.set b0 (.row true (.a8 (over u o r))) = M') (hd : decide (d < N) = true) (hk : WO P k ops l0 ⟨N, upd T d (.c (.val (.int .i64 ((m : Nat) : Int)))), M'⟩ K) :
    WO P k ops (⟨some d, .call { callee := .builtin .copy, args := #[s, x], argTypes := #[t, t'] }, ty, pos, af, none⟩ :: l0) ⟨N, T, M⟩ K :=
  s_mem (copy8 hs hms hx hm hu hz hlu (by omega) hn (by rw [he, cut_all hl]; exact hM)) hd hk
theorem s_copy8w {s x : Operand} {el b0 len cap b o2 n c m : Nat} {own : Bool} {u r : List (BitVec 8)} (hs : opnd T s = .c (.sl b0 0 len cap 1)) (hms : M[b0]? = some (.row true (.a8 u))) (hx : opnd T x = .c (.sl b o2 n c 1)) (hm : M[b]? = some (.row own (.a8 r))) (hu : P.underlying t = some (.slice el)) (hz : szT P el = some 1)
    (hlu : u.length = len) (hl : o2 + n ≤ r.length) (hn : min n len = m) (he : m = len) (hM : M.set b0 (.row true (.a8 (cut r o2 m))) = M') (hd : decide (d < N) = true) (hk : WO P k ops l0 ⟨N, upd T d (.c (.val (.int .i64 ((m : Nat) : Int)))), M'⟩ K) :
    WO P k ops (⟨some d, .call { callee := .builtin .copy, args := #[s, x], argTypes := #[t, t'] }, ty, pos, af, none⟩ :: l0) ⟨N, T, M⟩ K :=
  s_mem (copy8 hs hms hx hm hu hz (by omega) hl hn (by rw [over_all _ _ (by rw [cut_length]; omega)]; exact hM)) hd hk
theorem v_blf8 {l : List (BitVec 8)} {n n' el : Nat} {ps : Array (Nat × Operand)} (hz : (P.info? t).bind (fun i => i.zero.map (fun z => absArr z.cells.toList)) = some (.a8 (zer8 n))) (hu : P.underlying t = some (.array n' el)) (hs : szT P el = some 1) (h0 : (decide (ps.toList.length = n')) = false)
    (hf : fillA (fun i => some (i * 1, 1)) (.a8 (zer8 n)) (ps.toList.map fun p => (p.1, opnd T p.2)) = some (.a8 l)) : evVal P (opnd T) M (.build t ps) = some (.agg (.a8 l)) := by
  show evBuild P t (ps.toList.map fun p => (p.1, opnd T p.2)) = _
  obtain ⟨it, hi, hz2⟩ := Option.bind_eq_some_iff.1 hz
  obtain ⟨z, hz3, hz4⟩ := Option.map_eq_some_iff.1 hz2
  obtain ⟨ie, hie, h1⟩ := Option.map_eq_some_iff.1 hs
  have h9 : ¬ (ie.size = 1 ∧ (ps.toList.map fun p => (p.1, opnd T p.2)).length = n' ∧ z.cells.size = n') := by
    rintro ⟨_, h, _⟩
    rw [List.length_map] at h
    exact of_decide_eq_false h0 h
  simp only [evBuild, hi, hu, hz3, hie]
  rw [if_neg h9]
  simp only [hz4, h1, hf, Option.map_some]
theorem v_blf64 {l : List (BitVec 64)} {n n' el : Nat} {ps : Array (Nat × Operand)} (hz : (P.info? t).bind (fun i => i.zero.map (fun z => absArr z.cells.toList)) = some (.a64 (zer64 n))) (hu : P.underlying t = some (.array n' el)) (hs : szT P el = some 1) (h0 : (decide (ps.toList.length = n')) = false)
    (hf : fillA (fun i => some (i * 1, 1)) (.a64 (zer64 n)) (ps.toList.map fun p => (p.1, opnd T p.2)) = some (.a64 l)) : evVal P (opnd T) M (.build t ps) = some (.agg (.a64 l)) := by
  show evBuild P t (ps.toList.map fun p => (p.1, opnd T p.2)) = _
  obtain ⟨it, hi, hz2⟩ := Option.bind_eq_some_iff.1 hz
  obtain ⟨z, hz3, hz4⟩ := Option.map_eq_some_iff.1 hz2
  obtain ⟨ie, hie, h1⟩ := Option.map_eq_some_iff.1 hs
  have h9 : ¬ (ie.size = 1 ∧ (ps.toList.map fun p => (p.1, opnd T p.2)).length = n' ∧ z.cells.size = n') := by
    rintro ⟨_, h, _⟩
    rw [List.length_map] at h
    exact of_decide_eq_false h0 h
  simp only [evBuild, hi, hu, hz3, hie]
  rw [if_neg h9]
  simp only [hz4, h1, hf, Option.map_some]
end
end Go.Proofs.Ytcgncafhonlmlaa
namespace Go.Proofs.Ytcgncafhonlmlaa
open Go.RowKit
attribute [simp] cut_length
theorem LEN_ {p : Prop} (h : p := by first | exact (rfl : _ = 0) | exact (rfl : _ = 1) | exact (rfl : _ = 2) | exact (rfl : _ = 3) | exact (rfl : _ = 4) | exact (rfl : _ = 5) | exact (rfl : _ = 6) | exact (rfl : _ = 7) | exact (rfl : _ = 8) | exact (rfl : _ = 9) | exact (rfl : _ = 10) | exact (rfl : _ = 11) | exact (rfl : _ = 12)) : p := h
theorem APP_ {p : Prop} (h : p := by first | exact (rfl : _ = []) | exact (rfl : _ = [_]) | exact (rfl : _ = [_, _]) | exact (rfl : _ = [_, _, _]) | exact (rfl : _ = [_, _, _, _]) | exact (rfl : _ = [_, _, _, _, _]) | exact (rfl : _ = [_, _, _, _, _, _]) | exact (rfl : _ = [_, _, _, _, _, _, _]) | exact (rfl : _ = [_, _, _, _, _, _, _, _]) | exact (rfl : _ = [_, _, _, _, _, _, _, _, _]) | exact (rfl : _ = [_, _, _, _, _, _, _, _, _, _]) | exact (rfl : _ = [_, _, _, _, _, _, _, _, _, _, _]) | exact (rfl : _ = [_, _, _, _, _, _, _, _, _, _, _, _]) | exact (rfl : _ = [_, _, _, _, _, _, _, _, _, _, _, _, _]) | exact (rfl : _ = [_, _, _, _, _, _, _, _, _, _, _, _, _, _]) | exact (rfl : _ = [_, _, _, _, _, _, _, _, _, _, _, _, _, _, _]) | exact (rfl : _ = [_, _, _, _, _, _, _, _, _, _, _, _, _, _, _, _]) | exact (rfl : _ = [_, _, _, _, _, _, _, _, _, _, _, _, _, _, _, _, _]) | exact (rfl : _ = [_, _, _, _, _, _, _, _, _, _, _, _, _, _, _, _, _, _]) | exact (rfl : _ = [_, _, _, _, _, _, _, _, _, _, _, _, _, _, _, _, _, _, _]) | exact (rfl : _ = [_, _, _, _, _, _, _, _, _, _, _, _, _, _, _, _, _, _, _, _]) | exact (rfl : _ = [_, _, _, _, _, _, _, _, _, _, _, _, _, _, _, _, _, _, _, _, _]) | exact (rfl : _ = [_, _, _, _, _, _, _, _, _, _, _, _, _, _, _, _, _, _, _, _, _, _])) : p := h
theorem KILL_ {p : Prop} (h : p := by first | exact (rfl : _ = []) | exact (rfl : _ = [_]) | exact (rfl : _ = [_, _]) | exact (rfl : _ = [_, _, _]) | exact (rfl : _ = [_, _, _, _]) | exact (rfl : _ = [_, _, _, _, _]) | exact (rfl : _ = [_, _, _, _, _, _]) | exact (rfl : _ = [_, _, _, _, _, _, _]) | exact (rfl : _ = [_, _, _, _, _, _, _, _]) | exact (rfl : _ = [_, _, _, _, _, _, _, _, _]) | exact (rfl : _ = [_, _, _, _, _, _, _, _, _, _]) | exact (rfl : _ = [_, _, _, _, _, _, _, _, _, _, _]) | exact (rfl : _ = [_, _, _, _, _, _, _, _, _, _, _, _]) | exact (rfl : _ = [_, _, _, _, _, _, _, _, _, _, _, _, _]) | exact (rfl : _ = [_, _, _, _, _, _, _, _, _, _, _, _, _, _]) | exact (rfl : _ = [_, _, _, _, _, _, _, _, _, _, _, _, _, _, _]) | exact (rfl : _ = [_, _, _, _, _, _, _, _, _, _, _, _, _, _, _, _]) | exact (rfl : _ = [_, _, _, _, _, _, _, _, _, _, _, _, _, _, _, _, _]) | exact (rfl : _ = [_, _, _, _, _, _, _, _, _, _, _, _, _, _, _, _, _, _]) | exact (rfl : _ = [_, _, _, _, _, _, _, _, _, _, _, _, _, _, _, _, _, _, _]) | exact (rfl : _ = [_, _, _, _, _, _, _, _, _, _, _, _, _, _, _, _, _, _, _, _]) | exact (rfl : _ = [_, _, _, _, _, _, _, _, _, _, _, _, _, _, _, _, _, _, _, _, _]) | exact (rfl : _ = [_, _, _, _, _, _, _, _, _, _, _, _, _, _, _, _, _, _, _, _, _, _])) : p := h
theorem FIT_ {p : Prop} (h : p := by show _ ≤ List.length _; first | omega | (simp only [put_length]; omega) | (simp only [zer8_length]; omega)) : p := h
theorem EQL_ {p : Prop} (h : p := by first | assumption | omega | rfl | (simp only [put_length]; first | assumption | omega) | (simp only [List.length_append]; omega) | (simp; done) | (simp [*]; omega)) : p := h
theorem LE_ {p : Prop} (h : p := by first | omega | (simp only [put_length]; omega) | (simp; done) | (simp; omega) | (simp [*]; omega)) : p := h
theorem VAL_ {p : Prop} (h : p := by first | exact (rfl : _ = AV.c (.val _)) | exact (rfl : _ = AV.agg (.a64 _)) | exact (rfl : _ = AV.agg (.a8 _)) | exact (rfl : _ = AV.agg (.a32 _)) | exact (rfl : _ = AV.c .nsl) | exact (rfl : _ = AV.c (.sl 0 _ _ _ _)) | exact (rfl : _ = AV.c (.sl 1 _ _ _ _)) | exact (rfl : _ = AV.c (.sl 2 _ _ _ _)) | exact (rfl : _ = AV.c (.sl 3 _ _ _ _)) | exact (rfl : _ = AV.c (.sl 4 _ _ _ _)) | exact (rfl : _ = AV.c (.sl 5 _ _ _ _)) | exact (rfl : _ = AV.c (.sl 6 _ _ _ _)) | exact (rfl : _ = AV.c (.sl 7 _ _ _ _)) | exact (rfl : _ = AV.c (.sl 8 _ _ _ _)) | exact (rfl : _ = AV.c (.sl 9 _ _ _ _)) | exact rfl) : p := h
theorem SET_ {p : Prop} (h : p := by first | exact (rfl : _ = []) | exact (rfl : _ = [_]) | exact (rfl : _ = [_, _]) | exact (rfl : _ = [_, _, _]) | exact (rfl : _ = [_, _, _, _]) | exact (rfl : _ = [_, _, _, _, _]) | exact (rfl : _ = [_, _, _, _, _, _]) | exact (rfl : _ = [_, _, _, _, _, _, _]) | exact (rfl : _ = [_, _, _, _, _, _, _, _]) | exact (rfl : _ = [_, _, _, _, _, _, _, _, _]) | exact (rfl : _ = [_, _, _, _, _, _, _, _, _, _]) | exact (rfl : _ = [_, _, _, _, _, _, _, _, _, _, _]) | exact (rfl : _ = [_, _, _, _, _, _, _, _, _, _, _, _]) | exact (rfl : _ = [_, _, _, _, _, _, _, _, _, _, _, _, _]) | exact (rfl : _ = [_, _, _, _, _, _, _, _, _, _, _, _, _, _]) | exact (rfl : _ = [_, _, _, _, _, _, _, _, _, _, _, _, _, _, _]) | exact (rfl : _ = [_, _, _, _, _, _, _, _, _, _, _, _, _, _, _, _]) | exact (rfl : _ = [_, _, _, _, _, _, _, _, _, _, _, _, _, _, _, _, _]) | exact (rfl : _ = [_, _, _, _, _, _, _, _, _, _, _, _, _, _, _, _, _, _]) | exact (rfl : _ = [_, _, _, _, _, _, _, _, _, _, _, _, _, _, _, _, _, _, _]) | exact (rfl : _ = [_, _, _, _, _, _, _, _, _, _, _, _, _, _, _, _, _, _, _, _]) | exact (rfl : _ = [_, _, _, _, _, _, _, _, _, _, _, _, _, _, _, _, _, _, _, _, _]) | exact (rfl : _ = [_, _, _, _, _, _, _, _, _, _, _, _, _, _, _, _, _, _, _, _, _, _])) : p := h
theorem LT_ {p : Prop} (h : p := by first | omega | (simp only [put_length]; omega) | (simp only [zer64_length]; omega) | (simp only [zer8_length]; omega) | (simp only [zer32_length]; omega) | (simp only [zeri_length]; omega) | (simp only [puti_length]; omega) | (simp only [putn_length]; omega) | (simp only [Arr.size, List.length_cons, List.length_nil]; omega) | (simp only [List.length_cons, List.length_nil]; omega) | decide) : p := h
theorem EQ_ {p : Prop} (h : p := by first | (simp only [Arr.size, List.length_cons, List.length_nil, Nat.reduceAdd]; done) | (simp only [Arr.size, zer64_length, zer32_length, zer8_length, zeri_length]; done) | (show List.length _ = _; first | assumption | omega | (simp only [put_length]; first | assumption | omega) | (simp only [natI, List.length_map]; first | assumption | omega) | (simp; done) | (simp; assumption) | (simp; omega) | rfl | simp only [zer64_length] | simp only [zer8_length] | simp only [zer32_length] | simp only [zeri_length])) : p := h
theorem BX_ {p : Prop} (h : p := by first | rfl) : p := h
theorem HYP_ {p : Prop} (h : p := by first | omega | (simp; done) | (simp [*]; done) | (simp [*]; omega) | assumption) : p := h
theorem LQ_ {p : Prop} (h : p := by first | (simp; done) | (simp [*]; done) | (simp [*]; omega) | rfl) : p := h
theorem MN_ {p : Prop} (h : p := by first | rfl | omega | (rw [Nat.min_eq_left (by omega)]) | (rw [Nat.min_eq_right (by omega)])) : p := h
theorem PK_ {p : Prop} (h : p := by first | rfl | assumption | (apply decide_eq_true; omega) | (apply decide_eq_false; omega) | (rw [Bool.not_eq_true', decide_eq_false_iff_not]; omega) | (rw [Bool.not_eq_false', decide_eq_true_eq]; omega) | (simp [*]; done) | (simp; omega)) : p := h
theorem GO_ {p : Prop} (h : p := by first | rfl | exact ev_wantU rfl rfl rfl | exact ev_want rfl rfl rfl (by first | rfl | exact beqT (by omega) | exact beqF (by omega) | exact beqTn (by omega) | exact beqFn (by omega) | (simp [*]; done))) : p := h
theorem eq_self_not {n : Nat} : (!decide (n = n)) = false := by simp
structure Hid (r : Prop) : Prop where
  out : r
theorem S_ {g r : Prop} (k : r) (h : Hid r → g := by
  intro h
  repeat (first
    | refine c_seq ?_
    | refine c_block ?_
    | refine c_skip ?_
    | refine c_exit ?_
    | refine c_ret ?_
    | refine c_label ?_
    | refine c_scope ?_
    | refine c_condT rfl (by first | rfl | (apply decide_eq_true; omega) | (rw [Bool.not_eq_true', decide_eq_false_iff_not]; omega)) ?_
    | refine c_condF rfl (by first | rfl | (apply decide_eq_false; omega) | (rw [Bool.not_eq_false', decide_eq_true_eq]; omega) | exact eq_self_not) ?_)
  exact h.out) : g := h ⟨k⟩
theorem Q_ {g r : Prop} (k : r) (h : Hid r → g := by
  intro h
  repeat (first
    | refine c_seq ?_
    | refine c_block ?_
    | refine c_skip ?_
    | refine c_label ?_
    | refine c_scope ?_)
  exact h.out) : g := h ⟨k⟩
end Go.Proofs.Ytcgncafhonlmlaa
namespace Go.Proofs.Ytcgncafhonlmlaa
open Go.RowKit
def lst : Nat → Nat
  | 0 => 0
  | _ + 1 => 32
@[simp] theorem lst_zero : lst 0 = 0 := rfl
@[simp] theorem lst_succ (j : Nat) : lst (j + 1) = 32 := rfl
section
variable {P : Program} {k N : Nat} {ops : Array Oper} {d : Nat} {ty : TypeId} {pos : String} {af : Array Edge} {l0 : List Oper} {T : Nat → AV} {M M' : Mem} {K : St → Prop} {t t' : TypeId}
theorem v_blo64 {v : BitVec 64} {i n n' el : Nat} {x : Operand} (hz : (P.info? t).bind (fun i => i.zero.map (fun z => absArr z.cells.toList)) = some (.a64 (zer64 n))) (hu : P.underlying t = some (.array n' el)) (hs : szT P el = some 1) (h0 : (decide (1 = n')) = false) (hi : decide (i < n) = true) (hx : opnd T x = .c (.val (U64 v))) :
    evVal P (opnd T) M (.build t #[(i, x)]) = some (.agg (.a64 (put (zer64 n) i v))) := by
  refine v_blf64 hz hu hs h0 ?_
  have h1 : i < Arr.size (.a64 (zer64 n)) := by simp only [Arr.size, zer64_length]; exact of_decide_eq_true hi
  have h2 : (Cell.val (U64 v)).one = true := rfl
  simp only [List.map_cons, List.map_nil, fillA, hx, h1, h2, and_self, if_true, Arr.set, w64?_U64, Option.map_some, Option.bind_some, Nat.mul_one]
theorem winA8 (l : List (BitVec 8)) (o n : Nat) : winA (.a8 l) o n = .a8 (cut l o n) := by
  unfold winA
  split
  · rename_i h
    obtain ⟨rfl, h⟩ := h
    rw [cut_all (show l.length = n from h.symm)]
  · rfl
theorem winA64 (l : List (BitVec 64)) (o n : Nat) : winA (.a64 l) o n = .a64 (cut l o n) := by
  unfold winA
  split
  · rename_i h
    obtain ⟨rfl, h⟩ := h
    rw [cut_all (show l.length = n from h.symm)]
  · rfl
theorem v_loadW8 {t : TypeId} {a : Operand} {b n o : Nat} {own : Bool} {l : List (BitVec 8)} (ha : opnd T a = .c (.ptr b o)) (hm : M[b]? = some (.row own (.a8 l))) (hr : isRowT P t = some true) (hs : szT P t = some n) (hx : o + n ≤ l.length) (h0 : 0 < n) : evVal P (opnd T) M (.load t a) = some (.agg (.a8 (cut l o n))) := by
  have hx' : o + n ≤ Arr.size (.a8 l) := hx
  simp only [evVal, ha, hm, partA, hr, hs, hx', h0, and_self, if_true, winA8]
theorem v_loadW64 {t : TypeId} {a : Operand} {b n o : Nat} {own : Bool} {l : List (BitVec 64)} (ha : opnd T a = .c (.ptr b o)) (hm : M[b]? = some (.row own (.a64 l))) (hr : isRowT P t = some true) (hs : szT P t = some n) (hx : o + n ≤ l.length) (h0 : 0 < n) : evVal P (opnd T) M (.load t a) = some (.agg (.a64 (cut l o n))) := by
  have hx' : o + n ≤ Arr.size (.a64 l) := hx
  simp only [evVal, ha, hm, partA, hr, hs, hx', h0, and_self, if_true, winA64]
def okS : AV → Bool
  | .c (.sl ..) => true
  | .c .nsl => true
  | .c .esl => true
  | _ => false
theorem m_appZ {s x : Operand} {el b : Nat} {v : AV} {e2 : TypeId} (hs : opnd T s = v) (hx : opnd T x = .c .nsl) (hu : P.underlying t = some (.slice el)) (hu2 : P.underlying t' = some (.slice e2)) (he : elemOk P el = some (1, b)) (hk : okS v = true) :
    evMem P (opnd T) M (.call { callee := .builtin .append, args := #[s, x], argTypes := #[t, t'] }) = some (v, M ++ []) := by
  show evAppend P M t t' (opnd T s) (opnd T x) = _
  rw [hs, hx, List.append_nil]
  simp only [evAppend, hu, noIntT, hu2, he]
  unfold okS at hk
  split at hk <;> first | rfl | cases hk
theorem m_appZe {s x : Operand} {el b : Nat} {v : AV} {e2 : TypeId} (hs : opnd T s = v) (hx : opnd T x = .c .esl) (hu : P.underlying t = some (.slice el)) (hu2 : P.underlying t' = some (.slice e2)) (he : elemOk P el = some (1, b)) (hk : okS v = true) :
    evMem P (opnd T) M (.call { callee := .builtin .append, args := #[s, x], argTypes := #[t, t'] }) = some (v, M ++ []) := by
  show evAppend P M t t' (opnd T s) (opnd T x) = _
  rw [hs, hx, List.append_nil]
  simp only [evAppend, hu, noIntT, hu2, he]
  unfold okS at hk
  split at hk <;> first | rfl | cases hk
theorem m_bsc {cs : List Cell} {x : Arr} {el by' len n : Nat} {ps : Array (Nat × Operand)} (hu : P.underlying t = some (.slice el)) (he : elemOk P el = some (1, by')) (hr : repArr P el len = some x) (hd : denseA 0 (ps.toList.map fun p => (p.1, opnd T p.2)) = none) (hf : fillA (fun i => some (i * 1, 1)) x (ps.toList.map fun p => (p.1, opnd T p.2)) = some (.ac cs)) (h0 : ¬ len = 0) (h1 : len ≤ 16777216) (hn : M.length = n) :
    evMem P (opnd T) M (.buildSlice t len ps) = some (.c (.sl n 0 len len 1), M ++ [.row true (.ac cs)]) := by
  show evBuildSlice P M t len (ps.toList.map fun p => (p.1, opnd T p.2)) = _
  subst hn
  have e : (if True ∧ (ps.toList.map fun p => (p.1, opnd T p.2)).length = len then denseA 0 (ps.toList.map fun p => (p.1, opnd T p.2)) else none) = none := by split <;> first | exact hd | rfl
  simp only [evBuildSlice, hu, he, Nat.mul_one]
  rw [if_neg h0, if_pos h1, e]
  simp only [Nat.mul_one] at hf
  simp only [hr, hf]
theorem eqArr_of {P : Program} {t e n : Nat} {k : IntKind} {x y : Arr} {r : Bool} (hu : P.underlying t = some (.array n e)) (he : P.underlying e = some (.int k)) (hs : szT P e = some 1) (hx : x.size = n) (hy : y.size = n) (hr : x.alike y = some r) : eqArr P t x y = some r := by
  unfold szT at hs
  obtain ⟨i, hi, h1⟩ := Option.map_eq_some_iff.1 hs
  have hc : P.cellsOf e = 1 := by simp [Program.cellsOf, hi, h1]
  have hg : P.eqGuardType P.depth t = false := by
    show P.eqGuardType (2 * (P.types.size + Made.depth) + 1 + 1) t = false
    unfold Program.eqGuardType
    simp only [hu]
    unfold Program.eqGuardType
    simp only [he]
  unfold eqArr
  simp only [hu, he, hi, hc, hg, hx, hy, true_and, if_true, hr]
theorem v_eqlR8 {x y : Operand} {l m : List (BitVec 8)} {n e : Nat} (hx : opnd T x = .agg (.a8 l)) (hy : opnd T y = .agg (.a8 m)) (hu : P.underlying t = some (.array n e)) (he : P.underlying e = some (.int .u8)) (hs : szT P e = some 1) (hl : l.length = n) (hm : m.length = n) :
    evVal P (opnd T) M (.binOp .eql t x y t') = some (.c (.val (.bool (decide (l = m))))) := by
  show evBin P .eql t x y (opnd T x) (opnd T y) = _
  rw [hx, hy]
  simp only [evBin, eqArr_of hu he hs (x := .a8 l) (y := .a8 m) (r := decide (l = m)) hl hm rfl]
theorem v_neqR8 {x y : Operand} {l m : List (BitVec 8)} {n e : Nat} (hx : opnd T x = .agg (.a8 l)) (hy : opnd T y = .agg (.a8 m)) (hu : P.underlying t = some (.array n e)) (he : P.underlying e = some (.int .u8)) (hs : szT P e = some 1) (hl : l.length = n) (hm : m.length = n) :
    evVal P (opnd T) M (.binOp .neq t x y t') = some (.c (.val (.bool (!decide (l = m))))) := by
  show evBin P .neq t x y (opnd T x) (opnd T y) = _
  rw [hx, hy]
  simp only [evBin, eqArr_of hu he hs (x := .a8 l) (y := .a8 m) (r := decide (l = m)) hl hm rfl]
end
theorem CS_ {p : Prop} (h : p := by first | exact (rfl : _ = some (Arr.ac [_])) | exact (rfl : _ = some (Arr.ac [_, _])) | exact (rfl : _ = some (Arr.ac [_, _, _])) | exact (rfl : _ = some (Arr.ac [_, _, _, _])) | exact (rfl : _ = some (Arr.ac [_, _, _, _, _])) | exact (rfl : _ = some (Arr.ac [_, _, _, _, _, _]))) : p := h
theorem v_bool {P : Program} {T : Nat → AV} {M : Mem} {op : Op} {b c : Bool} (h : evVal P (opnd T) M op = some (.c (.val (.bool b)))) (hb : b = c) : evVal P (opnd T) M op = some (.c (.val (.bool c))) := by rw [← hb]; exact h
end Go.Proofs.Ytcgncafhonlmlaa
namespace Go.Proofs.Ytcgncafhonlmlaa
open Go.RowKit
theorem v_fieldP {P : Program} {T : Nat → AV} {M : Mem} {t f : Nat} {x : Operand} {b o : Nat} {v : AV} (hx : opnd T x = .c (.ptr b o)) (hf : evFieldAddr P t (.c (.ptr b o)) f = some v) : evVal P (opnd T) M (.fieldAddr t x f) = some v := by
  show evFieldAddr P t (opnd T x) f = some v
  rw [hx]; exact hf
def placesT (P : Program) (t : TypeId) : Option (List (Nat × Nat)) :=
  match P.underlying t with
  | some (.struct fields) => fields.toList.mapM fun f => (P.info? f.type).map fun i => (f.offset, i.size)
  | _ => none
theorem evBuild_struct {P : Program} {t : TypeId} {x : Arr} {places : List (Nat × Nat)} (hz : (P.info? t).bind (fun i => i.zero.map fun z => absArr z.cells.toList) = some x) (hp : placesT P t = some places) (parts : List (Nat × AV)) :
    evBuild P t parts = (fillA (places.toArray[·]?) x parts).map .agg := by
  obtain ⟨i, hi, hz2⟩ := Option.bind_eq_some_iff.1 hz
  obtain ⟨z, hz3, hz4⟩ := Option.map_eq_some_iff.1 hz2
  unfold placesT at hp
  split at hp
  · rename_i fields hu
    unfold evBuild
    simp only [hi, hu, hz3, hp, hz4]
  · cases hp
theorem evBuild_zero {P : Program} {t : TypeId} {x : Arr} (hz : (P.info? t).bind (fun i => i.zero.map fun z => absArr z.cells.toList) = some x) (hp : (placesT P t).isSome = true) : evBuild P t [] = some (.agg x) := by
  obtain ⟨places, h⟩ := Option.isSome_iff_exists.1 hp
  rw [evBuild_struct hz h]
  rfl
theorem v_bld0 {P : Program} {T : Nat → AV} {M : Mem} {t : Nat} {v : AV} (h : evBuild P t [] = some v) : evVal P (opnd T) M (.build t #[]) = some v := h
theorem over_part {α : Type} (p q r m : List α) (n : Nat) (hn : p.length = n) (h : q.length = m.length) : over (p ++ (q ++ r)) n m = p ++ (m ++ r) := by
  subst hn
  unfold over
  rw [List.take_left', List.append_assoc]
  · congr 2
    rw [← List.append_assoc, List.drop_left']
    rw [List.length_append, h]
  · rfl
theorem fill_step {pl : Nat → Option (Nat × Nat)} {i o n : Nat} {l a : List (BitVec 64)} {rest : List (Nat × AV)} (h : pl i = some (o, n)) (ha : a.length = n) (hl : o + n ≤ l.length) : fillA pl (.a64 l) ((i, .agg (.a64 a)) :: rest) = fillA pl (.a64 (over l o a)) rest := by
  subst ha
  have e : a.length = Arr.size (.a64 a) ∧ o + Arr.size (.a64 a) ≤ Arr.size (.a64 l) := ⟨rfl, hl⟩
  simp only [fillA, h]
  rw [if_pos e]
  rfl
theorem fill_four {pl : Nat → Option (Nat × Nat)} {n : Nat} {a b c d : List (BitVec 64)} (h0 : pl 0 = some (0, n)) (h1 : pl 1 = some (n, n)) (h2 : pl 2 = some (n + n, n)) (h3 : pl 3 = some (n + n + n, n)) (ha : a.length = n) (hb : b.length = n) (hc : c.length = n) (hd : d.length = n) :
    fillA pl (.a64 (zer64 (n + n + n + n))) [(0, .agg (.a64 a)), (1, .agg (.a64 b)), (2, .agg (.a64 c)), (3, .agg (.a64 d))] = some (.a64 (a ++ b ++ c ++ d)) := by
  have z : zer64 (n + n + n + n) = [] ++ (zer64 n ++ (zer64 n ++ (zer64 n ++ zer64 n))) := by
    unfold zer64
    rw [List.nil_append, List.replicate_append_replicate, List.replicate_append_replicate, List.replicate_append_replicate]
    congr 1
    omega
  have lz : (zer64 n).length = n := by simp
  rw [z, fill_step h0 ha (by simp only [List.length_append, List.length_nil, lz]; omega), over_part [] (zer64 n) _ a 0 rfl (by rw [lz, ha]), List.nil_append]
  rw [fill_step h1 hb (by simp only [List.length_append, lz, ha]; omega), over_part a (zer64 n) _ b n ha (by rw [lz, hb]), ← List.append_assoc a b]
  rw [fill_step h2 hc (by simp only [List.length_append, lz, ha, hb]; omega), over_part (a ++ b) (zer64 n) _ c (n + n) (by rw [List.length_append, ha, hb]) (by rw [lz, hc]), ← List.append_assoc (a ++ b) c]
  rw [fill_step h3 hd (by simp only [List.length_append, lz, ha, hb, hc]; omega)]
  have := over_part (a ++ b ++ c) (zer64 n) [] d (n + n + n) (by rw [List.length_append, List.length_append, ha, hb, hc]) (by rw [lz, hd])
  rw [List.append_nil, List.append_nil] at this
  rw [this]
  rfl
theorem v_bld4 {P : Program} {T : Nat → AV} {M : Mem} {t : Nat} {x0 x1 x2 x3 : Operand} {a b c d : List (BitVec 64)} {v : AV} (h0 : opnd T x0 = .agg (.a64 a)) (h1 : opnd T x1 = .agg (.a64 b)) (h2 : opnd T x2 = .agg (.a64 c)) (h3 : opnd T x3 = .agg (.a64 d))
    (h : evBuild P t [(0, .agg (.a64 a)), (1, .agg (.a64 b)), (2, .agg (.a64 c)), (3, .agg (.a64 d))] = some v) : evVal P (opnd T) M (.build t #[(0, x0), (1, x1), (2, x2), (3, x3)]) = some v := by
  show evBuild P t [(0, opnd T x0), (1, opnd T x1), (2, opnd T x2), (3, opnd T x3)] = some v
  rw [h0, h1, h2, h3]; exact h
end Go.Proofs.Ytcgncafhonlmlaa
namespace Go.Proofs.Ytcgncafhonlmlaa
open Go.RowKit
theorem row_5 : isRowT Try.prog 5 = some false := by kernel_rfl
theorem sz_5 : szT Try.prog 5 = some 1 := by kernel_rfl
theorem rep_5 (n : Nat) : repArr Try.prog 5 n = some (.a8 (zer8 n)) := by kernel_rfl
theorem el_5 : elemOk Try.prog 5 = some (1, 1) := by kernel_rfl
theorem row_22 : isRowT Try.prog 22 = some true := by kernel_rfl
theorem sz_22 : szT Try.prog 22 = some 32 := by kernel_rfl
theorem al_22 (m : Mem) : evAlloc Try.prog m 22 = some (.c (.ptr m.length 0), m ++ [.row true (.a8 (zer8 32))]) := by kernel_rfl
theorem zc_22 : (Try.prog.info? 22).bind (fun i => i.zero.map (·.cells.size)) = some 32 := by kernel_rfl
theorem za_22 : (Try.prog.info? 22).bind (fun i => i.zero.map (fun z => absArr z.cells.toList)) = some (.a8 (zer8 32)) := by kernel_rfl
theorem row_23 : isRowT Try.prog 23 = some false := by kernel_rfl
theorem sz_23 : szT Try.prog 23 = some 1 := by kernel_rfl
theorem rep_23 (n : Nat) : repArr Try.prog 23 n = some (.ac (List.replicate n .nsl)) := by kernel_rfl
theorem el_23 : elemOk Try.prog 23 = some (1, 24) := by kernel_rfl
theorem row_25 : isRowT Try.prog 25 = some true := by kernel_rfl
theorem sz_25 : szT Try.prog 25 = some 64 := by kernel_rfl
theorem al_25 (m : Mem) : evAlloc Try.prog m 25 = some (.c (.ptr m.length 0), m ++ [.row true (.a8 (zer8 64))]) := by kernel_rfl
theorem za_25 : (Try.prog.info? 25).bind (fun i => i.zero.map (fun z => absArr z.cells.toList)) = some (.a8 (zer8 64)) := by kernel_rfl
theorem row_40 : isRowT Try.prog 40 = some false := by kernel_rfl
theorem sz_40 : szT Try.prog 40 = some 1 := by kernel_rfl
theorem el_40 : elemOk Try.prog 40 = some (1, 8) := by kernel_rfl
theorem sz_41 : szT Try.prog 41 = some 4 := by kernel_rfl
theorem al_41 (m : Mem) : evAlloc Try.prog m 41 = some (.c (.ptr m.length 0), m ++ [.row true (.a64 (zer64 4))]) := by kernel_rfl
theorem zc_41 : (Try.prog.info? 41).bind (fun i => i.zero.map (·.cells.size)) = some 4 := by kernel_rfl
theorem row_42 : isRowT Try.prog 42 = some true := by kernel_rfl
theorem sz_42 : szT Try.prog 42 = some 4 := by kernel_rfl
theorem al_42 (m : Mem) : evAlloc Try.prog m 42 = some (.c (.ptr m.length 0), m ++ [.row true (.a64 (zer64 4))]) := by kernel_rfl
theorem zc_42 : (Try.prog.info? 42).bind (fun i => i.zero.map (·.cells.size)) = some 4 := by kernel_rfl
theorem za_42 : (Try.prog.info? 42).bind (fun i => i.zero.map (fun z => absArr z.cells.toList)) = some (.a64 (zer64 4)) := by kernel_rfl
theorem al_51 (m : Mem) : evAlloc Try.prog m 51 = some (.c (.ptr m.length 0), m ++ [.row true (.a64 (zer64 5))]) := by kernel_rfl
theorem row_52 : isRowT Try.prog 52 = some true := by kernel_rfl
theorem sz_52 : szT Try.prog 52 = some 5 := by kernel_rfl
theorem al_52 (m : Mem) : evAlloc Try.prog m 52 = some (.c (.ptr m.length 0), m ++ [.row true (.a64 (zer64 5))]) := by kernel_rfl
theorem zc_52 : (Try.prog.info? 52).bind (fun i => i.zero.map (·.cells.size)) = some 5 := by kernel_rfl
theorem za_52 : (Try.prog.info? 52).bind (fun i => i.zero.map (fun z => absArr z.cells.toList)) = some (.a64 (zer64 5)) := by kernel_rfl
theorem row_54 : isRowT Try.prog 54 = some true := by kernel_rfl
theorem sz_54 : szT Try.prog 54 = some 20 := by kernel_rfl
theorem al_54 (m : Mem) : evAlloc Try.prog m 54 = some (.c (.ptr m.length 0), m ++ [.row true (.a64 (zer64 20))]) := by kernel_rfl
theorem fa_54_0 (b o : Nat) : evFieldAddr Try.prog 54 (.c (.ptr b o)) 0 = some (.c (.ptr b (o + 0))) := by kernel_rfl
theorem fa_54_1 (b o : Nat) : evFieldAddr Try.prog 54 (.c (.ptr b o)) 1 = some (.c (.ptr b (o + 5))) := by kernel_rfl
theorem fa_54_2 (b o : Nat) : evFieldAddr Try.prog 54 (.c (.ptr b o)) 2 = some (.c (.ptr b (o + 10))) := by kernel_rfl
theorem fa_54_3 (b o : Nat) : evFieldAddr Try.prog 54 (.c (.ptr b o)) 3 = some (.c (.ptr b (o + 15))) := by kernel_rfl
theorem bz_54 : evBuild Try.prog 54 [] = some (.agg (.a64 (zer64 20))) := evBuild_zero (by kernel_rfl) (by kernel_rfl)
theorem bs_54 {a b c d : List (BitVec 64)} (ha : a.length = 5) (hb : b.length = 5) (hc : c.length = 5) (hd : d.length = 5) : evBuild Try.prog 54 [(0, .agg (.a64 a)), (1, .agg (.a64 b)), (2, .agg (.a64 c)), (3, .agg (.a64 d))] = some (.agg (.a64 (a ++ b ++ c ++ d))) := by
  rw [evBuild_struct (x := .a64 (zer64 20)) (places := [(0, 5), (5, 5), (10, 5), (15, 5)]) (by kernel_rfl) (by kernel_rfl)]
  rw [show zer64 20 = zer64 (5 + 5 + 5 + 5) from rfl, fill_four (n := 5) rfl rfl rfl rfl ha hb hc hd]
  rfl
theorem row_57 : isRowT Try.prog 57 = some true := by kernel_rfl
theorem sz_57 : szT Try.prog 57 = some 4 := by kernel_rfl
theorem al_57 (m : Mem) : evAlloc Try.prog m 57 = some (.c (.ptr m.length 0), m ++ [.row true (.a64 (zer64 4))]) := by kernel_rfl
theorem zc_57 : (Try.prog.info? 57).bind (fun i => i.zero.map (·.cells.size)) = some 4 := by kernel_rfl
theorem al_81 (m : Mem) : evAlloc Try.prog m 81 = some (.c (.ptr m.length 0), m ++ [.row true (.a64 (zer64 80))]) := by kernel_rfl
theorem row_83 : isRowT Try.prog 83 = some true := by kernel_rfl
theorem sz_83 : szT Try.prog 83 = some 8 := by kernel_rfl
theorem al_83 (m : Mem) : evAlloc Try.prog m 83 = some (.c (.ptr m.length 0), m ++ [.row true (.a64 (zer64 8))]) := by kernel_rfl
theorem zc_83 : (Try.prog.info? 83).bind (fun i => i.zero.map (·.cells.size)) = some 8 := by kernel_rfl
theorem al_106 (m : Mem) : evAlloc Try.prog m 106 = some (.c (.ptr m.length 0), m ++ [.row true (.a64 (zer64 9))]) := by kernel_rfl
theorem ok_9 : (Try.prog.funcs[9]?).any (fun fn => fn.body.isSome && !(fn.name == "runtime.NumGoroutine")) = true := by rw [Try.func9]; rfl
theorem ok_10 : (Try.prog.funcs[10]?).any (fun fn => fn.body.isSome && !(fn.name == "runtime.NumGoroutine")) = true := by rw [Try.func10]; rfl
theorem ok_11 : (Try.prog.funcs[11]?).any (fun fn => fn.body.isSome && !(fn.name == "runtime.NumGoroutine")) = true := by rw [Try.func11]; rfl
theorem ok_15 : (Try.prog.funcs[15]?).any (fun fn => fn.body.isSome && !(fn.name == "runtime.NumGoroutine")) = true := by rw [Try.func15]; rfl
theorem ok_16 : (Try.prog.funcs[16]?).any (fun fn => fn.body.isSome && !(fn.name == "runtime.NumGoroutine")) = true := by rw [Try.func16]; rfl
theorem ok_17 : (Try.prog.funcs[17]?).any (fun fn => fn.body.isSome && !(fn.name == "runtime.NumGoroutine")) = true := by rw [Try.func17]; rfl
theorem ok_18 : (Try.prog.funcs[18]?).any (fun fn => fn.body.isSome && !(fn.name == "runtime.NumGoroutine")) = true := by rw [Try.func18]; rfl
theorem ok_20 : (Try.prog.funcs[20]?).any (fun fn => fn.body.isSome && !(fn.name == "runtime.NumGoroutine")) = true := by rw [Try.func20]; rfl
theorem ok_21 : (Try.prog.funcs[21]?).any (fun fn => fn.body.isSome && !(fn.name == "runtime.NumGoroutine")) = true := by rw [Try.func21]; rfl
theorem ok_22 : (Try.prog.funcs[22]?).any (fun fn => fn.body.isSome && !(fn.name == "runtime.NumGoroutine")) = true := by rw [Try.func22]; rfl
theorem ok_23 : (Try.prog.funcs[23]?).any (fun fn => fn.body.isSome && !(fn.name == "runtime.NumGoroutine")) = true := by rw [Try.func23]; rfl
theorem ok_24 : (Try.prog.funcs[24]?).any (fun fn => fn.body.isSome && !(fn.name == "runtime.NumGoroutine")) = true := by rw [Try.func24]; rfl
theorem ok_25 : (Try.prog.funcs[25]?).any (fun fn => fn.body.isSome && !(fn.name == "runtime.NumGoroutine")) = true := by rw [Try.func25]; rfl
theorem ok_33 : (Try.prog.funcs[33]?).any (fun fn => fn.body.isSome && !(fn.name == "runtime.NumGoroutine")) = true := by rw [Try.func33]; rfl
theorem ok_34 : (Try.prog.funcs[34]?).any (fun fn => fn.body.isSome && !(fn.name == "runtime.NumGoroutine")) = true := by rw [Try.func34]; rfl
theorem ok_35 : (Try.prog.funcs[35]?).any (fun fn => fn.body.isSome && !(fn.name == "runtime.NumGoroutine")) = true := by rw [Try.func35]; rfl
theorem ok_36 : (Try.prog.funcs[36]?).any (fun fn => fn.body.isSome && !(fn.name == "runtime.NumGoroutine")) = true := by rw [Try.func36]; rfl
theorem ok_37 : (Try.prog.funcs[37]?).any (fun fn => fn.body.isSome && !(fn.name == "runtime.NumGoroutine")) = true := by rw [Try.func37]; rfl
theorem ok_38 : (Try.prog.funcs[38]?).any (fun fn => fn.body.isSome && !(fn.name == "runtime.NumGoroutine")) = true := by rw [Try.func38]; rfl
theorem ok_43 : (Try.prog.funcs[43]?).any (fun fn => fn.body.isSome && !(fn.name == "runtime.NumGoroutine")) = true := by rw [Try.func43]; rfl
theorem ok_44 : (Try.prog.funcs[44]?).any (fun fn => fn.body.isSome && !(fn.name == "runtime.NumGoroutine")) = true := by rw [Try.func44]; rfl
theorem ok_45 : (Try.prog.funcs[45]?).any (fun fn => fn.body.isSome && !(fn.name == "runtime.NumGoroutine")) = true := by rw [Try.func45]; rfl
theorem ok_46 : (Try.prog.funcs[46]?).any (fun fn => fn.body.isSome && !(fn.name == "runtime.NumGoroutine")) = true := by rw [Try.func46]; rfl
theorem ok_47 : (Try.prog.funcs[47]?).any (fun fn => fn.body.isSome && !(fn.name == "runtime.NumGoroutine")) = true := by rw [Try.func47]; rfl
theorem ok_48 : (Try.prog.funcs[48]?).any (fun fn => fn.body.isSome && !(fn.name == "runtime.NumGoroutine")) = true := by rw [Try.func48]; rfl
theorem ok_49 : (Try.prog.funcs[49]?).any (fun fn => fn.body.isSome && !(fn.name == "runtime.NumGoroutine")) = true := by rw [Try.func49]; rfl
theorem ok_50 : (Try.prog.funcs[50]?).any (fun fn => fn.body.isSome && !(fn.name == "runtime.NumGoroutine")) = true := by rw [Try.func50]; rfl
theorem ok_51 : (Try.prog.funcs[51]?).any (fun fn => fn.body.isSome && !(fn.name == "runtime.NumGoroutine")) = true := by rw [Try.func51]; rfl
theorem ext_62 : ExtIs Try.prog 62 add64Entry := ⟨⟨_, Try.func62, by kernel_rfl, by kernel_rfl, by kernel_rfl, by kernel_rfl⟩⟩
theorem ok_63 : (Try.prog.funcs[63]?).any (fun fn => fn.body.isSome && !(fn.name == "runtime.NumGoroutine")) = true := by rw [Try.func63]; rfl
theorem ok_64 : (Try.prog.funcs[64]?).any (fun fn => fn.body.isSome && !(fn.name == "runtime.NumGoroutine")) = true := by rw [Try.func64]; rfl
theorem ok_65 : (Try.prog.funcs[65]?).any (fun fn => fn.body.isSome && !(fn.name == "runtime.NumGoroutine")) = true := by rw [Try.func65]; rfl
theorem ok_66 : (Try.prog.funcs[66]?).any (fun fn => fn.body.isSome && !(fn.name == "runtime.NumGoroutine")) = true := by rw [Try.func66]; rfl
theorem ok_67 : (Try.prog.funcs[67]?).any (fun fn => fn.body.isSome && !(fn.name == "runtime.NumGoroutine")) = true := by rw [Try.func67]; rfl
theorem ok_68 : (Try.prog.funcs[68]?).any (fun fn => fn.body.isSome && !(fn.name == "runtime.NumGoroutine")) = true := by rw [Try.func68]; rfl
theorem ok_69 : (Try.prog.funcs[69]?).any (fun fn => fn.body.isSome && !(fn.name == "runtime.NumGoroutine")) = true := by rw [Try.func69]; rfl
theorem ok_70 : (Try.prog.funcs[70]?).any (fun fn => fn.body.isSome && !(fn.name == "runtime.NumGoroutine")) = true := by rw [Try.func70]; rfl
theorem ok_71 : (Try.prog.funcs[71]?).any (fun fn => fn.body.isSome && !(fn.name == "runtime.NumGoroutine")) = true := by rw [Try.func71]; rfl
theorem ok_72 : (Try.prog.funcs[72]?).any (fun fn => fn.body.isSome && !(fn.name == "runtime.NumGoroutine")) = true := by rw [Try.func72]; rfl
theorem ok_73 : (Try.prog.funcs[73]?).any (fun fn => fn.body.isSome && !(fn.name == "runtime.NumGoroutine")) = true := by rw [Try.func73]; rfl
theorem ext_74 : ExtIs Try.prog 74 sub64Entry := ⟨⟨_, Try.func74, by kernel_rfl, by kernel_rfl, by kernel_rfl, by kernel_rfl⟩⟩
theorem ok_75 : (Try.prog.funcs[75]?).any (fun fn => fn.body.isSome && !(fn.name == "runtime.NumGoroutine")) = true := by rw [Try.func75]; rfl
theorem ok_85 : (Try.prog.funcs[85]?).any (fun fn => fn.body.isSome && !(fn.name == "runtime.NumGoroutine")) = true := by rw [Try.func85]; rfl
theorem ok_86 : (Try.prog.funcs[86]?).any (fun fn => fn.body.isSome && !(fn.name == "runtime.NumGoroutine")) = true := by rw [Try.func86]; rfl
theorem ok_87 : (Try.prog.funcs[87]?).any (fun fn => fn.body.isSome && !(fn.name == "runtime.NumGoroutine")) = true := by rw [Try.func87]; rfl
theorem ok_88 : (Try.prog.funcs[88]?).any (fun fn => fn.body.isSome && !(fn.name == "runtime.NumGoroutine")) = true := by rw [Try.func88]; rfl
theorem ok_89 : (Try.prog.funcs[89]?).any (fun fn => fn.body.isSome && !(fn.name == "runtime.NumGoroutine")) = true := by rw [Try.func89]; rfl
theorem ok_90 : (Try.prog.funcs[90]?).any (fun fn => fn.body.isSome && !(fn.name == "runtime.NumGoroutine")) = true := by rw [Try.func90]; rfl
theorem ok_91 : (Try.prog.funcs[91]?).any (fun fn => fn.body.isSome && !(fn.name == "runtime.NumGoroutine")) = true := by rw [Try.func91]; rfl
theorem ok_92 : (Try.prog.funcs[92]?).any (fun fn => fn.body.isSome && !(fn.name == "runtime.NumGoroutine")) = true := by rw [Try.func92]; rfl
theorem ok_96 : (Try.prog.funcs[96]?).any (fun fn => fn.body.isSome && !(fn.name == "runtime.NumGoroutine")) = true := by rw [Try.func96]; rfl
theorem ok_97 : (Try.prog.funcs[97]?).any (fun fn => fn.body.isSome && !(fn.name == "runtime.NumGoroutine")) = true := by rw [Try.func97]; rfl
theorem ok_98 : (Try.prog.funcs[98]?).any (fun fn => fn.body.isSome && !(fn.name == "runtime.NumGoroutine")) = true := by rw [Try.func98]; rfl
theorem ok_102 : (Try.prog.funcs[102]?).any (fun fn => fn.body.isSome && !(fn.name == "runtime.NumGoroutine")) = true := by rw [Try.func102]; rfl
theorem mixed : Try.prog.follows .mixedOrders = true := by kernel_rfl
end Go.Proofs.Ytcgncafhonlmlaa
namespace Go.Proofs.Ytcgncafhonlmlaa
open Go.RowKit
def dhNum (key : List (BitVec 8)) : List (BitVec 8) := put (put key 0 ((nth key 0) &&& 248#8)) 31 (((nth (put key 0 ((nth key 0) &&& 248#8)) 31) &&& 127#8) ||| 64#8)
set_option maxRecDepth 100000 in
set_option maxHeartbeats 2000000 in
theorem dhNum_ev (key : List (BitVec 8)) (hkey : key.length = 32) : Ev Try.prog (.call 50 [.agg (.a8 (key))] []) (.val (.agg (.a8 (dhNum key))) []) := by
  have hP : Hid (dhNum key = put (put key 0 ((nth key 0) &&& 248#8)) 31 (((nth (put key 0 ((nth key 0) &&& 248#8)) 31) &&& 127#8) ||| 64#8)) := ⟨rfl⟩
  refine c_call Try.func50 rfl Try.ntmps50 rfl LEN_ ?_
  refine S_ ?_
  refine c_region ?_
  refine s_memN (m_box BX_ LEN_) APP_ rfl ?_
  refine s_memN (m_alloc al_22 LEN_) APP_ rfl ?_
  refine s_nil ?_
  refine S_ ?_
  refine c_region ?_
  refine s_val (v_idxA1 (j := 0) rfl rfl Try.underlying22 sz_5 (by omega)) rfl ?_
  refine s_val (v_load8 rfl rfl row_5 LT_) rfl ?_
  refine s_val (v_and8 (b := 248#8) rfl rfl) rfl ?_
  refine s_val (v_idxA1 (j := 0) rfl rfl Try.underlying22 sz_5 (by omega)) rfl ?_
  refine s_store8 rfl rfl rfl sz_5 LT_ SET_ ?_
  refine s_nil ?_
  refine S_ ?_
  refine c_region ?_
  refine s_val (v_idxA1 (j := 31) rfl rfl Try.underlying22 sz_5 (by omega)) rfl ?_
  refine s_val (v_load8 rfl rfl row_5 LT_) rfl ?_
  refine s_val (v_and8 (b := 127#8) rfl rfl) rfl ?_
  refine s_val (v_or8 (b := 64#8) rfl rfl) rfl ?_
  refine s_val (v_idxA1 (j := 31) rfl rfl Try.underlying22 sz_5 (by omega)) rfl ?_
  refine s_store8 rfl rfl rfl sz_5 LT_ SET_ ?_
  refine s_nil ?_
  refine S_ ?_
  refine c_region ?_
  refine s_val (v_loadR rfl rfl row_22 sz_22 EQ_ (by decide)) rfl ?_
  refine s_storeR rfl rfl rfl rfl sz_22 EQ_ EQ_ SET_ ?_
  refine s_nil ?_
  refine S_ ?_
  rw [hP.out]
  exact k_1 (r_row rfl rfl row_22 sz_22 EQ_ (by decide)) (by first | kernel_rfl | rfl)
@[simp] theorem dhNum_len (key : List (BitVec 8)) (hkey : key.length = 32) : (dhNum key).length = 32 := by
  unfold dhNum
  first | (simp [*]; done) | (simp [*]; omega)
attribute [irreducible] dhNum
end Go.Proofs.Ytcgncafhonlmlaa
namespace Go.Proofs.Ytcgncafhonlmlaa
open Go.RowKit
def shaHigh_L3_S (b : List (BitVec 8)) (o : Nat) (X1 : BitVec 64) (j3 : Nat) : BitVec 64 := (X1 <<< 8) ||| ((nth b (o + j3)).setWidth 64)
def shaHigh_L3 (b : List (BitVec 8)) (o : Nat) : Nat → BitVec 64
  | 0 => 0#64
  | j3 + 1 => shaHigh_L3_S b o (shaHigh_L3 b o j3) j3
def shaHigh (b : List (BitVec 8)) (o : Nat) (n : Nat) : BitVec 64 := (shaHigh_L3 b o n)
set_option maxRecDepth 100000 in
set_option maxHeartbeats 2000000 in
theorem shaHigh_ev (b : List (BitVec 8)) (o : Nat) (n : Nat) (cap : Nat) (hb : o + n ≤ b.length) (hn : n ≤ 8796093022208) : Ev Try.prog (.call 91 [.c (.sl 0 o n cap 1)] [.row false (.a8 (b))]) (.val (.c (.val (U64 (shaHigh b o n)))) [.row false (.a8 (b))]) := by
  have hP : Hid (shaHigh b o n = (shaHigh_L3 b o n)) := ⟨rfl⟩
  refine c_call Try.func91 rfl Try.ntmps91 rfl LEN_ ?_
  refine S_ ?_
  refine c_region ?_
  refine s_val (v_assignC rfl) rfl ?_
  refine s_nil ?_
  refine S_ ?_
  refine c_region ?_
  refine s_val (v_assignC rfl) rfl ?_
  refine s_nil ?_
  refine S_ ?_
  refine c_region ?_
  refine s_val (v_moveC rfl) rfl ?_
  refine s_val (v_lenS rfl Try.underlying23) rfl ?_
  refine s_val (v_moveC rfl) rfl ?_
  refine s_nil ?_
  refine S_ ?_
  refine c_loopC [3, 6, 7, 8] (fun (zz : Nat × BitVec 64) => ⟨19, keepT [3, 6, 7, 8] [.c (.val (U64 (zz.2))), .c (.sl 0 o n cap 1), .c (.val (.int .i64 (((n : Nat) : Int)))), .c (.val (.int .i64 (((zz.1 : Nat) : Int))))], [.row false (.a8 (b))]⟩) (fun j3 => (j3, shaHigh_L3 b o j3)) (n) (by kernel_rfl) ?_ ?_
  · intro j3 hj3
    try dsimp only
    rw [shaHigh_L3.eq_2, shaHigh_L3_S]
    generalize shaHigh_L3 b o j3 = X1 at *
    refine S_ ?_
    refine c_region ?_
    refine s_val (v_lssN rfl rfl) rfl ?_
    refine s_nil ?_
    refine S_ ?_
    refine c_region ?_
    refine s_val (v_idxSo rfl rfl Try.underlying23 sz_5 (by omega)) rfl ?_
    refine s_val (v_load8 rfl rfl row_5 LT_) rfl ?_
    refine s_val (v_assignC rfl) rfl ?_
    refine s_nil ?_
    refine S_ ?_
    refine c_region ?_
    refine s_val (v_moveC rfl) rfl ?_
    refine s_val (v_shl64n (j := 8) rfl rfl) rfl ?_
    refine s_val (v_moveC rfl) rfl ?_
    refine s_val (v_conv rfl Try.underlying5 Try.underlying40 (w8_64 _)) rfl ?_
    refine s_val (v_or64 rfl rfl) rfl ?_
    refine s_val (v_assignC rfl) rfl ?_
    refine s_nil ?_
    refine S_ ?_
    refine c_region ?_
    refine s_val (v_addN (b := 1) rfl rfl (by omega)) rfl ?_
    refine s_val (v_moveC rfl) rfl ?_
    refine s_nil ?_
    exact ⟨(j3 + 1, _), by kernel_rfl, rfl⟩
  · try dsimp only
    generalize shaHigh_L3 b o n = Y2 at *
    refine S_ ?_
    refine c_region ?_
    refine s_val (v_lssN rfl rfl) rfl ?_
    refine s_nil ?_
    refine S_ ?_
    refine c_region ?_
    refine s_val (v_moveC rfl) rfl ?_
    refine s_val (v_assignC rfl) rfl ?_
    refine s_nil ?_
    refine S_ ?_
    rw [hP.out]
    exact k_1 (by first | exact r_tmpC rfl | exact r_tmpA rfl) (by first | kernel_rfl | rfl)
attribute [irreducible] shaHigh
def shaNumber_L2_S (x : BitVec 64) (X1 : List (BitVec 8)) (j2 : Nat) : List (BitVec 8) := X1 ++ [(x >>> (8 * (7 - j2))).setWidth 8]
def shaNumber_L2 (b : List (BitVec 8)) (x : BitVec 64) : Nat → List (BitVec 8)
  | 0 => b
  | j2 + 1 => shaNumber_L2_S x (shaNumber_L2 b x j2) j2
@[simp] theorem shaNumber_L2_len (b : List (BitVec 8)) (x : BitVec 64) (j2 : Nat) : (shaNumber_L2 b x j2).length = b.length + j2 := by
  induction j2 with
  | zero => first | (simp [shaNumber_L2, *]; done) | (simp [shaNumber_L2, *]; omega)
  | succ j2 ih => rw [shaNumber_L2.eq_2, shaNumber_L2_S]; first | (simp [ih]; done) | (simp [ih]; omega) | (simp [*]; done) | (simp [*]; omega) | (split <;> first | (simp [ih]; done) | (simp [ih]; omega) | (simp [*]; done))
def shaNumber (b : List (BitVec 8)) (x : BitVec 64) : List (BitVec 8) := (shaNumber_L2 b x 8)
set_option maxRecDepth 100000 in
set_option maxHeartbeats 2000000 in
theorem shaNumber_ev (b : List (BitVec 8)) (n : Nat) (cap : Nat) (x : BitVec 64) (hb : b.length = n) (hn : n ≤ 8796093022208) : Ev Try.prog (.call 102 [.c (.sl 0 0 n cap 1), .c (.val (U64 x))] [.row true (.a8 (b))]) (.val (.c (.sl 1 0 (n + 8) (n + 8) 1)) [.dead, .row true (.a8 (shaNumber b x))]) := by
  have hP : Hid (shaNumber b x = (shaNumber_L2 b x 8)) := ⟨rfl⟩
  try simp only [hb] at hP
  refine c_call Try.func102 rfl Try.ntmps102 rfl LEN_ ?_
  refine S_ ?_
  refine c_region ?_
  refine s_val (v_assignC rfl) rfl ?_
  refine s_nil ?_
  refine S_ ?_
  refine c_region ?_
  refine s_val (v_assignC rfl) rfl ?_
  refine s_nil ?_
  refine S_ ?_
  refine c_move 0 rfl rfl LEN_ rfl ?_
  refine S_ ?_
  refine c_loopC [0, 1, 5] (fun (zz : Nat × List (BitVec 8)) => ⟨19, keepT [0, 1, 5] [.c (.sl 1 0 (n + zz.1) (n + zz.1) 1), .c (.val (U64 (x))), .c (.val (.int .i64 (((7 : Nat) : Int) - ((zz.1 : Nat) : Int))))], [.dead, .row true (.a8 (zz.2))]⟩) (fun j2 => (j2, shaNumber_L2 b x j2)) (8) (by kernel_rfl) ?_ ?_
  · intro j2 hj2
    try dsimp only
    have hX1 : (shaNumber_L2 b x j2).length = n + j2 := by rw [shaNumber_L2_len b x _]; try omega
    rw [shaNumber_L2.eq_2, shaNumber_L2_S]
    try simp only [hb]
    generalize shaNumber_L2 b x j2 = X1 at *
    rw [show ((7 : Nat) : Int) - ((j2 : Nat) : Int) = ((7 - j2 : Nat) : Int) from by omega]
    refine S_ ?_
    refine c_region ?_
    refine s_val (v_moveC rfl) rfl ?_
    refine s_val (v_geqN (b := 0) rfl rfl) rfl ?_
    refine s_nil ?_
    refine S_ ?_
    refine c_region ?_
    refine s_val (v_moveC rfl) rfl ?_
    refine s_val (v_moveC rfl) rfl ?_
    refine s_val (v_moveC rfl) rfl ?_
    refine s_val (v_mulN (a := 8) rfl rfl (by omega)) rfl ?_
    refine s_val (v_shr64n rfl rfl) rfl ?_
    refine s_val (v_conv rfl Try.underlying40 Try.underlying5 (w64_8 _)) rfl ?_
    refine s_memN (m_bs8 (l := [_]) Try.underlying23 el_5 rfl rfl (by decide) (by decide) LEN_) APP_ rfl ?_
    refine s_app8 rfl rfl rfl rfl Try.underlying23 Try.underlying23 el_5 EQL_ EQL_ (by omega) LEN_ KILL_ rfl ?_
    refine s_val (v_assignC rfl) rfl ?_
    refine s_nil ?_
    refine S_ ?_
    refine c_region ?_
    refine s_val (v_moveC rfl) rfl ?_
    first
      | refine s_val (v_subN (b := 1) rfl rfl (by omega) (by omega)) rfl ?_
      | refine s_val (v_subI rfl rfl (by omega)) rfl ?_
    refine s_val (v_assignC rfl) rfl ?_
    refine s_nil ?_
    refine ⟨(j2 + 1, _), (by
      dsimp only
      rw [show ((7 : Nat) : Int) - ((j2 + 1 : Nat) : Int) = ((7 - j2 : Nat) : Int) - 1 from by omega]
      kernel_rfl), rfl⟩
  · try dsimp only
    have hY2 : (shaNumber_L2 b x 8).length = n + 8 := by rw [shaNumber_L2_len b x _]; try omega
    generalize shaNumber_L2 b x 8 = Y2 at *
    refine S_ ?_
    refine c_region ?_
    refine s_val (v_moveC rfl) rfl ?_
    refine s_val (v_geqI rfl rfl) rfl ?_
    refine s_nil ?_
    refine S_ ?_
    refine c_region ?_
    refine s_val (v_moveC rfl) rfl ?_
    refine s_val (v_assignC rfl) rfl ?_
    refine s_nil ?_
    refine S_ ?_
    rw [hP.out]
    exact k_1 (by first | exact r_tmpC rfl | exact r_tmpA rfl) (by first | kernel_rfl | rfl)
@[simp] theorem shaNumber_len (b : List (BitVec 8)) (x : BitVec 64) : (shaNumber b x).length = b.length + 8 := by
  unfold shaNumber
  first | (simp [shaNumber_L2_len, *]; done) | (simp [shaNumber_L2_len, *]; omega)
attribute [irreducible] shaNumber
def shaK512  : List (BitVec 64) := [4794697086780616226#64, 8158064640168781261#64, 13096744586834688815#64, 16840607885511220156#64, 4131703408338449720#64, 6480981068601479193#64, 10538285296894168987#64, 12329834152419229976#64, 15566598209576043074#64, 1334009975649890238#64, 2608012711638119052#64, 6128411473006802146#64, 8268148722764581231#64, 9286055187155687089#64, 11230858885718282805#64, 13951009754708518548#64, 16472876342353939154#64, 17275323862435702243#64, 1135362057144423861#64, 2597628984639134821#64, 3308224258029322869#64, 5365058923640841347#64, 6679025012923562964#64, 8573033837759648693#64, 10970295158949994411#64, 12119686244451234320#64, 12683024718118986047#64, 13788192230050041572#64, 14330467153632333762#64, 15395433587784984357#64, 489312712824947311#64, 1452737877330783856#64, 2861767655752347644#64, 3322285676063803686#64, 5560940570517711597#64, 5996557281743188959#64, 7280758554555802590#64, 8532644243296465576#64, 9350256976987008742#64, 10552545826968843579#64, 11727347734174303076#64, 12113106623233404929#64, 14000437183269869457#64, 14369950271660146224#64, 15101387698204529176#64, 15463397548674623760#64, 17586052441742319658#64, 1182934255886127544#64, 1847814050463011016#64, 2177327727835720531#64, 2830643537854262169#64, 3796741975233480872#64, 4115178125766777443#64, 5681478168544905931#64, 6601373596472566643#64, 7507060721942968483#64, 8399075790359081724#64, 8693463985226723168#64, 9568029438360202098#64, 10144078919501101548#64, 10430055236837252648#64, 11840083180663258601#64, 13761210420658862357#64, 14299343276471374635#64, 14566680578165727644#64, 15097957966210449927#64, 16922976911328602910#64, 17689382322260857208#64, 500013540394364858#64, 748580250866718886#64, 1242879168328830382#64, 1977374033974150939#64, 2944078676154940804#64, 3659926193048069267#64, 4368137639120453308#64, 4836135668995329356#64, 5532061633213252278#64, 6448918945643986474#64, 6902733635092675308#64, 7801388544844847127#64]
set_option maxRecDepth 100000 in
set_option maxHeartbeats 2000000 in
theorem shaK512_ev   : Ev Try.prog (.call 89 [] []) (.val (.c (.sl 0 0 80 80 1)) [.row true (.a64 (shaK512))]) := by
  have hP : Hid (shaK512 = [4794697086780616226#64, 8158064640168781261#64, 13096744586834688815#64, 16840607885511220156#64, 4131703408338449720#64, 6480981068601479193#64, 10538285296894168987#64, 12329834152419229976#64, 15566598209576043074#64, 1334009975649890238#64, 2608012711638119052#64, 6128411473006802146#64, 8268148722764581231#64, 9286055187155687089#64, 11230858885718282805#64, 13951009754708518548#64, 16472876342353939154#64, 17275323862435702243#64, 1135362057144423861#64, 2597628984639134821#64, 3308224258029322869#64, 5365058923640841347#64, 6679025012923562964#64, 8573033837759648693#64, 10970295158949994411#64, 12119686244451234320#64, 12683024718118986047#64, 13788192230050041572#64, 14330467153632333762#64, 15395433587784984357#64, 489312712824947311#64, 1452737877330783856#64, 2861767655752347644#64, 3322285676063803686#64, 5560940570517711597#64, 5996557281743188959#64, 7280758554555802590#64, 8532644243296465576#64, 9350256976987008742#64, 10552545826968843579#64, 11727347734174303076#64, 12113106623233404929#64, 14000437183269869457#64, 14369950271660146224#64, 15101387698204529176#64, 15463397548674623760#64, 17586052441742319658#64, 1182934255886127544#64, 1847814050463011016#64, 2177327727835720531#64, 2830643537854262169#64, 3796741975233480872#64, 4115178125766777443#64, 5681478168544905931#64, 6601373596472566643#64, 7507060721942968483#64, 8399075790359081724#64, 8693463985226723168#64, 9568029438360202098#64, 10144078919501101548#64, 10430055236837252648#64, 11840083180663258601#64, 13761210420658862357#64, 14299343276471374635#64, 14566680578165727644#64, 15097957966210449927#64, 16922976911328602910#64, 17689382322260857208#64, 500013540394364858#64, 748580250866718886#64, 1242879168328830382#64, 1977374033974150939#64, 2944078676154940804#64, 3659926193048069267#64, 4368137639120453308#64, 4836135668995329356#64, 5532061633213252278#64, 6448918945643986474#64, 6902733635092675308#64, 7801388544844847127#64]) := ⟨rfl⟩
  refine c_call Try.func89 rfl Try.ntmps89 rfl LEN_ ?_
  refine S_ ?_
  refine c_region ?_
  refine s_val (v_assignC rfl) rfl ?_
  refine s_nil ?_
  refine S_ ?_
  refine c_region ?_
  refine s_memN (m_bs64 (l := [4794697086780616226#64, 8158064640168781261#64, 13096744586834688815#64, 16840607885511220156#64, 4131703408338449720#64, 6480981068601479193#64, 10538285296894168987#64, 12329834152419229976#64, 15566598209576043074#64, 1334009975649890238#64, 2608012711638119052#64, 6128411473006802146#64, 8268148722764581231#64, 9286055187155687089#64, 11230858885718282805#64, 13951009754708518548#64, 16472876342353939154#64, 17275323862435702243#64, 1135362057144423861#64, 2597628984639134821#64, 3308224258029322869#64, 5365058923640841347#64, 6679025012923562964#64, 8573033837759648693#64, 10970295158949994411#64, 12119686244451234320#64, 12683024718118986047#64, 13788192230050041572#64, 14330467153632333762#64, 15395433587784984357#64, 489312712824947311#64, 1452737877330783856#64, 2861767655752347644#64, 3322285676063803686#64, 5560940570517711597#64, 5996557281743188959#64, 7280758554555802590#64, 8532644243296465576#64, 9350256976987008742#64, 10552545826968843579#64, 11727347734174303076#64, 12113106623233404929#64, 14000437183269869457#64, 14369950271660146224#64, 15101387698204529176#64, 15463397548674623760#64, 17586052441742319658#64, 1182934255886127544#64, 1847814050463011016#64, 2177327727835720531#64, 2830643537854262169#64, 3796741975233480872#64, 4115178125766777443#64, 5681478168544905931#64, 6601373596472566643#64, 7507060721942968483#64, 8399075790359081724#64, 8693463985226723168#64, 9568029438360202098#64, 10144078919501101548#64, 10430055236837252648#64, 11840083180663258601#64, 13761210420658862357#64, 14299343276471374635#64, 14566680578165727644#64, 15097957966210449927#64, 16922976911328602910#64, 17689382322260857208#64, 500013540394364858#64, 748580250866718886#64, 1242879168328830382#64, 1977374033974150939#64, 2944078676154940804#64, 3659926193048069267#64, 4368137639120453308#64, 4836135668995329356#64, 5532061633213252278#64, 6448918945643986474#64, 6902733635092675308#64, 7801388544844847127#64]) Try.underlying109 el_40 rfl rfl (by decide) (by decide) LEN_) APP_ rfl ?_
  refine s_val (v_assignC rfl) rfl ?_
  refine s_nil ?_
  refine S_ ?_
  rw [hP.out]
  exact k_1 (by first | exact r_tmpC rfl | exact r_tmpA rfl) (by first | kernel_rfl | rfl)
@[simp] theorem shaK512_len  : (shaK512).length = 80 := by
  unfold shaK512
  first | (simp [*]; done) | (simp [*]; omega)
attribute [irreducible] shaK512
end Go.Proofs.Ytcgncafhonlmlaa
namespace Go.Proofs.Ytcgncafhonlmlaa
open Go.RowKit
def shaPad5_L3_S (X1 : List (BitVec 8)) : List (BitVec 8) := X1 ++ [0#8]
def shaPad5_L3 (tx : List (BitVec 8)) : Nat → List (BitVec 8)
  | 0 => tx ++ [128#8]
  | j3 + 1 => shaPad5_L3_S (shaPad5_L3 tx j3)
@[simp] theorem shaPad5_L3_len (tx : List (BitVec 8)) (j3 : Nat) : (shaPad5_L3 tx j3).length = (tx.length + 1) + j3 := by
  induction j3 with
  | zero => first | (simp [shaPad5_L3, *]; done) | (simp [shaPad5_L3, *]; omega)
  | succ j3 ih => rw [shaPad5_L3.eq_2, shaPad5_L3_S]; first | (simp [ih]; done) | (simp [ih]; omega) | (simp [*]; done) | (simp [*]; omega) | (split <;> first | (simp [ih]; done) | (simp [ih]; omega) | (simp [*]; done))
def shaPad5 (tx : List (BitVec 8)) : List (BitVec 8) := shaNumber (shaNumber (shaPad5_L3 tx ((240 - (tx.length + 1) % 128) % 128)) ((BitVec.ofNat 64 tx.length) >>> 61)) ((BitVec.ofNat 64 tx.length) <<< 3)
set_option maxRecDepth 100000 in
set_option maxHeartbeats 2000000 in
theorem shaPad5_ev (b : List (BitVec 8)) (o : Nat) (n : Nat) (cap : Nat) (hb : o + n ≤ b.length) (hn : n ≤ 4398046511104) : Ev Try.prog (.call 90 [.c (.sl 0 o n cap 1), .c (.val (.int .i64 ((128 : Nat) : Int))), .c (.val (.int .i64 ((16 : Nat) : Int)))] [.row false (.a8 (b))]) (.val (.c (.sl 1 0 ((((n + 1) + (240 - (n + 1) % 128) % 128) + 8) + 8) ((((n + 1) + (240 - (n + 1) % 128) % 128) + 8) + 8) 1)) [.row false (.a8 (b)), .row true (.a8 (shaPad5 (cut b o n)))]) := by
  have hP : Hid (shaPad5 (cut b o n) = shaNumber (shaNumber (shaPad5_L3 (cut b o n) ((240 - ((cut b o n).length + 1) % 128) % 128)) ((BitVec.ofNat 64 (cut b o n).length) >>> 61)) ((BitVec.ofNat 64 (cut b o n).length) <<< 3)) := ⟨rfl⟩
  have htx : (cut b o n).length = n := by rw [cut_length]; omega
  try simp only [htx] at hP
  refine c_call Try.func90 rfl Try.ntmps90 rfl LEN_ ?_
  refine S_ ?_
  refine c_region ?_
  refine s_val (v_assignC rfl) rfl ?_
  refine s_nil ?_
  refine S_ ?_
  refine c_region ?_
  refine s_memN (m_bs0 Try.underlying23 el_5) APP_ rfl ?_
  refine s_val (v_moveC rfl) rfl ?_
  refine s_memN (m_appE8c rfl rfl rfl Try.underlying23 Try.underlying23 el_5 LE_ (by omega) LEN_) APP_ rfl ?_
  refine s_val (v_assignC rfl) rfl ?_
  refine s_nil ?_
  refine S_ ?_
  refine c_region ?_
  refine s_val (v_moveC rfl) rfl ?_
  refine s_memN (m_bs8 (l := [128#8]) Try.underlying23 el_5 rfl rfl (by decide) (by decide) LEN_) APP_ rfl ?_
  refine s_app8 rfl rfl rfl rfl Try.underlying23 Try.underlying23 el_5 EQL_ EQL_ (by omega) LEN_ KILL_ rfl ?_
  refine s_val (v_assignC rfl) rfl ?_
  refine s_nil ?_
  refine S_ ?_
  refine c_loopC [0, 1, 2, 7] (fun (zz : Nat × List (BitVec 8)) => ⟨41, keepT [0, 1, 2, 7] [.c (.sl 0 o n cap 1), .c (.val (.int .i64 (((128 : Nat) : Int)))), .c (.val (.int .i64 (((16 : Nat) : Int)))), .c (.sl 1 0 ((n + 1) + zz.1) ((n + 1) + zz.1) 1)], [.row false (.a8 (b)), .row true (.a8 (zz.2))]⟩) (fun j3 => (j3, shaPad5_L3 (cut b o n) j3)) ((240 - (n + 1) % 128) % 128) (by kernel_rfl) ?_ ?_
  · intro j3 hj3
    try dsimp only
    have hX1 : (shaPad5_L3 (cut b o n) j3).length = (n + 1) + j3 := by rw [shaPad5_L3_len (cut b o n) _]; try omega
    rw [shaPad5_L3.eq_2, shaPad5_L3_S]
    try simp only [htx]
    generalize shaPad5_L3 (cut b o n) j3 = X1 at *
    refine S_ ?_
    refine c_region ?_
    refine s_val (v_moveC rfl) rfl ?_
    refine s_val (v_lenS rfl Try.underlying23) rfl ?_
    refine s_val (v_moveC rfl) rfl ?_
    refine s_val (v_remN (b := 128) rfl rfl (by omega) (by omega)) rfl ?_
    refine s_val (v_moveC rfl) rfl ?_
    refine s_val (v_moveC rfl) rfl ?_
    refine s_val (v_subN (a := 128) (b := 16) rfl rfl (by omega) (by omega)) rfl ?_
    refine s_val (v_neqN (b := 112) rfl rfl) rfl ?_
    refine s_nil ?_
    refine S_ ?_
    refine c_region ?_
    refine s_val (v_moveC rfl) rfl ?_
    refine s_memN (m_bs8 (l := [0#8]) Try.underlying23 el_5 rfl rfl (by decide) (by decide) LEN_) APP_ rfl ?_
    refine s_app8 rfl rfl rfl rfl Try.underlying23 Try.underlying23 el_5 EQL_ EQL_ (by omega) LEN_ KILL_ rfl ?_
    refine s_val (v_assignC rfl) rfl ?_
    refine s_nil ?_
    exact ⟨(j3 + 1, _), by kernel_rfl, rfl⟩
  · try dsimp only
    have hY2 : (shaPad5_L3 (cut b o n) ((240 - (n + 1) % 128) % 128)).length = (n + 1) + (240 - (n + 1) % 128) % 128 := by rw [shaPad5_L3_len (cut b o n) _]; try omega
    generalize shaPad5_L3 (cut b o n) ((240 - (n + 1) % 128) % 128) = Y2 at *
    refine S_ ?_
    refine c_region ?_
    refine s_val (v_moveC rfl) rfl ?_
    refine s_val (v_lenS rfl Try.underlying23) rfl ?_
    refine s_val (v_moveC rfl) rfl ?_
    refine s_val (v_remN (b := 128) rfl rfl (by omega) (by omega)) rfl ?_
    refine s_val (v_moveC rfl) rfl ?_
    refine s_val (v_moveC rfl) rfl ?_
    refine s_val (v_subN (a := 128) (b := 16) rfl rfl (by omega) (by omega)) rfl ?_
    refine s_val (v_neqN (b := 112) rfl rfl) rfl ?_
    refine s_nil ?_
    refine S_ ?_
    refine c_region ?_
    refine s_val (v_moveC rfl) rfl ?_
    refine s_val (v_lenS rfl Try.underlying23) rfl ?_
    refine s_val (v_conv rfl Try.underlying3 Try.underlying40 (wi_64 _)) rfl ?_
    refine s_val (v_assignC rfl) rfl ?_
    refine s_nil ?_
    refine S_ ?_
    refine c_region ?_
    refine s_val (v_moveC rfl) rfl ?_
    refine s_nil ?_
    refine S_ ?_
    refine c_region ?_
    refine s_val (v_eqlN (a := 16) (b := 16) rfl rfl) rfl ?_
    refine s_val (v_assignC rfl) rfl ?_
    refine s_nil ?_
    have hQ3 : (shaNumber Y2 ((BitVec.ofNat 64 n) >>> 61)).length = ((n + 1) + (240 - (n + 1) % 128) % 128) + 8 := LQ_
    refine S_ ?_
    refine c_region ?_
    refine s_val (v_moveC rfl) rfl ?_
    refine s_val (v_moveC rfl) rfl ?_
    refine s_val (v_shr64n (j := 61) rfl rfl) rfl ?_
    refine s_ev (e_callK (bs := [1]) (shaNumber_ev Y2 ((n + 1) + (240 - (n + 1) % 128) % 128) ((n + 1) + (240 - (n + 1) % 128) % 128) ((BitVec.ofNat 64 n) >>> 61) HYP_ HYP_) ok_102 (by kernel_rfl) rfl rfl VAL_ APP_) rfl ?_
    refine s_val (v_assignC rfl) rfl ?_
    refine s_nil ?_
    have hQ4 : (shaNumber (shaNumber Y2 ((BitVec.ofNat 64 n) >>> 61)) ((BitVec.ofNat 64 n) <<< 3)).length = (((n + 1) + (240 - (n + 1) % 128) % 128) + 8) + 8 := LQ_
    refine S_ ?_
    refine c_region ?_
    refine s_val (v_moveC rfl) rfl ?_
    refine s_val (v_moveC rfl) rfl ?_
    refine s_val (v_shl64n (j := 3) rfl rfl) rfl ?_
    refine s_ev (e_callK (bs := [2]) (shaNumber_ev (shaNumber Y2 ((BitVec.ofNat 64 n) >>> 61)) (((n + 1) + (240 - (n + 1) % 128) % 128) + 8) (((n + 1) + (240 - (n + 1) % 128) % 128) + 8) ((BitVec.ofNat 64 n) <<< 3) HYP_ HYP_) ok_102 (by kernel_rfl) rfl rfl VAL_ APP_) rfl ?_
    refine s_val (v_assignC rfl) rfl ?_
    refine s_nil ?_
    refine S_ ?_
    refine c_region ?_
    refine s_val (v_moveC rfl) rfl ?_
    refine s_val (v_assignC rfl) rfl ?_
    refine s_nil ?_
    refine S_ ?_
    rw [hP.out]
    exact k_1 (by first | exact r_tmpC rfl | exact r_tmpA rfl) (by first | kernel_rfl | rfl)
@[simp] theorem shaPad5_len (tx : List (BitVec 8)) : (shaPad5 tx).length = (((tx.length + 1) + (240 - (tx.length + 1) % 128) % 128) + 8) + 8 := by
  unfold shaPad5
  first | (simp [shaPad5_L3_len, *]; done) | (simp [shaPad5_L3_len, *]; omega)
attribute [irreducible] shaPad5
end Go.Proofs.Ytcgncafhonlmlaa
namespace Go.Proofs.Ytcgncafhonlmlaa
open Go.RowKit
def rotl64 (x : BitVec 64) (k : Int) : BitVec 64 := (x <<< ((BitVec.ofInt 64 k) &&& 63#64).toNat) ||| (x >>> (64#64 - ((BitVec.ofInt 64 k) &&& 63#64)).toNat)
set_option maxRecDepth 100000 in
set_option maxHeartbeats 2000000 in
theorem rotl64_ev (x : BitVec 64) (k : Int)  : Ev Try.prog (.call 92 [.c (.val (U64 x)), .c (.val (.int .i64 k))] []) (.val (.c (.val (U64 (rotl64 x k)))) []) := by
  have hP : Hid (rotl64 x k = (x <<< ((BitVec.ofInt 64 k) &&& 63#64).toNat) ||| (x >>> (64#64 - ((BitVec.ofInt 64 k) &&& 63#64)).toNat)) := ⟨rfl⟩
  refine c_call Try.func92 rfl Try.ntmps92 rfl LEN_ ?_
  refine S_ ?_
  refine c_region ?_
  refine s_val (v_assignC rfl) rfl ?_
  refine s_nil ?_
  refine S_ ?_
  refine c_region ?_
  refine s_val (v_moveC rfl) rfl ?_
  refine s_val (v_conv rfl Try.underlying3 Try.underlying72 (wI_64 _)) rfl ?_
  refine s_val (v_and64 (b := 63#64) rfl rfl) rfl ?_
  refine s_val (v_assignC rfl) rfl ?_
  refine s_nil ?_
  refine S_ ?_
  refine c_region ?_
  refine s_val (v_moveC rfl) rfl ?_
  refine s_val (v_moveC rfl) rfl ?_
  refine s_val (v_shl64w rfl rfl) rfl ?_
  refine s_val (v_moveC rfl) rfl ?_
  refine s_val (v_moveC rfl) rfl ?_
  refine s_val (v_sub64 (a := 64#64) rfl rfl) rfl ?_
  refine s_val (v_shr64w rfl rfl) rfl ?_
  refine s_val (v_or64 rfl rfl) rfl ?_
  refine s_val (v_assignC rfl) rfl ?_
  refine s_nil ?_
  refine S_ ?_
  rw [hP.out]
  exact k_1 (by first | exact r_tmpC rfl | exact r_tmpA rfl) (by first | kernel_rfl | rfl)
attribute [irreducible] rotl64
end Go.Proofs.Ytcgncafhonlmlaa
namespace Go.Proofs.Ytcgncafhonlmlaa
open Go.RowKit
def sha512_L8_S (tx : List (BitVec 8)) (j4 : Nat) (X4 : List (BitVec 64)) (j8 : Nat) : List (BitVec 64) := if j8 < 16 then put X4 j8 (shaHigh (shaPad5 tx) ((128 * j4) + (8 * j8)) (((8 * j8) + 8) - (8 * j8))) else put X4 j8 ((((nth X4 (j8 - 16)) + (((rotl64 (nth X4 (j8 - 15)) (-1)) ^^^ (rotl64 (nth X4 (j8 - 15)) (-8))) ^^^ ((nth X4 (j8 - 15)) >>> 7))) + (nth X4 (j8 - 7))) + (((rotl64 (nth X4 (j8 - 2)) (-19)) ^^^ (rotl64 (nth X4 (j8 - 2)) (-61))) ^^^ ((nth X4 (j8 - 2)) >>> 6)))
def sha512_L8 (tx : List (BitVec 8)) (j4 : Nat) : Nat → List (BitVec 64)
  | 0 => zer64 80
  | j8 + 1 => sha512_L8_S tx j4 (sha512_L8 tx j4 j8) j8
@[simp] theorem sha512_L8_len (tx : List (BitVec 8)) (j4 : Nat) (j8 : Nat) : (sha512_L8 tx j4 j8).length = 80 := by
  induction j8 with
  | zero => first | (simp [sha512_L8, *]; done) | (simp [sha512_L8, *]; omega)
  | succ j8 ih => rw [sha512_L8.eq_2, sha512_L8_S]; first | (simp [ih]; done) | (simp [ih]; omega) | (simp [*]; done) | (simp [*]; omega) | (split <;> first | (simp [ih]; done) | (simp [ih]; omega) | (simp [*]; done))
def sha512_L19_S (Y5 : List (BitVec 64)) (X6 : List (BitVec 64)) (j19 : Nat) : List (BitVec 64) := [(((((nth X6 7) + (((rotl64 (nth X6 4) (-14)) ^^^ (rotl64 (nth X6 4) (-18))) ^^^ (rotl64 (nth X6 4) (-41)))) + (((nth X6 4) &&& (nth X6 5)) ^^^ ((~~~(nth X6 4)) &&& (nth X6 6)))) + (nth shaK512 j19)) + (nth Y5 j19)) + ((((rotl64 (nth X6 0) (-28)) ^^^ (rotl64 (nth X6 0) (-34))) ^^^ (rotl64 (nth X6 0) (-39))) + ((((nth X6 0) &&& (nth X6 1)) ^^^ ((nth X6 0) &&& (nth X6 2))) ^^^ ((nth X6 1) &&& (nth X6 2)))), nth X6 0, nth X6 1, nth X6 2, (nth X6 3) + (((((nth X6 7) + (((rotl64 (nth X6 4) (-14)) ^^^ (rotl64 (nth X6 4) (-18))) ^^^ (rotl64 (nth X6 4) (-41)))) + (((nth X6 4) &&& (nth X6 5)) ^^^ ((~~~(nth X6 4)) &&& (nth X6 6)))) + (nth shaK512 j19)) + (nth Y5 j19)), nth X6 4, nth X6 5, nth X6 6]
def sha512_L19 (X3 : List (BitVec 64)) (Y5 : List (BitVec 64)) : Nat → List (BitVec 64)
  | 0 => X3
  | j19 + 1 => sha512_L19_S Y5 (sha512_L19 X3 Y5 j19) j19
theorem sha512_L19_len (X3 : List (BitVec 64)) (Y5 : List (BitVec 64)) (hX3 : X3.length = 8) (hY5 : Y5.length = 80) (j19 : Nat) : (sha512_L19 X3 Y5 j19).length = 8 := by
  induction j19 with
  | zero => first | (simp [sha512_L19, *]; done) | (simp [sha512_L19, *]; omega)
  | succ j19 ih => rw [sha512_L19.eq_2, sha512_L19_S]; first | (simp [ih]; done) | (simp [ih]; omega) | (simp [sha512_L8_len, *]; done) | (simp [sha512_L8_len, *]; omega) | (split <;> first | (simp [ih]; done) | (simp [ih]; omega) | (simp [sha512_L8_len, *]; done))
def sha512_L29_S (Y7 : List (BitVec 64)) (X8 : List (BitVec 64)) (j29 : Nat) : List (BitVec 64) := put X8 j29 ((nth X8 j29) + (nth Y7 j29))
def sha512_L29 (X3 : List (BitVec 64)) (Y7 : List (BitVec 64)) : Nat → List (BitVec 64)
  | 0 => X3
  | j29 + 1 => sha512_L29_S Y7 (sha512_L29 X3 Y7 j29) j29
theorem sha512_L29_len (X3 : List (BitVec 64)) (Y7 : List (BitVec 64)) (hX3 : X3.length = 8) (j29 : Nat) : (sha512_L29 X3 Y7 j29).length = 8 := by
  induction j29 with
  | zero => first | (simp [sha512_L29, *]; done) | (simp [sha512_L29, *]; omega)
  | succ j29 ih => rw [sha512_L29.eq_2, sha512_L29_S]; first | (simp [ih]; done) | (simp [ih]; omega) | (simp [sha512_L8_len, sha512_L19_len, *]; done) | (simp [sha512_L8_len, sha512_L19_len, *]; omega) | (split <;> first | (simp [ih]; done) | (simp [ih]; omega) | (simp [sha512_L8_len, sha512_L19_len, *]; done))
def sha512_L4_S (tx : List (BitVec 8)) (X3 : List (BitVec 64)) (j4 : Nat) : List (BitVec 64) := (sha512_L29 X3 (sha512_L19 X3 (sha512_L8 tx j4 80) 80) 8)
def sha512_L4 (tx : List (BitVec 8)) : Nat → List (BitVec 64)
  | 0 => [7640891576956012808#64, 13503953896175478587#64, 4354685564936845355#64, 11912009170470909681#64, 5840696475078001361#64, 11170449401992604703#64, 2270897969802886507#64, 6620516959819538809#64]
  | j4 + 1 => sha512_L4_S tx (sha512_L4 tx j4) j4
@[simp] theorem sha512_L4_len (tx : List (BitVec 8)) (j4 : Nat) : (sha512_L4 tx j4).length = 8 := by
  induction j4 with
  | zero => first | (simp [sha512_L4, *]; done) | (simp [sha512_L4, *]; omega)
  | succ j4 ih => rw [sha512_L4.eq_2, sha512_L4_S]; first | (simp [ih]; done) | (simp [ih]; omega) | (simp [sha512_L8_len, sha512_L19_len, sha512_L29_len, *]; done) | (simp [sha512_L8_len, sha512_L19_len, sha512_L29_len, *]; omega) | (split <;> first | (simp [ih]; done) | (simp [ih]; omega) | (simp [sha512_L8_len, sha512_L19_len, sha512_L29_len, *]; done))
def sha512_L35_S (Y11 : List (BitVec 64)) (X12 : List (BitVec 8)) (j35 : Nat) : List (BitVec 8) := put X12 j35 (((nth Y11 (j35 / 8)) >>> (56 - (8 * (j35 % 8)))).setWidth 8)
def sha512_L35 (Y11 : List (BitVec 64)) : Nat → List (BitVec 8)
  | 0 => zer8 64
  | j35 + 1 => sha512_L35_S Y11 (sha512_L35 Y11 j35) j35
@[simp] theorem sha512_L35_len (Y11 : List (BitVec 64)) (j35 : Nat) : (sha512_L35 Y11 j35).length = 64 := by
  induction j35 with
  | zero => first | (simp [sha512_L35, *]; done) | (simp [sha512_L35, *]; omega)
  | succ j35 ih => rw [sha512_L35.eq_2, sha512_L35_S]; first | (simp [ih]; done) | (simp [ih]; omega) | (simp [sha512_L8_len, sha512_L19_len, sha512_L29_len, sha512_L4_len, *]; done) | (simp [sha512_L8_len, sha512_L19_len, sha512_L29_len, sha512_L4_len, *]; omega) | (split <;> first | (simp [ih]; done) | (simp [ih]; omega) | (simp [sha512_L8_len, sha512_L19_len, sha512_L29_len, sha512_L4_len, *]; done))
def sha512 (tx : List (BitVec 8)) : List (BitVec 8) := (sha512_L35 (sha512_L4 tx ((tx.length + 144) / 128)) 64)
set_option maxRecDepth 100000 in
set_option maxHeartbeats 2000000 in
theorem sha512_ev (b : List (BitVec 8)) (o : Nat) (n : Nat) (cap : Nat) (hb : o + n ≤ b.length) (hn : n ≤ 2199023255552) : Ev Try.prog (.call 49 [.c (.sl 0 o n cap 1)] [.row false (.a8 (b))]) (.val (.agg (.a8 (sha512 (cut b o n)))) [.row false (.a8 (b))]) := by
  have hP : Hid (sha512 (cut b o n) = (sha512_L35 (sha512_L4 (cut b o n) (((cut b o n).length + 144) / 128)) 64)) := ⟨rfl⟩
  have htx : (cut b o n).length = n := by rw [cut_length]; omega
  try simp only [htx] at hP
  refine c_call Try.func49 rfl Try.ntmps49 rfl LEN_ ?_
  refine S_ ?_
  refine c_region ?_
  refine s_memN (m_alloc al_25 LEN_) APP_ rfl ?_
  refine s_nil ?_
  refine S_ ?_
  refine c_region ?_
  refine s_val (v_bld64 (l := [7640891576956012808#64, 13503953896175478587#64, 4354685564936845355#64, 11912009170470909681#64, 5840696475078001361#64, 11170449401992604703#64, 2270897969802886507#64, 6620516959819538809#64]) zc_83 Try.underlying83 sz_40 rfl rfl (by decide)) rfl ?_
  refine s_memN (m_alloc al_83 LEN_) APP_ rfl ?_
  refine s_storeR rfl rfl rfl rfl sz_83 EQ_ EQ_ SET_ ?_
  refine s_nil ?_
  have hQ1 : (shaK512).length = 80 := LQ_
  refine S_ ?_
  refine c_region ?_
  refine s_evN (e_callR (bs := []) (shaK512_ev) ok_89 (by kernel_rfl) (by kernel_rfl) rfl VAL_) APP_ rfl ?_
  refine s_val (v_assignC rfl) rfl ?_
  refine s_nil ?_
  have hQ2 : (shaPad5 (cut b o n)).length = (((n + 1) + (240 - (n + 1) % 128) % 128) + 8) + 8 := LQ_
  refine S_ ?_
  refine c_region ?_
  refine s_val (v_moveC rfl) rfl ?_
  refine s_evN (e_callR (bs := [0]) (shaPad5_ev b o n cap HYP_ HYP_) ok_90 (by kernel_rfl) (by kernel_rfl) rfl VAL_) APP_ rfl ?_
  refine s_val (v_assignC rfl) rfl ?_
  refine s_nil ?_
  refine S_ ?_
  refine c_loopC [2, 3, 4, 5] (fun (zz : Nat × List (BitVec 64)) => ⟨200, keepT [2, 3, 4, 5] [.c (.ptr 1 0), .c (.ptr 2 0), .c (.sl 3 0 80 80 1), .c (.sl 4 (128 * zz.1) (((((n + 1) + (240 - (n + 1) % 128) % 128) + 8) + 8) - 128 * zz.1) (((((n + 1) + (240 - (n + 1) % 128) % 128) + 8) + 8) - 128 * zz.1) 1)], [.row false (.a8 (b)), .row true (.a8 (zer8 64)), .row true (.a64 (zz.2)), .row true (.a64 (shaK512)), .row true (.a8 (shaPad5 (cut b o n)))]⟩) (fun j4 => (j4, sha512_L4 (cut b o n) j4)) ((n + 144) / 128) (by kernel_rfl) ?_ ?_
  · intro j4 hj4
    try dsimp only
    have hX3 : (sha512_L4 (cut b o n) j4).length = 8 := by rw [sha512_L4_len (cut b o n) _]; try omega
    rw [sha512_L4.eq_2, sha512_L4_S]
    try simp only [htx]
    generalize sha512_L4 (cut b o n) j4 = X3 at *
    refine S_ ?_
    refine c_region ?_
    refine s_val (v_moveC rfl) rfl ?_
    refine s_val (v_lenS rfl Try.underlying23) rfl ?_
    refine s_val (v_gtrN (b := 0) rfl rfl) rfl ?_
    refine s_nil ?_
    refine S_ ?_
    refine c_region ?_
    refine s_memN (m_alloc al_81 LEN_) APP_ rfl ?_
    refine s_nil ?_
    refine S_ ?_
    refine c_region ?_
    refine s_val (v_moveC rfl) rfl ?_
    refine s_nil ?_
    refine S_ ?_
    refine c_loopC [2, 3, 4, 5, 6, 32] (fun (zz : Nat × List (BitVec 64)) => ⟨200, keepT [2, 3, 4, 5, 6, 32] [.c (.ptr 1 0), .c (.ptr 2 0), .c (.sl 3 0 80 80 1), .c (.sl 4 (128 * j4) (((((n + 1) + (240 - (n + 1) % 128) % 128) + 8) + 8) - 128 * j4) (((((n + 1) + (240 - (n + 1) % 128) % 128) + 8) + 8) - 128 * j4) 1), .c (.ptr 5 0), .c (.val (.int .i64 (((zz.1 : Nat) : Int))))], [.row false (.a8 (b)), .row true (.a8 (zer8 64)), .row true (.a64 (X3)), .row true (.a64 (shaK512)), .row true (.a8 (shaPad5 (cut b o n))), .row true (.a64 (zz.2))]⟩) (fun j8 => (j8, sha512_L8 (cut b o n) j4 j8)) (80) (by kernel_rfl) ?_ ?_
    · intro j8 hj8
      try dsimp only
      have hX4 : (sha512_L8 (cut b o n) j4 j8).length = 80 := by rw [sha512_L8_len (cut b o n) j4 _]; try omega
      rw [sha512_L8.eq_2, sha512_L8_S]
      try simp only [htx]
      generalize sha512_L8 (cut b o n) j4 j8 = X4 at *
      refine S_ ?_
      refine c_region ?_
      refine s_val (v_lssN (b := 80) rfl rfl) rfl ?_
      refine s_nil ?_
      refine S_ ?_
      refine c_region ?_
      refine s_val (v_moveC rfl) rfl ?_
      refine s_val (v_assignC rfl) rfl ?_
      refine s_nil ?_
      refine S_ ?_
      refine c_region ?_
      refine s_val (v_moveC rfl) rfl ?_
      refine s_val (v_lssN (b := 16) rfl rfl) rfl ?_
      refine s_nil ?_
      refine Q_ ?_
      by_cases hc5 : j8 < 16
      · try simp only [if_pos hc5] at *
        refine c_condT rfl (decide_eq_true hc5) ?_
        refine S_ ?_
        refine c_region ?_
        refine s_val (v_moveC rfl) rfl ?_
        refine s_val (v_moveC rfl) rfl ?_
        refine s_val (v_moveC rfl) rfl ?_
        refine s_val (v_mulN (a := 8) rfl rfl (by omega)) rfl ?_
        refine s_val (v_moveC rfl) rfl ?_
        refine s_val (v_mulN (a := 8) rfl rfl (by omega)) rfl ?_
        refine s_val (v_addN (b := 8) rfl rfl (by omega)) rfl ?_
        refine s_val (v_slSo rfl Try.underlying23 sz_5 rfl rfl (by omega) (by omega)) rfl ?_
        refine s_evN (e_callR (bs := [4]) (shaHigh_ev (shaPad5 (cut b o n)) ((128 * j4) + (8 * j8)) (((8 * j8) + 8) - (8 * j8)) ((((((n + 1) + (240 - (n + 1) % 128) % 128) + 8) + 8) - 128 * j4) - (8 * j8)) HYP_ HYP_) ok_91 (by kernel_rfl) (by kernel_rfl) rfl VAL_) APP_ rfl ?_
        refine s_val (v_idxA1 rfl rfl Try.underlying81 sz_40 (by omega)) rfl ?_
        refine s_store64 rfl rfl rfl sz_40 LT_ SET_ ?_
        refine s_nil ?_
        refine S_ ?_
        refine c_region ?_
        refine s_val (v_addN (b := 1) rfl rfl (by omega)) rfl ?_
        refine s_val (v_moveC rfl) rfl ?_
        refine s_nil ?_
        exact ⟨(j8 + 1, _), by kernel_rfl, rfl⟩
      · try simp only [if_neg hc5] at *
        refine c_condF rfl (decide_eq_false hc5) ?_
        refine S_ ?_
        refine c_draw 10 mixed (by kernel_rfl) rfl rfl rfl ?_
        refine h_val (v_moveC rfl) rfl ?_
        first
          | refine h_val (v_subN (b := 15) rfl rfl (by omega) (by omega)) rfl ?_
          | refine h_val (v_subI rfl rfl (by omega)) rfl ?_
        refine h_val (v_idxA1 rfl rfl Try.underlying81 sz_40 (by omega)) rfl ?_
        refine h_val (v_load64 rfl rfl row_40 LT_) rfl ?_
        refine h_val (v_moveC rfl) rfl ?_
        first
          | refine h_val (v_subN (b := 2) rfl rfl (by omega) (by omega)) rfl ?_
          | refine h_val (v_subI rfl rfl (by omega)) rfl ?_
        refine h_val (v_idxA1 rfl rfl Try.underlying81 sz_40 (by omega)) rfl ?_
        refine h_val (v_load64 rfl rfl row_40 LT_) rfl ?_
        refine h_val (v_assignC rfl) rfl ?_
        refine h_val (v_assignC rfl) rfl ?_
        refine h_nil ?_
        refine s_nil ?_
        refine S_ ?_
        refine c_region ?_
        refine s_val (v_moveC rfl) rfl ?_
        refine s_evN (e_callR (bs := []) (rotl64_ev (nth X4 (j8 - 15)) (-1)) ok_92 (by kernel_rfl) (by kernel_rfl) rfl VAL_) APP_ rfl ?_
        refine s_val (v_moveC rfl) rfl ?_
        refine s_evN (e_callR (bs := []) (rotl64_ev (nth X4 (j8 - 15)) (-8)) ok_92 (by kernel_rfl) (by kernel_rfl) rfl VAL_) APP_ rfl ?_
        refine s_val (v_xor64 rfl rfl) rfl ?_
        refine s_val (v_moveC rfl) rfl ?_
        refine s_val (v_shr64n (j := 7) rfl rfl) rfl ?_
        refine s_val (v_xor64 rfl rfl) rfl ?_
        refine s_val (v_assignC rfl) rfl ?_
        refine s_nil ?_
        refine S_ ?_
        refine c_region ?_
        refine s_val (v_moveC rfl) rfl ?_
        refine s_evN (e_callR (bs := []) (rotl64_ev (nth X4 (j8 - 2)) (-19)) ok_92 (by kernel_rfl) (by kernel_rfl) rfl VAL_) APP_ rfl ?_
        refine s_val (v_moveC rfl) rfl ?_
        refine s_evN (e_callR (bs := []) (rotl64_ev (nth X4 (j8 - 2)) (-61)) ok_92 (by kernel_rfl) (by kernel_rfl) rfl VAL_) APP_ rfl ?_
        refine s_val (v_xor64 rfl rfl) rfl ?_
        refine s_val (v_moveC rfl) rfl ?_
        refine s_val (v_shr64n (j := 6) rfl rfl) rfl ?_
        refine s_val (v_xor64 rfl rfl) rfl ?_
        refine s_val (v_assignC rfl) rfl ?_
        refine s_nil ?_
        refine S_ ?_
        refine c_draw 15 mixed (by kernel_rfl) rfl rfl rfl ?_
        refine h_val (v_moveC rfl) rfl ?_
        refine h_val (v_moveC rfl) rfl ?_
        first
          | refine h_val (v_subN (b := 16) rfl rfl (by omega) (by omega)) rfl ?_
          | refine h_val (v_subI rfl rfl (by omega)) rfl ?_
        refine h_val (v_idxA1 rfl rfl Try.underlying81 sz_40 (by omega)) rfl ?_
        refine h_val (v_load64 rfl rfl row_40 LT_) rfl ?_
        refine h_val (v_moveC rfl) rfl ?_
        refine h_val (v_add64 rfl rfl) rfl ?_
        refine h_val (v_moveC rfl) rfl ?_
        first
          | refine h_val (v_subN (b := 7) rfl rfl (by omega) (by omega)) rfl ?_
          | refine h_val (v_subI rfl rfl (by omega)) rfl ?_
        refine h_val (v_idxA1 rfl rfl Try.underlying81 sz_40 (by omega)) rfl ?_
        refine h_val (v_load64 rfl rfl row_40 LT_) rfl ?_
        refine h_val (v_add64 rfl rfl) rfl ?_
        refine h_val (v_moveC rfl) rfl ?_
        refine h_val (v_add64 rfl rfl) rfl ?_
        refine h_val (v_idxA1 rfl rfl Try.underlying81 sz_40 (by omega)) rfl ?_
        refine h_nil ?_
        refine s_store64 rfl rfl rfl sz_40 LT_ SET_ ?_
        refine s_nil ?_
        refine S_ ?_
        refine c_region ?_
        refine s_val (v_addN (b := 1) rfl rfl (by omega)) rfl ?_
        refine s_val (v_moveC rfl) rfl ?_
        refine s_nil ?_
        exact ⟨(j8 + 1, _), by kernel_rfl, rfl⟩
    · try dsimp only
      have hY6 : (sha512_L8 (cut b o n) j4 80).length = 80 := by rw [sha512_L8_len (cut b o n) j4 _]; try omega
      generalize sha512_L8 (cut b o n) j4 80 = Y6 at *
      refine S_ ?_
      refine c_region ?_
      refine s_val (v_lssN (a := 80) (b := 80) rfl rfl) rfl ?_
      refine s_nil ?_
      refine S_ ?_
      refine c_region ?_
      refine s_val (v_loadR rfl rfl row_83 sz_83 EQ_ (by decide)) rfl ?_
      refine s_memN (m_alloc al_83 LEN_) APP_ rfl ?_
      refine s_storeR rfl rfl rfl rfl sz_83 EQ_ EQ_ SET_ ?_
      refine s_nil ?_
      refine S_ ?_
      refine c_region ?_
      refine s_val (v_moveC rfl) rfl ?_
      refine s_nil ?_
      refine S_ ?_
      refine c_loopC [2, 3, 4, 5, 6, 12, 88] (fun (zz : Nat × List (BitVec 64)) => ⟨200, keepT [2, 3, 4, 5, 6, 12, 88] [.c (.ptr 1 0), .c (.ptr 2 0), .c (.sl 3 0 80 80 1), .c (.sl 4 (128 * j4) (((((n + 1) + (240 - (n + 1) % 128) % 128) + 8) + 8) - 128 * j4) (((((n + 1) + (240 - (n + 1) % 128) % 128) + 8) + 8) - 128 * j4) 1), .c (.ptr 5 0), .c (.ptr 6 0), .c (.val (.int .i64 (((zz.1 : Nat) : Int))))], [.row false (.a8 (b)), .row true (.a8 (zer8 64)), .row true (.a64 (X3)), .row true (.a64 (shaK512)), .row true (.a8 (shaPad5 (cut b o n))), .row true (.a64 (Y6)), .row true (.a64 (zz.2))]⟩) (fun j19 => (j19, sha512_L19 X3 Y6 j19)) (80) (by kernel_rfl) ?_ ?_
      · intro j19 hj19
        try dsimp only
        have hX7 : (sha512_L19 X3 Y6 j19).length = 8 := by rw [sha512_L19_len X3 Y6 hX3 hY6 _]; try omega
        rw [sha512_L19.eq_2, sha512_L19_S]
        try simp only [htx]
        generalize sha512_L19 X3 Y6 j19 = X7 at *
        refine S_ ?_
        refine c_region ?_
        refine s_val (v_lssN (b := 80) rfl rfl) rfl ?_
        refine s_nil ?_
        refine S_ ?_
        refine c_region ?_
        refine s_val (v_moveC rfl) rfl ?_
        refine s_val (v_assignC rfl) rfl ?_
        refine s_nil ?_
        refine S_ ?_
        refine c_draw 6 mixed (by kernel_rfl) rfl rfl rfl ?_
        refine h_val (v_idxA1 (j := 4) rfl rfl Try.underlying83 sz_40 (by omega)) rfl ?_
        refine h_val (v_load64 rfl rfl row_40 LT_) rfl ?_
        refine h_val (v_idxA1 (j := 0) rfl rfl Try.underlying83 sz_40 (by omega)) rfl ?_
        refine h_val (v_load64 rfl rfl row_40 LT_) rfl ?_
        refine h_val (v_assignC rfl) rfl ?_
        refine h_val (v_assignC rfl) rfl ?_
        refine h_nil ?_
        refine s_nil ?_
        refine S_ ?_
        refine c_region ?_
        refine s_val (v_moveC rfl) rfl ?_
        refine s_evN (e_callR (bs := []) (rotl64_ev (nth X7 4) (-14)) ok_92 (by kernel_rfl) (by kernel_rfl) rfl VAL_) APP_ rfl ?_
        refine s_val (v_moveC rfl) rfl ?_
        refine s_evN (e_callR (bs := []) (rotl64_ev (nth X7 4) (-18)) ok_92 (by kernel_rfl) (by kernel_rfl) rfl VAL_) APP_ rfl ?_
        refine s_val (v_xor64 rfl rfl) rfl ?_
        refine s_val (v_moveC rfl) rfl ?_
        refine s_evN (e_callR (bs := []) (rotl64_ev (nth X7 4) (-41)) ok_92 (by kernel_rfl) (by kernel_rfl) rfl VAL_) APP_ rfl ?_
        refine s_val (v_xor64 rfl rfl) rfl ?_
        refine s_val (v_assignC rfl) rfl ?_
        refine s_nil ?_
        refine S_ ?_
        refine c_draw 25 mixed (by kernel_rfl) rfl rfl rfl ?_
        refine h_val (v_idxA1 (j := 7) rfl rfl Try.underlying83 sz_40 (by omega)) rfl ?_
        refine h_val (v_load64 rfl rfl row_40 LT_) rfl ?_
        refine h_val (v_moveC rfl) rfl ?_
        refine h_val (v_add64 rfl rfl) rfl ?_
        refine h_val (v_moveC rfl) rfl ?_
        refine h_val (v_idxA1 (j := 5) rfl rfl Try.underlying83 sz_40 (by omega)) rfl ?_
        refine h_val (v_load64 rfl rfl row_40 LT_) rfl ?_
        refine h_val (v_and64 rfl rfl) rfl ?_
        refine h_val (v_moveC rfl) rfl ?_
        refine h_val (v_unxor64 rfl) rfl ?_
        refine h_val (v_idxA1 (j := 6) rfl rfl Try.underlying83 sz_40 (by omega)) rfl ?_
        refine h_val (v_load64 rfl rfl row_40 LT_) rfl ?_
        refine h_val (v_and64 rfl rfl) rfl ?_
        refine h_val (v_xor64 rfl rfl) rfl ?_
        refine h_val (v_add64 rfl rfl) rfl ?_
        refine h_val (v_moveC rfl) rfl ?_
        refine h_val (v_moveC rfl) rfl ?_
        refine h_val (v_idxS1 rfl rfl Try.underlying109 sz_40 (by omega)) rfl ?_
        refine h_val (v_load64 rfl rfl row_40 LT_) rfl ?_
        refine h_val (v_add64 rfl rfl) rfl ?_
        refine h_val (v_moveC rfl) rfl ?_
        refine h_val (v_idxA1 rfl rfl Try.underlying81 sz_40 (by omega)) rfl ?_
        refine h_val (v_load64 rfl rfl row_40 LT_) rfl ?_
        refine h_val (v_add64 rfl rfl) rfl ?_
        refine h_val (v_assignC rfl) rfl ?_
        refine h_nil ?_
        refine s_nil ?_
        refine S_ ?_
        refine c_region ?_
        refine s_val (v_moveC rfl) rfl ?_
        refine s_evN (e_callR (bs := []) (rotl64_ev (nth X7 0) (-28)) ok_92 (by kernel_rfl) (by kernel_rfl) rfl VAL_) APP_ rfl ?_
        refine s_val (v_moveC rfl) rfl ?_
        refine s_evN (e_callR (bs := []) (rotl64_ev (nth X7 0) (-34)) ok_92 (by kernel_rfl) (by kernel_rfl) rfl VAL_) APP_ rfl ?_
        refine s_val (v_xor64 rfl rfl) rfl ?_
        refine s_val (v_moveC rfl) rfl ?_
        refine s_evN (e_callR (bs := []) (rotl64_ev (nth X7 0) (-39)) ok_92 (by kernel_rfl) (by kernel_rfl) rfl VAL_) APP_ rfl ?_
        refine s_val (v_xor64 rfl rfl) rfl ?_
        refine s_val (v_assignC rfl) rfl ?_
        refine s_nil ?_
        refine S_ ?_
        refine c_region ?_
        refine s_val (v_moveC rfl) rfl ?_
        refine s_val (v_moveC rfl) rfl ?_
        refine s_val (v_idxA1 (j := 1) rfl rfl Try.underlying83 sz_40 (by omega)) rfl ?_
        refine s_val (v_load64 rfl rfl row_40 LT_) rfl ?_
        refine s_val (v_and64 rfl rfl) rfl ?_
        refine s_val (v_moveC rfl) rfl ?_
        refine s_val (v_idxA1 (j := 2) rfl rfl Try.underlying83 sz_40 (by omega)) rfl ?_
        refine s_val (v_load64 rfl rfl row_40 LT_) rfl ?_
        refine s_val (v_and64 rfl rfl) rfl ?_
        refine s_val (v_xor64 rfl rfl) rfl ?_
        refine s_val (v_idxA1 (j := 1) rfl rfl Try.underlying83 sz_40 (by omega)) rfl ?_
        refine s_val (v_load64 rfl rfl row_40 LT_) rfl ?_
        refine s_val (v_idxA1 (j := 2) rfl rfl Try.underlying83 sz_40 (by omega)) rfl ?_
        refine s_val (v_load64 rfl rfl row_40 LT_) rfl ?_
        refine s_val (v_and64 rfl rfl) rfl ?_
        refine s_val (v_xor64 rfl rfl) rfl ?_
        refine s_val (v_add64 rfl rfl) rfl ?_
        refine s_val (v_assignC rfl) rfl ?_
        refine s_nil ?_
        refine S_ ?_
        refine c_region ?_
        refine s_val (v_moveC rfl) rfl ?_
        refine s_val (v_moveC rfl) rfl ?_
        refine s_val (v_add64 rfl rfl) rfl ?_
        refine s_val (v_moveC rfl) rfl ?_
        refine s_val (v_idxA1 (j := 1) rfl rfl Try.underlying83 sz_40 (by omega)) rfl ?_
        refine s_val (v_load64 rfl rfl row_40 LT_) rfl ?_
        refine s_val (v_idxA1 (j := 2) rfl rfl Try.underlying83 sz_40 (by omega)) rfl ?_
        refine s_val (v_load64 rfl rfl row_40 LT_) rfl ?_
        refine s_val (v_idxA1 (j := 3) rfl rfl Try.underlying83 sz_40 (by omega)) rfl ?_
        refine s_val (v_load64 rfl rfl row_40 LT_) rfl ?_
        refine s_val (v_moveC rfl) rfl ?_
        refine s_val (v_add64 rfl rfl) rfl ?_
        refine s_val (v_moveC rfl) rfl ?_
        refine s_val (v_idxA1 (j := 5) rfl rfl Try.underlying83 sz_40 (by omega)) rfl ?_
        refine s_val (v_load64 rfl rfl row_40 LT_) rfl ?_
        refine s_val (v_idxA1 (j := 6) rfl rfl Try.underlying83 sz_40 (by omega)) rfl ?_
        refine s_val (v_load64 rfl rfl row_40 LT_) rfl ?_
        refine s_val (v_bld64 (l := [_, _, _, _, _, _, _, _]) zc_83 Try.underlying83 sz_40 rfl rfl (by decide)) rfl ?_
        refine s_storeR rfl rfl rfl rfl sz_83 EQ_ EQ_ SET_ ?_
        refine s_nil ?_
        refine S_ ?_
        refine c_region ?_
        refine s_val (v_addN (b := 1) rfl rfl (by omega)) rfl ?_
        refine s_val (v_moveC rfl) rfl ?_
        refine s_nil ?_
        exact ⟨(j19 + 1, _), by kernel_rfl, rfl⟩
      · try dsimp only
        have hY8 : (sha512_L19 X3 Y6 80).length = 8 := by rw [sha512_L19_len X3 Y6 hX3 hY6 _]; try omega
        generalize sha512_L19 X3 Y6 80 = Y8 at *
        refine S_ ?_
        refine c_region ?_
        refine s_val (v_lssN (a := 80) (b := 80) rfl rfl) rfl ?_
        refine s_nil ?_
        refine S_ ?_
        refine c_region ?_
        refine s_val (v_moveC rfl) rfl ?_
        refine s_nil ?_
        refine S_ ?_
        refine c_loopC [2, 3, 4, 5, 12, 171] (fun (zz : Nat × List (BitVec 64)) => ⟨200, keepT [2, 3, 4, 5, 12, 171] [.c (.ptr 1 0), .c (.ptr 2 0), .c (.sl 3 0 80 80 1), .c (.sl 4 (128 * j4) (((((n + 1) + (240 - (n + 1) % 128) % 128) + 8) + 8) - 128 * j4) (((((n + 1) + (240 - (n + 1) % 128) % 128) + 8) + 8) - 128 * j4) 1), .c (.ptr 5 0), .c (.val (.int .i64 (((zz.1 : Nat) : Int))))], [.row false (.a8 (b)), .row true (.a8 (zer8 64)), .row true (.a64 (zz.2)), .row true (.a64 (shaK512)), .row true (.a8 (shaPad5 (cut b o n))), .row true (.a64 (Y8))]⟩) (fun j29 => (j29, sha512_L29 X3 Y8 j29)) (8) (by kernel_rfl) ?_ ?_
        · intro j29 hj29
          try dsimp only
          have hX9 : (sha512_L29 X3 Y8 j29).length = 8 := by rw [sha512_L29_len X3 Y8 hX3 _]; try omega
          rw [sha512_L29.eq_2, sha512_L29_S]
          try simp only [htx]
          generalize sha512_L29 X3 Y8 j29 = X9 at *
          refine S_ ?_
          refine c_region ?_
          refine s_val (v_lssN (b := 8) rfl rfl) rfl ?_
          refine s_nil ?_
          refine S_ ?_
          refine c_region ?_
          refine s_val (v_moveC rfl) rfl ?_
          refine s_val (v_assignC rfl) rfl ?_
          refine s_nil ?_
          refine S_ ?_
          refine c_draw 8 mixed (by kernel_rfl) rfl rfl rfl ?_
          refine h_val (v_moveC rfl) rfl ?_
          refine h_val (v_idxA1 rfl rfl Try.underlying83 sz_40 (by omega)) rfl ?_
          refine h_val (v_load64 rfl rfl row_40 LT_) rfl ?_
          refine h_val (v_moveC rfl) rfl ?_
          refine h_val (v_idxA1 rfl rfl Try.underlying83 sz_40 (by omega)) rfl ?_
          refine h_val (v_load64 rfl rfl row_40 LT_) rfl ?_
          refine h_val (v_add64 rfl rfl) rfl ?_
          refine h_val (v_idxA1 rfl rfl Try.underlying83 sz_40 (by omega)) rfl ?_
          refine h_nil ?_
          refine s_store64 rfl rfl rfl sz_40 LT_ SET_ ?_
          refine s_nil ?_
          refine S_ ?_
          refine c_region ?_
          refine s_val (v_addN (b := 1) rfl rfl (by omega)) rfl ?_
          refine s_val (v_moveC rfl) rfl ?_
          refine s_nil ?_
          exact ⟨(j29 + 1, _), by kernel_rfl, rfl⟩
        · try dsimp only
          have hY10 : (sha512_L29 X3 Y8 8).length = 8 := by rw [sha512_L29_len X3 Y8 hX3 _]; try omega
          generalize sha512_L29 X3 Y8 8 = Y10 at *
          refine S_ ?_
          refine c_region ?_
          refine s_val (v_lssN (a := 8) (b := 8) rfl rfl) rfl ?_
          refine s_nil ?_
          refine S_ ?_
          refine c_region ?_
          refine s_val (v_moveC rfl) rfl ?_
          refine s_val (v_slSo (l := 128) rfl Try.underlying23 sz_5 rfl rfl (by omega) (by omega)) rfl ?_
          refine s_val (v_assignC rfl) rfl ?_
          refine s_nil ?_
          exact ⟨(j4 + 1, _), by kernel_rfl, rfl⟩
  · try dsimp only
    have hY11 : (sha512_L4 (cut b o n) ((n + 144) / 128)).length = 8 := by rw [sha512_L4_len (cut b o n) _]; try omega
    generalize sha512_L4 (cut b o n) ((n + 144) / 128) = Y11 at *
    refine S_ ?_
    refine c_region ?_
    refine s_val (v_moveC rfl) rfl ?_
    refine s_val (v_lenS rfl Try.underlying23) rfl ?_
    refine s_val (v_gtrN (b := 0) rfl rfl) rfl ?_
    refine s_nil ?_
    refine S_ ?_
    refine c_region ?_
    refine s_memN (m_alloc al_25 LEN_) APP_ rfl ?_
    refine s_nil ?_
    refine S_ ?_
    refine c_region ?_
    refine s_val (v_moveC rfl) rfl ?_
    refine s_nil ?_
    refine S_ ?_
    refine c_loopC [2, 3, 21, 183] (fun (zz : Nat × List (BitVec 8)) => ⟨200, keepT [2, 3, 21, 183] [.c (.ptr 1 0), .c (.ptr 2 0), .c (.ptr 3 0), .c (.val (.int .i64 (((zz.1 : Nat) : Int))))], [.row false (.a8 (b)), .row true (.a8 (zer8 64)), .row true (.a64 (Y11)), .row true (.a8 (zz.2))]⟩) (fun j35 => (j35, sha512_L35 Y11 j35)) (64) (by kernel_rfl) ?_ ?_
    · intro j35 hj35
      try dsimp only
      have hX12 : (sha512_L35 Y11 j35).length = 64 := by rw [sha512_L35_len Y11 _]; try omega
      rw [sha512_L35.eq_2, sha512_L35_S]
      try simp only [htx]
      generalize sha512_L35 Y11 j35 = X12 at *
      refine S_ ?_
      refine c_region ?_
      refine s_val (v_lssN (b := 64) rfl rfl) rfl ?_
      refine s_nil ?_
      refine S_ ?_
      refine c_region ?_
      refine s_val (v_moveC rfl) rfl ?_
      refine s_val (v_assignC rfl) rfl ?_
      refine s_nil ?_
      refine S_ ?_
      refine c_region ?_
      refine s_val (v_moveC rfl) rfl ?_
      refine s_val (v_moveC rfl) rfl ?_
      refine s_val (v_quoN (b := 8) rfl rfl (by omega) (by omega)) rfl ?_
      refine s_val (v_idxA1 rfl rfl Try.underlying83 sz_40 (by omega)) rfl ?_
      refine s_val (v_load64 rfl rfl row_40 LT_) rfl ?_
      refine s_val (v_moveC rfl) rfl ?_
      refine s_val (v_remN (b := 8) rfl rfl (by omega) (by omega)) rfl ?_
      refine s_val (v_mulN (a := 8) rfl rfl (by omega)) rfl ?_
      first
        | refine s_val (v_subN (a := 56) rfl rfl (by omega) (by omega)) rfl ?_
        | refine s_val (v_subI rfl rfl (by omega)) rfl ?_
      refine s_val (v_shr64n rfl rfl) rfl ?_
      refine s_val (v_conv rfl Try.underlying40 Try.underlying5 (w64_8 _)) rfl ?_
      refine s_val (v_idxA1 rfl rfl Try.underlying25 sz_5 (by omega)) rfl ?_
      refine s_store8 rfl rfl rfl sz_5 LT_ SET_ ?_
      refine s_nil ?_
      refine S_ ?_
      refine c_region ?_
      refine s_val (v_addN (b := 1) rfl rfl (by omega)) rfl ?_
      refine s_val (v_moveC rfl) rfl ?_
      refine s_nil ?_
      exact ⟨(j35 + 1, _), by kernel_rfl, rfl⟩
    · try dsimp only
      have hY13 : (sha512_L35 Y11 64).length = 64 := by rw [sha512_L35_len Y11 _]; try omega
      generalize sha512_L35 Y11 64 = Y13 at *
      refine S_ ?_
      refine c_region ?_
      refine s_val (v_lssN (a := 64) (b := 64) rfl rfl) rfl ?_
      refine s_nil ?_
      refine S_ ?_
      refine c_region ?_
      refine s_val (v_loadR rfl rfl row_25 sz_25 EQ_ (by decide)) rfl ?_
      refine s_storeR rfl rfl rfl rfl sz_25 EQ_ EQ_ SET_ ?_
      refine s_nil ?_
      refine S_ ?_
      rw [hP.out]
      exact k_1 (r_row rfl rfl row_25 sz_25 EQ_ (by decide)) (by first | kernel_rfl | rfl)
theorem sha512_evS (b : List (BitVec 8)) (n : Nat) (cap : Nat) (hb : b.length = n) (hn : n ≤ 2199023255552) : Ev Try.prog (.call 49 [.c (.sl 0 0 n cap 1)] [.row false (.a8 (b))]) (.val (.agg (.a8 (sha512 b))) [.row false (.a8 (b))]) := by
  have h_ := sha512_ev b 0 n cap (by omega) hn
  rw [cut_all hb] at h_
  exact h_
@[simp] theorem sha512_len (tx : List (BitVec 8)) : (sha512 tx).length = 64 := by
  unfold sha512
  first | (simp [sha512_L8_len, sha512_L19_len, sha512_L29_len, sha512_L4_len, sha512_L35_len, *]; done) | (simp [sha512_L8_len, sha512_L19_len, sha512_L29_len, sha512_L4_len, sha512_L35_len, *]; omega)
attribute [irreducible] sha512
end Go.Proofs.Ytcgncafhonlmlaa
namespace Go.Proofs.Ytcgncafhonlmlaa
open Go.RowKit
def sgHalf0 (seed : List (BitVec 8)) : List (BitVec 8) := dhNum (cut (sha512 seed) 0 32)
def sgHalf1 (seed : List (BitVec 8)) : List (BitVec 8) := sha512 seed
set_option maxRecDepth 100000 in
set_option maxHeartbeats 2000000 in
theorem sgHalf_ev (seed : List (BitVec 8)) (hseed : seed.length = 32) : Ev Try.prog (.call 24 [.agg (.a8 (seed))] []) (.val (.tup [.agg (.a8 (sgHalf0 seed)), .c (.sl 0 32 32 32 1)]) [.row true (.a8 (sgHalf1 seed))]) := by
  have hP_sgHalf0 : Hid (sgHalf0 seed = dhNum (cut (sha512 seed) 0 32)) := ⟨rfl⟩
  have hP_sgHalf1 : Hid (sgHalf1 seed = sha512 seed) := ⟨rfl⟩
  refine c_call Try.func24 rfl Try.ntmps24 rfl LEN_ ?_
  refine S_ ?_
  refine c_region ?_
  refine s_memN (m_box BX_ LEN_) APP_ rfl ?_
  refine s_memN (m_alloc al_22 LEN_) APP_ rfl ?_
  refine s_val (v_assignC rfl) rfl ?_
  refine s_nil ?_
  have hQ1 : (sha512 seed).length = 64 := LQ_
  refine S_ ?_
  refine c_region ?_
  refine s_val (v_slA1 (l := 0) (h := 32) (len := 32) (cp := 32) rfl Try.underlying22 sz_5 rfl rfl rfl (by omega) (by omega) FIT_ rfl rfl) rfl ?_
  refine s_evN (e_callR (bs := [0]) (sha512_evS seed 32 32 HYP_ HYP_) ok_49 (by kernel_rfl) (by kernel_rfl) rfl VAL_) APP_ rfl ?_
  refine s_memN (m_alloc al_25 LEN_) APP_ rfl ?_
  refine s_storeR rfl rfl rfl rfl sz_25 EQ_ EQ_ SET_ ?_
  refine s_nil ?_
  have hQ2 : (cut (sha512 seed) 0 32).length = 32 := LQ_
  have hQ3 : (dhNum (cut (sha512 seed) 0 32)).length = 32 := LQ_
  refine S_ ?_
  refine c_stores2 [1] mixed (by kernel_rfl) ?_
  refine x_val (v_slA1 (l := 0) (h := 32) (len := 32) (cp := 64) rfl Try.underlying25 sz_5 rfl rfl rfl (by omega) (by omega) FIT_ rfl rfl) rfl ?_
  refine x_val (v_arrP rfl Try.underlying22 (by omega) (by decide)) rfl ?_
  first | refine x_val (v_loadW8 rfl rfl row_22 sz_22 LE_ (by decide)) rfl ?_ | refine x_early (by kernel_rfl) (v_loadW8 rfl rfl row_22 sz_22 LE_ (by decide)) rfl ?_
  refine x_call (by kernel_rfl) (e_callR (bs := []) (dhNum_ev (cut (sha512 seed) 0 32) HYP_) ok_50 (by kernel_rfl) (by kernel_rfl) rfl VAL_) rfl ?_
  refine x_val (v_slA1 (l := 32) (h := 64) (len := 32) (cp := 32) rfl Try.underlying25 sz_5 rfl rfl rfl (by omega) (by omega) FIT_ rfl rfl) rfl ?_
  refine x_storeR rfl rfl rfl rfl rfl sz_22 EQ_ EQ_ SET_ ?_
  refine x_val (v_assignC rfl) rfl ?_
  refine x_nil ?_
  refine S_ ?_
  rw [hP_sgHalf0.out, hP_sgHalf1.out]
  exact k_2 (r_row rfl rfl row_22 sz_22 EQ_ (by decide)) (by first | exact r_tmpC rfl | exact r_tmpA rfl) (by first | kernel_rfl | rfl)
@[simp] theorem sgHalf0_len (seed : List (BitVec 8)) (hseed : seed.length = 32) : (sgHalf0 seed).length = 32 := by
  unfold sgHalf0
  first | (simp [*]; done) | (simp [*]; omega)
attribute [irreducible] sgHalf0
@[simp] theorem sgHalf1_len (seed : List (BitVec 8)) (hseed : seed.length = 32) : (sgHalf1 seed).length = 64 := by
  unfold sgHalf1
  first | (simp [*]; done) | (simp [*]; omega)
attribute [irreducible] sgHalf1
end Go.Proofs.Ytcgncafhonlmlaa
namespace Go.Proofs.Ytcgncafhonlmlaa
open Go.RowKit
def mul640 (x : BitVec 64) (y : BitVec 64) : BitVec 64 := (((x >>> 32) * (y >>> 32)) + ((((x >>> 32) * (y &&& 4294967295#64)) + (((x &&& 4294967295#64) * (y &&& 4294967295#64)) >>> 32)) >>> 32)) + ((((((x >>> 32) * (y &&& 4294967295#64)) + (((x &&& 4294967295#64) * (y &&& 4294967295#64)) >>> 32)) &&& 4294967295#64) + ((x &&& 4294967295#64) * (y >>> 32))) >>> 32)
def mul641 (x : BitVec 64) (y : BitVec 64) : BitVec 64 := x * y
set_option maxRecDepth 100000 in
set_option maxHeartbeats 2000000 in
theorem mul64_ev (x : BitVec 64) (y : BitVec 64)  : Ev Try.prog (.call 86 [.c (.val (U64 x)), .c (.val (U64 y))] []) (.val (.tup [.c (.val (U64 (mul640 x y))), .c (.val (U64 (mul641 x y)))]) []) := by
  have hP_mul640 : Hid (mul640 x y = (((x >>> 32) * (y >>> 32)) + ((((x >>> 32) * (y &&& 4294967295#64)) + (((x &&& 4294967295#64) * (y &&& 4294967295#64)) >>> 32)) >>> 32)) + ((((((x >>> 32) * (y &&& 4294967295#64)) + (((x &&& 4294967295#64) * (y &&& 4294967295#64)) >>> 32)) &&& 4294967295#64) + ((x &&& 4294967295#64) * (y >>> 32))) >>> 32)) := ⟨rfl⟩
  have hP_mul641 : Hid (mul641 x y = x * y) := ⟨rfl⟩
  refine c_call Try.func86 rfl Try.ntmps86 rfl LEN_ ?_
  refine S_ ?_
  refine c_region ?_
  refine s_val (v_assignC rfl) rfl ?_
  refine s_val (v_assignC rfl) rfl ?_
  refine s_nil ?_
  refine S_ ?_
  refine c_region ?_
  refine s_val (v_moveC rfl) rfl ?_
  refine s_val (v_and64 (b := 4294967295#64) rfl rfl) rfl ?_
  refine s_val (v_assignC rfl) rfl ?_
  refine s_nil ?_
  refine S_ ?_
  refine c_region ?_
  refine s_val (v_moveC rfl) rfl ?_
  refine s_val (v_shr64n (j := 32) rfl rfl) rfl ?_
  refine s_val (v_assignC rfl) rfl ?_
  refine s_nil ?_
  refine S_ ?_
  refine c_region ?_
  refine s_val (v_moveC rfl) rfl ?_
  refine s_val (v_and64 (b := 4294967295#64) rfl rfl) rfl ?_
  refine s_val (v_assignC rfl) rfl ?_
  refine s_nil ?_
  refine S_ ?_
  refine c_region ?_
  refine s_val (v_moveC rfl) rfl ?_
  refine s_val (v_shr64n (j := 32) rfl rfl) rfl ?_
  refine s_val (v_assignC rfl) rfl ?_
  refine s_nil ?_
  refine S_ ?_
  refine c_region ?_
  refine s_val (v_moveC rfl) rfl ?_
  refine s_val (v_moveC rfl) rfl ?_
  refine s_val (v_mul64 rfl rfl) rfl ?_
  refine s_val (v_assignC rfl) rfl ?_
  refine s_nil ?_
  refine S_ ?_
  refine c_region ?_
  refine s_val (v_moveC rfl) rfl ?_
  refine s_val (v_moveC rfl) rfl ?_
  refine s_val (v_mul64 rfl rfl) rfl ?_
  refine s_val (v_moveC rfl) rfl ?_
  refine s_val (v_shr64n (j := 32) rfl rfl) rfl ?_
  refine s_val (v_add64 rfl rfl) rfl ?_
  refine s_val (v_assignC rfl) rfl ?_
  refine s_nil ?_
  refine S_ ?_
  refine c_region ?_
  refine s_val (v_moveC rfl) rfl ?_
  refine s_val (v_and64 (b := 4294967295#64) rfl rfl) rfl ?_
  refine s_val (v_assignC rfl) rfl ?_
  refine s_nil ?_
  refine S_ ?_
  refine c_region ?_
  refine s_val (v_moveC rfl) rfl ?_
  refine s_val (v_shr64n (j := 32) rfl rfl) rfl ?_
  refine s_val (v_assignC rfl) rfl ?_
  refine s_nil ?_
  refine S_ ?_
  refine c_region ?_
  refine s_val (v_moveC rfl) rfl ?_
  refine s_val (v_moveC rfl) rfl ?_
  refine s_val (v_moveC rfl) rfl ?_
  refine s_val (v_mul64 rfl rfl) rfl ?_
  refine s_val (v_add64 rfl rfl) rfl ?_
  refine s_val (v_assignC rfl) rfl ?_
  refine s_nil ?_
  refine S_ ?_
  refine c_region ?_
  refine s_val (v_moveC rfl) rfl ?_
  refine s_val (v_moveC rfl) rfl ?_
  refine s_val (v_mul64 rfl rfl) rfl ?_
  refine s_val (v_moveC rfl) rfl ?_
  refine s_val (v_add64 rfl rfl) rfl ?_
  refine s_val (v_moveC rfl) rfl ?_
  refine s_val (v_shr64n (j := 32) rfl rfl) rfl ?_
  refine s_val (v_add64 rfl rfl) rfl ?_
  refine s_val (v_assignC rfl) rfl ?_
  refine s_nil ?_
  refine S_ ?_
  refine c_region ?_
  refine s_val (v_moveC rfl) rfl ?_
  refine s_val (v_moveC rfl) rfl ?_
  refine s_val (v_mul64 rfl rfl) rfl ?_
  refine s_val (v_assignC rfl) rfl ?_
  refine s_nil ?_
  refine S_ ?_
  rw [hP_mul640.out, hP_mul641.out]
  exact k_2 (by first | exact r_tmpC rfl | exact r_tmpA rfl) (by first | exact r_tmpC rfl | exact r_tmpA rfl) (by first | kernel_rfl | rfl)
attribute [irreducible] mul640
attribute [irreducible] mul641
end Go.Proofs.Ytcgncafhonlmlaa
namespace Go.Proofs.Ytcgncafhonlmlaa
open Go.RowKit
theorem addC_le (x y c : BitVec 64) (h : c.toNat ≤ 1) : (addC x y c).toNat ≤ 1 := by
  have := x.isLt; have := y.isLt
  unfold addC
  rw [BitVec.toNat_ofNat]
  omega
theorem subC_le (x y c : BitVec 64) : (subC x y c).toNat ≤ 1 := by
  unfold subC
  split <;> decide
end Go.Proofs.Ytcgncafhonlmlaa
namespace Go.Proofs.Ytcgncafhonlmlaa
open Go.RowKit
def rfOf_L3_S (b : List (BitVec 8)) (X1 : List (BitVec 64)) (j3 : Nat) : List (BitVec 64) := put X1 (j3 / 8) ((nth X1 (j3 / 8)) ||| (((nth b j3).setWidth 64) <<< (BitVec.ofNat 64 (8 * (j3 % 8))).toNat))
def rfOf_L3 (b : List (BitVec 8)) : Nat → List (BitVec 64)
  | 0 => zer64 4
  | j3 + 1 => rfOf_L3_S b (rfOf_L3 b j3) j3
@[simp] theorem rfOf_L3_len (b : List (BitVec 8)) (j3 : Nat) : (rfOf_L3 b j3).length = 4 := by
  induction j3 with
  | zero => first | (simp [rfOf_L3, *]; done) | (simp [rfOf_L3, *]; omega)
  | succ j3 ih => rw [rfOf_L3.eq_2, rfOf_L3_S]; first | (simp [ih]; done) | (simp [ih]; omega) | (simp [*]; done) | (simp [*]; omega) | (split <;> first | (simp [ih]; done) | (simp [ih]; omega) | (simp [*]; done))
def rfOf (b : List (BitVec 8)) : List (BitVec 64) := (rfOf_L3 b 32)
@[simp] theorem rfOf_len (b : List (BitVec 8)) (hb : b.length = 32) : (rfOf b).length = 4 := by
  unfold rfOf
  first | (simp [rfOf_L3_len, *]; done) | (simp [rfOf_L3_len, *]; omega)
attribute [irreducible] rfOf
def rfBytes_L3_S (n : List (BitVec 64)) (X1 : List (BitVec 8)) (j3 : Nat) : List (BitVec 8) := put X1 j3 (((nth n (j3 / 8)) >>> (BitVec.ofNat 64 (8 * (j3 % 8))).toNat).setWidth 8)
def rfBytes_L3 (n : List (BitVec 64)) : Nat → List (BitVec 8)
  | 0 => zer8 32
  | j3 + 1 => rfBytes_L3_S n (rfBytes_L3 n j3) j3
@[simp] theorem rfBytes_L3_len (n : List (BitVec 64)) (j3 : Nat) : (rfBytes_L3 n j3).length = 32 := by
  induction j3 with
  | zero => first | (simp [rfBytes_L3, *]; done) | (simp [rfBytes_L3, *]; omega)
  | succ j3 ih => rw [rfBytes_L3.eq_2, rfBytes_L3_S]; first | (simp [ih]; done) | (simp [ih]; omega) | (simp [*]; done) | (simp [*]; omega) | (split <;> first | (simp [ih]; done) | (simp [ih]; omega) | (simp [*]; done))
def rfBytes (n : List (BitVec 64)) : List (BitVec 8) := (rfBytes_L3 n 32)
set_option maxRecDepth 100000 in
set_option maxHeartbeats 2000000 in
theorem rfBytes_ev (n : List (BitVec 64)) (hn : n.length = 4) : Ev Try.prog (.call 21 [.agg (.a64 (n))] []) (.val (.agg (.a8 (rfBytes n))) []) := by
  have hP : Hid (rfBytes n = (rfBytes_L3 n 32)) := ⟨rfl⟩
  refine c_call Try.func21 rfl Try.ntmps21 rfl LEN_ ?_
  refine S_ ?_
  refine c_region ?_
  refine s_memN (m_box BX_ LEN_) APP_ rfl ?_
  refine s_memN (m_alloc al_22 LEN_) APP_ rfl ?_
  refine s_nil ?_
  refine S_ ?_
  refine c_region ?_
  refine s_memN (m_alloc al_22 LEN_) APP_ rfl ?_
  refine s_nil ?_
  refine S_ ?_
  refine c_region ?_
  refine s_val (v_assignC rfl) rfl ?_
  refine s_nil ?_
  refine S_ ?_
  refine c_loopC [1, 2, 3, 4] (fun (zz : Nat × List (BitVec 8)) => ⟨22, keepT [1, 2, 3, 4] [.c (.ptr 0 0), .c (.ptr 1 0), .c (.ptr 2 0), .c (.val (.int .i64 (((zz.1 : Nat) : Int))))], [.row true (.a64 (n)), .row true (.a8 (zer8 32)), .row true (.a8 (zz.2))]⟩) (fun j3 => (j3, rfBytes_L3 n j3)) (32) (by kernel_rfl) ?_ ?_
  · intro j3 hj3
    try dsimp only
    have hX1 : (rfBytes_L3 n j3).length = 32 := by rw [rfBytes_L3_len n _]; try omega
    rw [rfBytes_L3.eq_2, rfBytes_L3_S]
    generalize rfBytes_L3 n j3 = X1 at *
    refine S_ ?_
    refine c_region ?_
    refine s_val (v_moveC rfl) rfl ?_
    refine s_val (v_lssN (b := 32) rfl rfl) rfl ?_
    refine s_nil ?_
    refine S_ ?_
    refine c_region ?_
    refine s_val (v_moveC rfl) rfl ?_
    refine s_val (v_moveC rfl) rfl ?_
    refine s_val (v_quoN (b := 8) rfl rfl (by omega) (by omega)) rfl ?_
    refine s_val (v_idxA1 rfl rfl Try.underlying42 sz_40 (by omega)) rfl ?_
    refine s_val (v_load64 rfl rfl row_40 LT_) rfl ?_
    refine s_val (v_moveC rfl) rfl ?_
    refine s_val (v_remN (b := 8) rfl rfl (by omega) (by omega)) rfl ?_
    refine s_val (v_mulN (a := 8) rfl rfl (by omega)) rfl ?_
    refine s_val (v_conv rfl Try.underlying3 Try.underlying72 (wi_64 _)) rfl ?_
    refine s_val (v_shr64w rfl rfl) rfl ?_
    refine s_val (v_conv rfl Try.underlying40 Try.underlying5 (w64_8 _)) rfl ?_
    refine s_val (v_idxA1 rfl rfl Try.underlying22 sz_5 (by omega)) rfl ?_
    refine s_store8 rfl rfl rfl sz_5 LT_ SET_ ?_
    refine s_nil ?_
    refine S_ ?_
    refine c_region ?_
    refine s_val (v_moveC rfl) rfl ?_
    refine s_val (v_addN (b := 1) rfl rfl (by omega)) rfl ?_
    refine s_val (v_assignC rfl) rfl ?_
    refine s_nil ?_
    exact ⟨(j3 + 1, _), by kernel_rfl, rfl⟩
  · try dsimp only
    have hY2 : (rfBytes_L3 n 32).length = 32 := by rw [rfBytes_L3_len n _]; try omega
    generalize rfBytes_L3 n 32 = Y2 at *
    refine S_ ?_
    refine c_region ?_
    refine s_val (v_moveC rfl) rfl ?_
    refine s_val (v_lssN (a := 32) (b := 32) rfl rfl) rfl ?_
    refine s_nil ?_
    refine S_ ?_
    refine c_region ?_
    refine s_val (v_loadR rfl rfl row_22 sz_22 EQ_ (by decide)) rfl ?_
    refine s_storeR rfl rfl rfl rfl sz_22 EQ_ EQ_ SET_ ?_
    refine s_nil ?_
    refine S_ ?_
    rw [hP.out]
    exact k_1 (r_row rfl rfl row_22 sz_22 EQ_ (by decide)) (by first | kernel_rfl | rfl)
@[simp] theorem rfBytes_len (n : List (BitVec 64)) (hn : n.length = 4) : (rfBytes n).length = 32 := by
  unfold rfBytes
  first | (simp [rfBytes_L3_len, *]; done) | (simp [rfBytes_L3_len, *]; omega)
attribute [irreducible] rfBytes
def rfP  : List (BitVec 64) := [18446744073709551597#64, 18446744073709551615#64, 18446744073709551615#64, 9223372036854775807#64]
@[simp] theorem rfP_len  : (rfP).length = 4 := by
  unfold rfP
  first | (simp [*]; done) | (simp [*]; omega)
attribute [irreducible] rfP
def rfadd_L4_S (a : List (BitVec 64)) (b : List (BitVec 64)) (X1 : BitVec 64) (X2 : List (BitVec 64)) (j4 : Nat) : BitVec 64 × List (BitVec 64) := (addC (nth a j4) (nth b j4) X1, put X2 j4 ((nth a j4) + (nth b j4) + X1))
def rfadd_L4 (a : List (BitVec 64)) (b : List (BitVec 64)) : Nat → BitVec 64 × List (BitVec 64)
  | 0 => (0#64, zer64 4)
  | j4 + 1 => rfadd_L4_S a b (rfadd_L4 a b j4).1 (rfadd_L4 a b j4).2 j4
theorem rfadd_L4_len1 (a : List (BitVec 64)) (b : List (BitVec 64)) (ha : a.length = 4) (hb : b.length = 4) (j4 : Nat) : (rfadd_L4 a b j4).2.length = 4 := by
  induction j4 with
  | zero => first | (simp [rfadd_L4, *]; done) | (simp [rfadd_L4, *]; omega)
  | succ j4 ih => rw [rfadd_L4.eq_2, rfadd_L4_S]; first | (simp [ih]; done) | (simp [ih]; omega) | (simp [*]; done) | (simp [*]; omega) | (split <;> first | (simp [ih]; done) | (simp [ih]; omega) | (simp [*]; done))
def rfadd0 (a : List (BitVec 64)) (b : List (BitVec 64)) : List (BitVec 64) := ((rfadd_L4 a b 4).2)
def rfadd1 (a : List (BitVec 64)) (b : List (BitVec 64)) : BitVec 64 := ((rfadd_L4 a b 4).1)
@[simp] theorem rfadd0_len (a : List (BitVec 64)) (b : List (BitVec 64)) (ha : a.length = 4) (hb : b.length = 4) : (rfadd0 a b).length = 4 := by
  unfold rfadd0
  first | (simp [rfadd_L4_len1, *]; done) | (simp [rfadd_L4_len1, *]; omega)
attribute [irreducible] rfadd0
attribute [irreducible] rfadd1
def rfsub_L4_S (a : List (BitVec 64)) (b : List (BitVec 64)) (X1 : BitVec 64) (X2 : List (BitVec 64)) (j4 : Nat) : BitVec 64 × List (BitVec 64) := (subC (nth a j4) (nth b j4) X1, put X2 j4 ((nth a j4) - (nth b j4) - X1))
def rfsub_L4 (a : List (BitVec 64)) (b : List (BitVec 64)) : Nat → BitVec 64 × List (BitVec 64)
  | 0 => (0#64, zer64 4)
  | j4 + 1 => rfsub_L4_S a b (rfsub_L4 a b j4).1 (rfsub_L4 a b j4).2 j4
theorem rfsub_L4_len1 (a : List (BitVec 64)) (b : List (BitVec 64)) (ha : a.length = 4) (hb : b.length = 4) (j4 : Nat) : (rfsub_L4 a b j4).2.length = 4 := by
  induction j4 with
  | zero => first | (simp [rfsub_L4, *]; done) | (simp [rfsub_L4, *]; omega)
  | succ j4 ih => rw [rfsub_L4.eq_2, rfsub_L4_S]; first | (simp [ih]; done) | (simp [ih]; omega) | (simp [*]; done) | (simp [*]; omega) | (split <;> first | (simp [ih]; done) | (simp [ih]; omega) | (simp [*]; done))
def rfsub0 (a : List (BitVec 64)) (b : List (BitVec 64)) : List (BitVec 64) := ((rfsub_L4 a b 4).2)
def rfsub1 (a : List (BitVec 64)) (b : List (BitVec 64)) : BitVec 64 := ((rfsub_L4 a b 4).1)
@[simp] theorem rfsub0_len (a : List (BitVec 64)) (b : List (BitVec 64)) (ha : a.length = 4) (hb : b.length = 4) : (rfsub0 a b).length = 4 := by
  unfold rfsub0
  first | (simp [rfsub_L4_len1, *]; done) | (simp [rfsub_L4_len1, *]; omega)
attribute [irreducible] rfsub0
attribute [irreducible] rfsub1
def rfMod_L2_S (X1 : List (BitVec 64)) : List (BitVec 64) := (if (!((rfsub1 X1 rfP) == 1#64)) = true then rfsub0 X1 rfP else X1)
def rfMod_L2 (a : List (BitVec 64)) : Nat → List (BitVec 64)
  | 0 => a
  | j2 + 1 => rfMod_L2_S (rfMod_L2 a j2)
theorem rfMod_L2_len (a : List (BitVec 64)) (ha : a.length = 4) (j2 : Nat) : (rfMod_L2 a j2).length = 4 := by
  induction j2 with
  | zero => first | (simp [rfMod_L2, *]; done) | (simp [rfMod_L2, *]; omega)
  | succ j2 ih => rw [rfMod_L2.eq_2, rfMod_L2_S]; first | (simp [ih]; done) | (simp [ih]; omega) | (simp [*]; done) | (simp [*]; omega) | (split <;> first | (simp [ih]; done) | (simp [ih]; omega) | (simp [*]; done))
def rfMod (a : List (BitVec 64)) : List (BitVec 64) := (rfMod_L2 a 3)
@[simp] theorem rfMod_len (a : List (BitVec 64)) (ha : a.length = 4) : (rfMod a).length = 4 := by
  unfold rfMod
  first | (simp [rfMod_L2_len, *]; done) | (simp [rfMod_L2_len, *]; omega)
attribute [irreducible] rfMod
end Go.Proofs.Ytcgncafhonlmlaa
