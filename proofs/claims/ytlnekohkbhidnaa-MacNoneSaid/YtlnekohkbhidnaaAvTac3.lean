/- Abstract data: less is known: a nil slice as an empty own row; an own row under a new name; a round of a loop by itself. -/
import Derived.Test.YtlnekohkbhidnaaAvTac2
namespace Go.Proofs.Ytlnekohkbhidnaa
open Go.RowKit
theorem cut_all {α : Type} {l : List α} {n : Nat} (h : l.length = n) : cut l 0 n = l := by subst h; simp [cut]
theorem emb_lt {ι : Emb} {M : Mem} {w : World} (hR : R ι M w) {b : Nat} {l : Loc} (h : ι b = some l) : b < M.length := by
  rcases Nat.lt_or_ge b M.length with h1 | h1
  · exact h1
  · rw [hR.dom b h1] at h; cases h
theorem app_lt {M : Mem} {x : Row} {b : Nat} (h : b < M.length) : (M ++ [x])[b]? = M[b]? := List.getElem?_append_left h
theorem nil_step {k : Nat} {ι : Emb} {M : Mem} {w : World} {x : Arr} (hk : k ≤ M.length) (hR : R ι M w) : Step k ι M w ι (M ++ [.row true x]) w := by
  have lt := fun {b : Nat} {l : Loc} (h : ι b = some l) => emb_lt hR h
  refine ⟨⟨fun b hb => hR.dom b (by simp at hb; omega), fun b l own y h1 h2 => ?_, fun b b' l l' own own' y y' hne h1 h2 h3 h4 ho => ?_⟩, ⟨rfl, rfl, rfl, Nat.le_refl _, fun _ _ _ => rfl, ?_⟩, fun _ _ => rfl, by simp; omega, fun b y hb h => ?_, fun b own y hb h => ?_, fun b l own y hb h1 h2 => ?_⟩
  · rw [app_lt (lt h1)] at h2; exact hR.rows b l own y h1 h2
  · rw [app_lt (lt h1)] at h3; rw [app_lt (lt h2)] at h4; exact hR.inj b b' l l' own own' y y' hne h1 h2 h3 h4 ho
  · rintro c ⟨b, l, y, h1, h2, h3⟩
    rw [app_lt (lt h1)] at h2; exact .inr ⟨b, l, y, h1, h2, h3⟩
  · rw [app_lt (by omega)]; exact h
  · rw [app_lt (by omega)] at h; exact ⟨y, h⟩
  · rw [app_lt (lt h1)] at h2; exact .inr (.inr ⟨b, l, own, y, hb, h1, h2, rfl⟩)
def moveEmb (n b : Nat) (ι : Emb) : Emb := fun i => if i = n then ι b else ι i
theorem move_le {ι : Emb} {M : Mem} {w : World} (hR : R ι M w) (b : Nat) : ι.le (moveEmb M.length b ι) := fun i l h => by
  have := emb_lt hR h
  unfold moveEmb
  rw [if_neg (by omega)]; exact h
theorem move_step {k : Nat} {ι : Emb} {M : Mem} {w : World} {b : Nat} {x : Arr} (hk : k ≤ M.length) (hR : R ι M w) (hb : M[b]? = some (.row true x)) : Step k ι M w (moveEmb M.length b ι) (M.set b .dead ++ [.row true x]) w := by
  have hbl : b < M.length := by
    rcases Nat.lt_or_ge b M.length with h1 | h1
    · exact h1
    · rw [List.getElem?_eq_none h1] at hb; cases hb
  have e1 : ∀ {i : Nat}, i ≠ M.length → moveEmb M.length b ι i = ι i := fun h => if_neg h
  have e2 : moveEmb M.length b ι M.length = ι b := if_pos rfl
  -- a row that is there after it
  have src : ∀ {i : Nat} {own : Bool} {y : Arr}, (M.set b .dead ++ [.row true x])[i]? = some (.row own y) → (i = M.length ∧ own = true ∧ y = x) ∨ (i < M.length ∧ i ≠ b ∧ M[i]? = some (.row own y)) := by
    intro i own y h
    rcases Nat.lt_trichotomy i M.length with h1 | h1 | h1
    · right
      rw [List.getElem?_append_left (by simp; exact h1), List.getElem?_set] at h
      by_cases e : b = i
      · subst e; simp [h1] at h
      · rw [if_neg e] at h; exact ⟨h1, fun h => e h.symm, h⟩
    · left
      subst h1
      rw [List.getElem?_append_right (by simp)] at h
      simp only [List.length_set, Nat.sub_self, List.getElem?_cons_zero, Option.some.injEq, Row.row.injEq] at h
      exact ⟨rfl, h.1.symm, h.2.symm⟩
    · rw [List.getElem?_eq_none (by simp; omega)] at h; cases h
  -- where it was
  have org : ∀ {i : Nat} {l : Loc} {own : Bool} {y : Arr}, moveEmb M.length b ι i = some l → (M.set b .dead ++ [.row true x])[i]? = some (.row own y) → ∃ i0, ι i0 = some l ∧ M[i0]? = some (.row own y) ∧ (i0 = i ∨ (i0 = b ∧ i = M.length)) := by
    intro i l own y h1 h2
    rcases src h2 with ⟨rfl, rfl, rfl⟩ | ⟨h3, h4, h5⟩
    · rw [e2] at h1; exact ⟨b, h1, hb, .inr ⟨rfl, rfl⟩⟩
    · rw [e1 (by omega)] at h1; exact ⟨i, h1, h5, .inl rfl⟩
  refine ⟨⟨fun i hi => ?_, fun i l own y h1 h2 => ?_, fun i i' l l' own own' y y' hne h1 h2 h3 h4 ho => ?_⟩, ⟨rfl, rfl, rfl, Nat.le_refl _, fun _ _ _ => rfl, ?_⟩, fun i hi => e1 (by omega), by simp; omega, fun i y hi h => ?_, fun i own y hi h => ?_, fun i l own y hi h1 h2 => ?_⟩
  · simp at hi
    rw [e1 (by omega)]; exact hR.dom i (by omega)
  · obtain ⟨i0, h3, h4, _⟩ := org h1 h2
    obtain ⟨cs, t, fr, g1, g2, g3, g4⟩ := hR.rows i0 l own y h3 h4
    exact ⟨cs, t, fr, g1, g2, g3.mono' (move_le hR b), g4⟩
  · obtain ⟨j, k1, k2, k3⟩ := org h1 h3
    obtain ⟨j', g1, g2, g3⟩ := org h2 h4
    have hs := src h3
    have hs' := src h4
    refine hR.inj j j' l l' own own' y y' (fun e => ?_) k1 g1 k2 g2 ho
    subst e
    rcases k3 with k3 | k3 <;> rcases g3 with g3 | g3
    · exact hne (by omega)
    · rcases hs with hs | hs
      · have := emb_lt hR k1; omega
      · omega
    · rcases hs' with hs' | hs'
      · have := emb_lt hR k1; omega
      · omega
    · omega
  · rintro c ⟨i, l, y, h1, h2, h3⟩
    obtain ⟨i0, h4, h5, _⟩ := org h1 h2
    exact .inr ⟨i0, l, y, h4, h5, h3⟩
  · rw [List.getElem?_append_left (by simp; omega), List.getElem?_set]
    by_cases e : b = i
    · subst e; rw [hb] at h; cases h
    · rw [if_neg e]; exact h
  · rcases src h with ⟨h1, _⟩ | ⟨_, _, h1⟩
    · omega
    · exact ⟨y, h1⟩
  · obtain ⟨i0, h3, h4, h5⟩ := org h1 h2
    rcases h5 with rfl | ⟨rfl, rfl⟩
    · exact .inr (.inr ⟨i0, l, own, y, hi, h3, h4, rfl⟩)
    · rcases src h2 with ⟨_, rfl, rfl⟩ | ⟨h6, _⟩
      · exact .inr (.inl ⟨i0, l, y, h3, hb, rfl⟩)
      · omega
section
variable {P : Program} {k N n : Nat} {c : Code} {T : Nat → AV} {M M' : Mem} {Φ : Ex → St → Prop}
theorem frel_upd {ι : Emb} {s s' : St} {a : Act} (d : Nat) {v : AV} (h : FRel ι s a) (hn : s'.n = s.n) (ht : s'.t = upd s.t d v) (hv : ∀ u, (s.t d).rel ι u → v.rel ι u) : FRel ι s' a := by
  refine ⟨h.size.trans hn.symm, fun t => ?_⟩
  rw [ht]
  unfold upd
  split
  · rename_i e; subst e; exact hv _ (h.rel t)
  · exact h.rel t
/-- A nil slice in a slot as an empty own row. -/
theorem c_nil (d sz : Nat) (x : Arr) (_hx : x.size = 0) (hd : T d = .c .nsl) (hn : M.length = n) (hM : M ++ [.row true x] = M') (h : WC P k c ⟨N, upd T d (.c (.sl n 0 0 0 sz)), M'⟩ Φ) : WC P k c ⟨N, T, M⟩ Φ := by
  subst hM; subst hn
  obtain ⟨e, r, h1, h2⟩ := h.h
  refine ⟨⟨e, r, Ev.weak ?_ h1, h2⟩⟩
  intro ι w a hk hR hf
  refine ⟨ι, frel_upd (s := ⟨N, T, M⟩) d hf rfl rfl ?_, nil_step hk hR⟩
  intro u hu
  change (T d).rel ι u at hu
  rw [hd] at hu
  change u = _ at hu
  subst hu
  exact ⟨none, 0, rfl, Nat.le_refl _, Nat.le_refl _, .inl rfl⟩
theorem c_emp (d sz : Nat) (x : Arr) (_hx : x.size = 0) (hd : T d = .c .esl) (hn : M.length = n) (hM : M ++ [.row true x] = M') (h : WC P k c ⟨N, upd T d (.c (.sl n 0 0 0 sz)), M'⟩ Φ) : WC P k c ⟨N, T, M⟩ Φ := by
  subst hM; subst hn
  obtain ⟨e, r, h1, h2⟩ := h.h
  refine ⟨⟨e, r, Ev.weak ?_ h1, h2⟩⟩
  intro ι w a hk hR hf
  refine ⟨ι, frel_upd (s := ⟨N, T, M⟩) d hf rfl rfl ?_, nil_step hk hR⟩
  intro u hu
  change (T d).rel ι u at hu
  rw [hd] at hu
  obtain ⟨p, rfl⟩ := hu
  exact ⟨p, 0, rfl, Nat.le_refl _, Nat.le_refl _, .inl rfl⟩
/-- A slot's own row under a new name. -/
theorem c_move (d : Nat) {b o len cap sz : Nat} {x : Arr} (hd : T d = .c (.sl b o len cap sz)) (hb : M[b]? = some (.row true x)) (hn : M.length = n) (hM : M.set b .dead ++ [.row true x] = M') (h : WC P k c ⟨N, upd T d (.c (.sl n o len len sz)), M'⟩ Φ) : WC P k c ⟨N, T, M⟩ Φ := by
  subst hM; subst hn
  obtain ⟨e, r, h1, h2⟩ := h.h
  refine ⟨⟨e, r, Ev.weak ?_ h1, h2⟩⟩
  intro ι w a hk hR hf
  refine ⟨_, frel_upd (s := ⟨N, T, M⟩) d (hf.mono (move_le hR b) M) rfl rfl ?_, move_step hk hR hb⟩
  intro u hu
  have hu' := hf.rel d
  change (T d).rel _ u at hu
  rw [hd] at hu
  obtain ⟨p, c', rfl, h3, h4, h5⟩ := hu
  refine ⟨p, c', rfl, h4, h4, h5.imp id ?_⟩
  rintro ⟨l, h6, h7⟩
  refine ⟨l, ?_, h7⟩
  show (if M.length = M.length then ι b else ι M.length) = some l
  rw [if_pos rfl]
  unfold moveEmb at h6
  split at h6
  · exact h6
  · exact h6
def peelK (P : Program) (k : Nat) (c : Code) (Φ : Ex → St → Prop) : Ex → St → Prop
  | .normal, s => WC P k (.loop c) s Φ
  | e, s => Φ e s
/-- One round of a loop by itself. -/
theorem c_peel {s : St} (h : WC P k c s (peelK P k c Φ)) : WC P k (.loop c) s Φ := by
  obtain ⟨e, r, h1, h2⟩ := h.h
  cases e with
  | normal => obtain ⟨e', r', h3, h4⟩ := WC.h h2; exact ⟨⟨e', r', Ev.loop h1 h3, h4⟩⟩
  | exit i => exact ⟨⟨_, r, Ev.loopx h1 (by simp), h2⟩⟩
  | ret => exact ⟨⟨_, r, Ev.loopx h1 (by simp), h2⟩⟩
end
section
variable {P : Program} {k N : Nat} {ops : Array Oper} {d : Nat} {ty : TypeId} {pos : String} {af : Array Edge} {l0 : List Oper} {T : Nat → AV} {M M' : Mem} {K : St → Prop} {t t' : TypeId} {x y : Operand}
theorem v_unnegN {a : Nat} (hx : opnd T x = .c (.val (.int .i64 (a : Int)))) (h : a ≤ 9223372036854775807) : evVal P (opnd T) M (.unOp .neg t x) = some (.c (.val (.int .i64 (-(a : Int))))) := by
  show (match opnd T x with | .c (.val v) => (pureOf (Op.unary .neg v)).map fun u => AV.c (.val u) | _ => none) = _
  rw [hx]
  have e : Op.unary .neg (.int .i64 (a : Int)) = (pure (.int .i64 (-(a : Int))) : Sem Value) := by
    have e2 := subI (t := 0) (a := 0) (b := (a : Int)) (by omega)
    rw [Int.zero_sub] at e2
    exact e2
  simp only [e]; rfl
end
end Go.Proofs.Ytlnekohkbhidnaa
