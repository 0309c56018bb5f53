/- Abstract data: a call told by rows under other names. -/
import Derived.Test.YtlnekohkbhidnaaAvStores
namespace Go.Proofs.Ytlnekohkbhidnaa
open Go.RowKit
theorem noRen_same (ι ι' : Emb) : Same noRen ι ι' := fun _ _ h => by cases h
theorem WeakC.rel {ρ : Nat → Option Nat} {ι ι' : Emb} (hs : ∀ j i, ρ j = some i → ι' j = ι i) {x y : Cell} (h : WeakC ρ x y) {v : Value} (hr : x.rel ι v) : y.rel ι' v := by
  cases h with
  | same h => rw [← h]; exact Cell.ren_rel (noRen_same ι ι') hr
  | ptr h => obtain ⟨l, hl, rfl⟩ := hr; exact ⟨l, by rw [hs _ _ h]; exact hl, rfl⟩
  | sl h =>
    obtain ⟨p, cap', rfl, h1, h2, h3⟩ := hr
    refine ⟨p, cap', rfl, h1, h2, h3.imp id ?_⟩
    rintro ⟨l, hl, r⟩
    exact ⟨l, by rw [hs _ _ h]; exact hl, r⟩
  | nil => simp only [Cell.rel] at hr; subst hr; exact ⟨none, 0, rfl, Nat.le_refl _, Nat.le_refl _, .inl rfl⟩
  | emp => obtain ⟨p, rfl⟩ := hr; exact ⟨p, 0, rfl, Nat.le_refl _, Nat.le_refl _, .inl rfl⟩
theorem WeakL.rel {ρ : Nat → Option Nat} {ι ι' : Emb} (hs : ∀ j i, ρ j = some i → ι' j = ι i) {l m : List AV} (h : WeakL ρ l m) : ∀ {vs : List Value}, ArgsRel ι l vs → ArgsRel ι' m vs := by
  induction h with
  | nil => intro vs hr; cases vs with
    | nil => trivial
    | cons v vs => exact hr.elim
  | c h _ ih => intro vs hr; cases vs with
    | nil => exact hr.elim
    | cons v vs => exact ⟨h.rel hs hr.1, ih hr.2⟩
  | @agg x l m h _ ih => intro vs hr; cases vs with
    | nil => exact hr.elim
    | cons v vs =>
      refine ⟨?_, ih hr.2⟩
      have := AV.ren_rel (noRen_same ι ι') hr.1
      rwa [show AV.ren noRen (.agg x) = .agg x from congrArg AV.agg h] at this
section
variable {ρ : Nat → Option Nat} {m m' N : Mem} {ι : Emb} {w : World}
def viewEmb (ρ : Nat → Option Nat) (ι : Emb) : Emb := fun j => (ρ j).bind ι
theorem view_R (hρ : ∀ j i, ρ j = some i → j < m'.length ∧ ∃ own x, m[i]? = some (.row own x) ∧ m'[j]? = some (.row false x) ∧ x.ren noRen = x) (hR : R ι m w) : R (viewEmb ρ ι) m' w := by
  have at_ : ∀ b l, viewEmb ρ ι b = some l → ∃ i, ρ b = some i ∧ ι i = some l := fun b l h => Option.bind_eq_some_iff.1 h
  refine ⟨fun b hb => ?_, fun b l own x h1 h2 => ?_, fun b b' l l' own own' x x' _ h1 h1' h2 h2' ho => ?_⟩
  · cases hv : viewEmb ρ ι b with
    | none => rfl
    | some l => obtain ⟨i, hi, _⟩ := at_ b l hv; have := (hρ b i hi).1; omega
  · obtain ⟨i, hi, hl⟩ := at_ b l h1
    obtain ⟨_, o, y, g1, g2, g3⟩ := hρ b i hi
    rw [g2] at h2; cases h2
    obtain ⟨cs, t, fr, k1, k2, k3, _⟩ := hR.rows i l o _ hl g1
    refine ⟨cs, t, fr, k1, k2, ?_, fun h => by cases h⟩
    have := Arr.ren_rel (noRen_same ι (viewEmb ρ ι)) k3
    rwa [g3] at this
  · obtain ⟨i, hi, _⟩ := at_ b l h1
    obtain ⟨i', hi', _⟩ := at_ b' l' h1'
    obtain ⟨_, _, _, _, g2, _⟩ := hρ b i hi
    obtain ⟨_, _, _, _, g2', _⟩ := hρ b' i' hi'
    rw [g2] at h2; cases h2
    rw [g2'] at h2'; cases h2'
    rcases ho with h | h <;> cases h
theorem view_step (hρ : ∀ j i, ρ j = some i → j < m'.length ∧ ∃ own x, m[i]? = some (.row own x) ∧ m'[j]? = some (.row false x) ∧ x.ren noRen = x) (hR : R ι m w) {ι1 : Emb} {w' : World} (h : Step m'.length (viewEmb ρ ι) m' w ι1 (m' ++ N) w') :
    ∃ ι2 : Emb, Same (viewRen ρ m'.length m.length) ι1 ι2 ∧ Step m.length ι m w ι2 (m ++ N.map (Row.ren (viewRen ρ m'.length m.length))) w' := by
  have unown : ∀ c, Owned (viewEmb ρ ι) m' c → False := by
    rintro c ⟨b, l, x, h1, h2, _⟩
    obtain ⟨i, hi, _⟩ := Option.bind_eq_some_iff.1 h1
    obtain ⟨_, _, _, _, g2, _⟩ := hρ b i hi
    rw [g2] at h2; cases h2
  let ι2 : Emb := fun b => if b < m.length then ι b else ι1 (b - m.length + m'.length)
  have lo : ∀ {b}, b < m.length → ι2 b = ι b := fun hb => if_pos hb
  have hi : ∀ {b}, m.length ≤ b → ι2 b = ι1 (b - m.length + m'.length) := fun hb => if_neg (by omega)
  have hle : ι.le ι2 := fun b l hb => by
    have : b < m.length := by
      rcases Nat.lt_or_ge b m.length with h' | h'
      · exact h'
      · rw [hR.dom b h'] at hb; cases hb
    rw [lo this]; exact hb
  have same : Same (viewRen ρ m'.length m.length) ι1 ι2 := by
    intro j i hj
    unfold viewRen at hj
    split at hj
    · rename_i hlt
      obtain ⟨_, o, x, g1, _, _⟩ := hρ j i hj
      rw [lo (List.getElem?_eq_some_iff.1 g1).1, h.ext j hlt]
      unfold viewEmb
      rw [hj]; rfl
    · rename_i hge
      cases hj
      rw [hi (by omega)]
      congr 1
      omega
  have old : ∀ {b own x}, b < m.length → (m ++ N.map (Row.ren (viewRen ρ m'.length m.length)))[b]? = some (.row own x) → m[b]? = some (.row own x) := fun {b own x} hb hm => by rw [List.getElem?_append_left hb] at hm; exact hm
  have new : ∀ {b own x}, m.length ≤ b → (m ++ N.map (Row.ren (viewRen ρ m'.length m.length)))[b]? = some (.row own x) → ∃ y, (m' ++ N)[b - m.length + m'.length]? = some (.row own y) ∧ x = y.ren (viewRen ρ m'.length m.length) := fun {b own x} hb hm => by
    rw [List.getElem?_append_right hb, List.getElem?_map] at hm
    obtain ⟨r, hr, e⟩ := Option.map_eq_some_iff.1 hm
    obtain ⟨y, rfl, hy⟩ := row_ren e
    refine ⟨y, ?_, hy⟩
    rw [List.getElem?_append_right (by omega), show b - m.length + m'.length - m'.length = b - m.length by omega]
    exact hr
  have far : ∀ {b l own x}, m.length ≤ b → ι2 b = some l → (m ++ N.map (Row.ren (viewRen ρ m'.length m.length)))[b]? = some (.row own x) → w.heap.size ≤ l.c := fun {b l own x} hb hl hm => by
    obtain ⟨y, hy, _⟩ := new hb hm
    rw [hi hb] at hl
    rcases h.news _ l own y (by omega) hl hy with h3 | h3 | ⟨b0, l0, o0, x0, h4, h5, h6, _⟩
    · exact h3
    · exact (unown _ h3).elim
    · exact (no_row h4 h6).elim
  refine ⟨ι2, same, ⟨⟨fun b hb => ?_, fun b l own x hb hm => ?_, fun b b' l l' own own' x x' hne hb hb' hm hm' hoo => ?_⟩, ⟨h.trans.os, h.trans.tape, h.trans.output, h.trans.size, fun c hc _ => h.trans.keep c hc (unown c), fun c hc => ?_⟩, fun b hb => lo hb, by simp, fun b x hb hm => by rw [List.getElem?_append_left hb]; exact hm, fun b own x hb hm => ⟨x, old hb hm⟩, fun b l own x hb h1 h2 => .inl (far hb h1 h2)⟩⟩
  · rw [List.length_append, List.length_map] at hb
    rw [hi (by omega)]
    exact h.r.dom _ (by rw [List.length_append]; omega)
  · rcases Nat.lt_or_ge b m.length with hs | hs
    · rw [lo hs] at hb
      obtain ⟨cs, t, fr, k1, k2, k3, k4⟩ := hR.rows b l own x hb (old hs hm)
      exact ⟨cs, t, fr, by rw [h.trans.keep l.c (hR.lt hb (old hs hm)) (unown _)]; exact k1, k2, k3.mono' hle, k4⟩
    · obtain ⟨y, hy, rfl⟩ := new hs hm
      rw [hi hs] at hb
      obtain ⟨cs, t, fr, k1, k2, k3, k4⟩ := h.r.rows _ l own y hb hy
      exact ⟨cs, t, fr, k1, by rw [Arr.ren_size]; exact k2, Arr.ren_rel same k3, k4⟩
  · rcases Nat.lt_or_ge b m.length with hs | hs <;> rcases Nat.lt_or_ge b' m.length with hs' | hs'
    · rw [lo hs] at hb
      rw [lo hs'] at hb'
      exact hR.inj b b' l l' own own' x x' hne hb hb' (old hs hm) (old hs' hm') hoo
    · rw [lo hs] at hb
      have h1 := hR.lt hb (old hs hm)
      have h2 := far hs' hb' hm'
      omega
    · rw [lo hs'] at hb'
      have h1 := hR.lt hb' (old hs' hm')
      have h2 := far hs hb hm
      omega
    · obtain ⟨y, hy, _⟩ := new hs hm
      obtain ⟨y', hy', _⟩ := new hs' hm'
      rw [hi hs] at hb
      rw [hi hs'] at hb'
      exact h.r.inj _ _ l l' own own' y y' (by omega) hb hb' hy hy' hoo
  · obtain ⟨b, l, x, hb, hm, rfl⟩ := hc
    rcases Nat.lt_or_ge b m.length with hs | hs
    · rw [lo hs] at hb
      exact .inr ⟨b, l, x, hb, old hs hm, rfl⟩
    · exact .inl (far hs hb hm)
end
end Go.Proofs.Ytlnekohkbhidnaa
