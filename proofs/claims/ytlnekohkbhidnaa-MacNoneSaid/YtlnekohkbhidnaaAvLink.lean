/- Abstract data: what a call of a function of the program leaves. -/
import Derived.Test.YtlnekohkbhidnaaAvEv
namespace Go.Proofs.Ytlnekohkbhidnaa
open Go.RowKit

theorem backRows_length (bs : List Nat) (mc : Mem) (ρ : Nat → Option Nat) : ∀ (m : Mem) (i : Nat), (backRows bs mc ρ i m).length = m.length
  | [], _ => rfl
  | .dead :: l, i => by simp [backRows, backRows_length bs mc ρ l (i + 1)]
  | .row true x :: l, i => by simp [backRows, backRows_length bs mc ρ l (i + 1)]
  | .row false x :: l, i => by simp [backRows, backRows_length bs mc ρ l (i + 1)]
theorem backRows_get (bs : List Nat) (mc : Mem) (ρ : Nat → Option Nat) : ∀ (m : Mem) (i b : Nat), (backRows bs mc ρ i m)[b]? = (m[b]?).map fun r => match r with
    | .row true x => (match idx (i + b) bs 0 with | some j => (mc.getD j .dead).ren ρ | none => .row true x)
    | r => r
  | [], i, b => by simp [backRows]
  | r :: l, i, b => by
    cases b with
    | zero => cases r with
      | dead => simp [backRows]
      | row own x =>
        cases own
        · simp [backRows]
        · simp only [backRows, List.getElem?_cons_zero, Option.map_some, Nat.add_zero]
          cases idx i bs 0 <;> rfl
    | succ b =>
      have ih := backRows_get bs mc ρ l (i + 1) b
      rw [show i + (b + 1) = i + 1 + b by omega]
      cases r with
      | dead => simp only [backRows, List.getElem?_cons_succ]; exact ih
      | row own x => cases own <;> (simp only [backRows, List.getElem?_cons_succ]; exact ih)
theorem row_ren {r : Row} {ρ : Nat → Option Nat} {own : Bool} {x : Arr} (h : r.ren ρ = .row own x) : ∃ y, r = .row own y ∧ x = y.ren ρ := by
  cases r with
  | dead => cases h
  | row o y => cases h; exact ⟨y, rfl, rfl⟩
theorem getD_row {m : Mem} {b : Nat} {own : Bool} {x : Arr} (h : m.getD b .dead = .row own x) : m[b]? = some (.row own x) := by
  rw [List.getD_eq_getElem?_getD] at h
  cases hm : m[b]? with
  | none => rw [hm] at h; cases h
  | some r => rw [hm] at h; simp at h; rw [h]
/-- The names of the caller, for what the call has left. -/
def linkEmb (n k : Nat) (ι ιc : Emb) : Emb := fun b => if b < n then ι b else ιc (b - n + k)
theorem link_sound {m : Mem} {bs : List Nat} (hok : canOk 0 m bs = true) {ι : Emb} {w : World} (hR : R ι m w) {ιc' : Emb} {mc' : Mem} {w' : World}
    (h : Step bs.length (canEmb 0 bs ι) (canMem 0 m bs) w ιc' mc' w') {v : AV} {u : Value} (hv : v.rel ιc' u) :
    (linkOut bs m v mc').1.rel (linkEmb m.length bs.length ι ιc') u ∧ Step m.length ι m w (linkEmb m.length bs.length ι ιc') (linkOut bs m v mc').2 w' := by
  have hok' := hok
  simp only [canOk, Bool.and_eq_true, decide_eq_true_eq, List.all_eq_true] at hok'
  obtain ⟨⟨⟨_, hd⟩, hlt⟩, _⟩ := hok'
  have hblt : ∀ i b, bs[i]? = some b → b < m.length := fun i b hb => (hlt b (List.mem_of_getElem? hb)).2
  have hcl : (canMem 0 m bs).length = bs.length := by simp [canMem]
  -- names
  have emb0 : ∀ i b, bs[i]? = some b → canEmb 0 bs ι i = ι b := fun i b hb => by unfold canEmb; rw [if_neg (by omega), Nat.sub_zero, hb]
  have lnew : ∀ b, m.length ≤ b → linkEmb m.length bs.length ι ιc' b = ιc' (b - m.length + bs.length) := fun b hb => by unfold linkEmb; rw [if_neg (by omega)]
  have lold : ∀ b, b < m.length → linkEmb m.length bs.length ι ιc' b = ι b := fun b hb => if_pos hb
  have same : Same (backRen bs m.length) ιc' (linkEmb m.length bs.length ι ιc') := by
    intro i b hb
    unfold backRen at hb
    by_cases hi : i < bs.length
    · rw [if_pos hi] at hb
      rw [h.ext i hi, emb0 i b hb, lold b (hblt i b hb)]
    · rw [if_neg hi] at hb
      cases hb
      rw [lnew _ (by omega)]
      congr 1
      omega
  have hle : ι.le (linkEmb m.length bs.length ι ιc') := fun b l hb => by
    have : b < m.length := by
      rcases Nat.lt_or_ge b m.length with h | h
      · exact h
      · rw [hR.dom b h] at hb; cases hb
    rw [lold b this]; exact hb
  have pick : ∀ {b : Nat} {own : Bool} {x : Arr}, (linkOut bs m v mc').2[b]? = some (.row own x) →
      (b < m.length ∧ m[b]? = some (.row own x) ∧ (own = true → b ∉ bs)) ∨
      (b < m.length ∧ ∃ (j : Nat) (x0 y : Arr), bs[j]? = some b ∧ m[b]? = some (.row true x0) ∧ mc'[j]? = some (.row own y) ∧ x = y.ren (backRen bs m.length)) ∨
      (m.length ≤ b ∧ ∃ y : Arr, mc'[b - m.length + bs.length]? = some (.row own y) ∧ x = y.ren (backRen bs m.length)) := by
    intro b own x hb
    simp only [linkOut] at hb
    by_cases hbm : b < m.length
    · rw [List.getElem?_append_left (by rw [backRows_length]; exact hbm), backRows_get, Nat.zero_add] at hb
      obtain ⟨r, hr, e⟩ := Option.map_eq_some_iff.1 hb
      split at e
      · rename_i x0
        split at e
        · rename_i j hj
          obtain ⟨_, hj2⟩ := idx_some hj
          rw [Nat.sub_zero] at hj2
          obtain ⟨y, hy, hx⟩ := row_ren e
          exact .inr (.inl ⟨hbm, j, x0, y, hj2, hr, getD_row hy, hx⟩)
        · rename_i hj
          cases e
          refine .inl ⟨hbm, hr, fun _ hmem => ?_⟩
          have none_mem : ∀ (l : List Nat) (i : Nat), idx b l i = none → b ∉ l := by
            intro l
            induction l with
            | nil => intro i _ h; cases h
            | cons y l ih =>
              intro i hi hm
              unfold idx at hi
              split at hi
              · cases hi
              · rename_i hne
                rcases List.mem_cons.1 hm with e | e
                · exact hne e.symm
                · exact ih _ hi e
          exact none_mem bs 0 hj hmem
      · cases e
        rename_i hne
        refine .inl ⟨hbm, hr, fun ho => ?_⟩
        subst ho
        exact absurd rfl (hne x)
    · rw [List.getElem?_append_right (by rw [backRows_length]; omega), backRows_length, List.getElem?_map, List.getElem?_drop] at hb
      obtain ⟨r, hr, e⟩ := Option.map_eq_some_iff.1 hb
      obtain ⟨y, rfl, hx⟩ := row_ren e
      refine .inr (.inr ⟨by omega, y, ?_, hx⟩)
      rw [Nat.add_comm]; exact hr
  -- what the callee may write
  have callee : ∀ c, Owned (canEmb 0 bs ι) (canMem 0 m bs) c → ∃ (b : Nat) (l : Loc) (x : Arr), b ∈ bs ∧ ι b = some l ∧ m[b]? = some (.row true x) ∧ l.c = c := by
    rintro c ⟨j, l, x, hj, hm, rfl⟩
    obtain ⟨b, y, hy, _, hb⟩ := canMem_row (Nat.zero_le _) hm
    rcases hb with ⟨hb, _⟩ | ⟨_, hb⟩
    · omega
    · rw [Nat.sub_zero] at hb
      rw [emb0 j b hb] at hj
      exact ⟨b, l, y, List.mem_of_getElem? hb, hj, hy, rfl⟩
  have calleeOwned : ∀ c, Owned (canEmb 0 bs ι) (canMem 0 m bs) c → Owned ι m c := fun c hc => by
    obtain ⟨b, l, x, _, hb, hm, rfl⟩ := callee c hc
    exact ⟨b, l, x, hb, hm, rfl⟩
  have apart : ∀ {b : Nat} {l : Loc} {own : Bool} {x : Arr}, ι b = some l → m[b]? = some (.row own x) → (own = true → b ∉ bs) → ¬ Owned (canEmb 0 bs ι) (canMem 0 m bs) l.c := by
    intro b l own x hb hm ho hc
    obtain ⟨b2, l2, x2, hmem, hb2, hm2, e⟩ := callee _ hc
    by_cases hbb : b2 = b
    · subst hbb
      rw [hm] at hm2
      cases hm2
      exact ho rfl hmem
    · exact hR.inj b2 b l2 l true own x2 x hbb hb2 hb hm2 hm (.inl rfl) e
  have news : ∀ {i : Nat} {l : Loc} {own : Bool} {y : Arr}, bs.length ≤ i → ιc' i = some l → mc'[i]? = some (.row own y) → w.heap.size ≤ l.c ∨ Owned (canEmb 0 bs ι) (canMem 0 m bs) l.c := by
    intro i l own y hi h1 h2
    rcases h.news i l own y hi h1 h2 with h3 | h3 | ⟨b0, l0, o0, x0, hb0, _, h5, _⟩
    · exact .inl h3
    · exact .inr h3
    · exact (no_row (by rw [hcl]; exact hb0) h5).elim
  have fromB : ∀ {b j : Nat} {l : Loc}, b < m.length → bs[j]? = some b → linkEmb m.length bs.length ι ιc' b = some l → ι b = some l ∧ ιc' j = some l := by
    intro b j l hb hj h1
    rw [lold b hb] at h1
    have hj' : j < bs.length := (List.getElem?_eq_some_iff.1 hj).1
    exact ⟨h1, by rw [h.ext j hj', emb0 j b hj]; exact h1⟩
  refine ⟨AV.ren_rel same hv, ⟨fun b hb => ?_, fun b l own x h1 h2 => ?_, fun b b' l l' own own' x x' hne h1 h1' h2 h2' ho => ?_⟩, ⟨h.trans.os, h.trans.tape, h.trans.output, h.trans.size, fun c hc hn => h.trans.keep c hc (fun hq => hn (calleeOwned c hq)), fun c hc => ?_⟩,
    fun b hb => lold b hb, by simp [linkOut, backRows_length], fun b x hb hm => ?_, fun b own x hb hm => ?_, fun b l own x hb h1 h2 => ?_⟩
  · have hl := h.len
    simp only [linkOut, List.length_append, backRows_length, List.length_map, List.length_drop] at hb
    rw [lnew b (by omega)]
    exact h.r.dom _ (by omega)
  · rcases pick h2 with ⟨hb, hm, ho⟩ | ⟨hb, j, x0, y, hj, hm, hy, rfl⟩ | ⟨hb, y, hy, rfl⟩
    · rw [lold b hb] at h1
      obtain ⟨cs, t, fr, k1, k2, k3, k4⟩ := hR.rows b l own x h1 hm
      exact ⟨cs, t, fr, by rw [h.trans.keep l.c (hR.lt h1 hm) (apart h1 hm ho)]; exact k1, k2, k3.mono' hle, k4⟩
    · obtain ⟨h3, h4⟩ := fromB hb hj h1
      obtain ⟨cs, t, fr, k1, k2, k3, k4⟩ := h.r.rows j l own y h4 hy
      exact ⟨cs, t, fr, k1, by rw [Arr.ren_size]; exact k2, Arr.ren_rel same k3, k4⟩
    · rw [lnew b hb] at h1
      obtain ⟨cs, t, fr, k1, k2, k3, k4⟩ := h.r.rows _ l own y h1 hy
      exact ⟨cs, t, fr, k1, by rw [Arr.ren_size]; exact k2, Arr.ren_rel same k3, k4⟩
  · rcases pick h2 with ⟨hb, hm, hq⟩ | ⟨hb, j, x0, y, hj, hm, hy, _⟩ | ⟨hb, y, hy, _⟩ <;> rcases pick h2' with ⟨hb', hm', hq'⟩ | ⟨hb', j', x0', y', hj', hm', hy', _⟩ | ⟨hb', y', hy', _⟩
    · rw [lold b hb] at h1; rw [lold b' hb'] at h1'
      exact hR.inj b b' l l' own own' x x' hne h1 h1' hm hm' ho
    · rw [lold b hb] at h1; rw [lold b' hb'] at h1'
      exact hR.inj b b' l l' own true x x0' hne h1 h1' hm hm' (.inr rfl)
    · rw [lold b hb] at h1; rw [lnew b' hb'] at h1'
      rcases news (by omega) h1' hy' with h3 | h3
      · have := hR.lt h1 hm; omega
      · exact fun e => apart h1 hm hq (by rw [e]; exact h3)
    · rw [lold b hb] at h1; rw [lold b' hb'] at h1'
      exact hR.inj b b' l l' true own' x0 x' hne h1 h1' hm hm' (.inl rfl)
    · rw [lold b hb] at h1; rw [lold b' hb'] at h1'
      exact hR.inj b b' l l' true true x0 x0' hne h1 h1' hm hm' (.inl rfl)
    · obtain ⟨_, h4⟩ := fromB hb hj h1
      rw [lnew b' hb'] at h1'
      have hj2 : j < bs.length := (List.getElem?_eq_some_iff.1 hj).1
      exact h.r.inj j _ l l' own own' y y' (by omega) h4 h1' hy hy' ho
    · rw [lnew b hb] at h1; rw [lold b' hb'] at h1'
      rcases news (by omega) h1 hy with h3 | h3
      · have := hR.lt h1' hm'; omega
      · exact fun e => apart h1' hm' hq' (by rw [← e]; exact h3)
    · obtain ⟨_, h4⟩ := fromB hb' hj' h1'
      rw [lnew b hb] at h1
      have hj2 : j' < bs.length := (List.getElem?_eq_some_iff.1 hj').1
      exact h.r.inj _ j' l l' own own' y y' (by omega) h1 h4 hy hy' ho
    · rw [lnew b hb] at h1; rw [lnew b' hb'] at h1'
      exact h.r.inj _ _ l l' own own' y y' (by omega) h1 h1' hy hy' ho
  · obtain ⟨b, l, x, h1, h2, rfl⟩ := hc
    rcases pick h2 with ⟨hb, hm, hq⟩ | ⟨hb, j, x0, y, hj, hm, hy, _⟩ | ⟨hb, y, hy, _⟩
    · rw [lold b hb] at h1; exact .inr ⟨b, l, x, h1, hm, rfl⟩
    · rw [lold b hb] at h1; exact .inr ⟨b, l, x0, h1, hm, rfl⟩
    · rw [lnew b hb] at h1
      rcases h.trans.fresh l.c ⟨_, l, y, h1, hy, rfl⟩ with h3 | h3
      · exact .inl h3
      · exact .inr (calleeOwned _ h3)
  · simp only [linkOut]
    rw [List.getElem?_append_left (by rw [backRows_length]; exact hb), backRows_get, hm]
    rfl
  · rcases pick hm with ⟨_, hm, _⟩ | ⟨_, j, x0, y, hj, hm, hy, _⟩ | ⟨hb', _⟩
    · exact ⟨x, hm⟩
    · obtain ⟨x1, hx1⟩ := h.old j own y (List.getElem?_eq_some_iff.1 hj).1 hy
      obtain ⟨b2, y2, hy2, _, hb2⟩ := canMem_row (Nat.zero_le _) hx1
      rcases hb2 with ⟨hb2, _⟩ | ⟨_, hb2⟩
      · omega
      · rw [Nat.sub_zero, hj] at hb2
        cases hb2
        exact ⟨y2, hy2⟩
    · omega
  · rcases pick h2 with ⟨hb', _⟩ | ⟨hb', _⟩ | ⟨_, y, hy, _⟩
    · omega
    · omega
    · rw [lnew b hb] at h1
      rcases news (by omega) h1 hy with h3 | h3
      · exact .inl h3
      · exact .inr (.inl (calleeOwned _ h3))
end Go.Proofs.Ytlnekohkbhidnaa
