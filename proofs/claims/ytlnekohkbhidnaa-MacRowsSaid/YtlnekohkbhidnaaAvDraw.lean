/- Abstract data: a region whose order Go leaves open is told by one order. -/
import Derived.Test.YtlnekohkbhidnaaAvLink
namespace Go.Proofs.Ytlnekohkbhidnaa
open Go.RowKit

def Emb.upto (c : Nat) (ι : Emb) : Emb := fun b => if b < c then ι b else none
theorem upto_le (c : Nat) (ι : Emb) : (ι.upto c).le ι := fun b l h => by
  unfold Emb.upto at h
  split at h
  · exact h
  · cases h
theorem upto_mono {c : Nat} {ι ι' : Emb} (h : ι.le ι') : (ι.upto c).le (ι'.upto c) := fun b l hb => by
  unfold Emb.upto at hb ⊢
  split at hb
  · rename_i hc; rw [if_pos hc]; exact h b l hb
  · cases hb
theorem upto_up {c c' : Nat} (ι : Emb) (h : c ≤ c') : (ι.upto c).le (ι.upto c') := fun b l hb => by
  unfold Emb.upto at hb ⊢
  split at hb
  · rw [if_pos (by omega)]; exact hb
  · cases hb
theorem roMem_row {m : Mem} {b : Nat} {own : Bool} {x : Arr} (h : (roMem m)[b]? = some (.row own x)) : own = false ∧ ∃ o, m[b]? = some (.row o x) := by
  unfold roMem at h
  rw [List.getElem?_map] at h
  obtain ⟨r, hr, e⟩ := Option.map_eq_some_iff.1 h
  cases r with
  | dead => cases e
  | row o y => cases e; exact ⟨rfl, o, hr⟩
theorem roMem_length (m : Mem) : (roMem m).length = m.length := by simp [roMem]
/-- What the walk in the order of the text has. -/
structure Line (ops : Array Oper) (n : Nat) (A : Nat → St) (W : Nat → Bool) (V : Nat → AV) (N : Nat → Mem) (N0 : Nat) : Prop where
  hn : n ≤ ops.size
  h0 : (A 0).n = N0
  step : ∀ i o, i < n → ops[i]? = some o → A (i + 1) = if W i = true then ⟨N0, putT (A i).t o.dst (V i), (A i).m ++ N i⟩ else ⟨N0, putT (A i).t o.dst (.c .any), (A i).m⟩
section
variable {ops : Array Oper} {n : Nat} {A : Nat → St} {W : Nat → Bool} {V : Nat → AV} {N : Nat → Mem} {N0 : Nat}
theorem Line.at (h : Line ops n A W V N N0) {i : Nat} (hi : i < n) : ∃ o, ops[i]? = some o := ⟨ops[i]'(by have := h.hn; omega), Array.getElem?_eq_getElem _⟩
theorem Line.mem1 (h : Line ops n A W V N N0) {i : Nat} (hi : i < n) : (A i).m.length ≤ (A (i + 1)).m.length ∧ ∀ b, b < (A i).m.length → (A (i + 1)).m[b]? = (A i).m[b]? := by
  obtain ⟨o, ho⟩ := h.at hi
  rw [h.step i o hi ho]
  split
  · exact ⟨by simp, fun b hb => List.getElem?_append_left hb⟩
  · exact ⟨Nat.le_refl _, fun b _ => rfl⟩
theorem Line.mem (h : Line ops n A W V N N0) {i : Nat} : ∀ d, i + d ≤ n → (A i).m.length ≤ (A (i + d)).m.length ∧ ∀ b, b < (A i).m.length → (A (i + d)).m[b]? = (A i).m[b]?
  | 0, _ => ⟨Nat.le_refl _, fun _ _ => rfl⟩
  | d + 1, hd => by
    obtain ⟨h1, h2⟩ := Line.mem h (i := i) d (by omega)
    obtain ⟨h3, h4⟩ := h.mem1 (i := i + d) (by omega)
    exact ⟨Nat.le_trans h1 h3, fun b hb => by rw [show i + (d + 1) = i + d + 1 by omega, h4 b (by omega), h2 b hb]⟩
theorem Line.len (h : Line ops n A W V N N0) {i j : Nat} (hij : i ≤ j) (hj : j ≤ n) : (A i).m.length ≤ (A j).m.length := by
  have := (h.mem (i := i) (j - i) (by omega)).1
  rwa [show i + (j - i) = j by omega] at this
theorem Line.row (h : Line ops n A W V N N0) {i j b : Nat} (hij : i ≤ j) (hj : j ≤ n) (hb : b < (A i).m.length) : (A j).m[b]? = (A i).m[b]? := by
  have := (h.mem (i := i) (j - i) (by omega)).2 b hb
  rwa [show i + (j - i) = j by omega] at this
theorem Line.tmp1 (h : Line ops n A W V N N0) {i : Nat} (hi : i < n) {t : Nat} (ht : dstAt ops i ≠ some t) : (A (i + 1)).t t = (A i).t t := by
  obtain ⟨o, ho⟩ := h.at hi
  have hd : dstAt ops i = o.dst := by simp [dstAt, ho]
  rw [hd] at ht
  rw [h.step i o hi ho]
  have key : ∀ v, putT (A i).t o.dst v t = (A i).t t := by
    intro v
    cases hdd : o.dst with
    | none => rfl
    | some d =>
      rw [hdd] at ht
      exact upd_ne _ _ (fun e => ht (by rw [e]))
  split
  · exact key _
  · exact key _
theorem Line.tmp (h : Line ops n A W V N N0) {i t : Nat} : ∀ d, i + d ≤ n → (∀ j, i ≤ j → j < i + d → dstAt ops j ≠ some t) → (A (i + d)).t t = (A i).t t
  | 0, _, _ => rfl
  | d + 1, hd, hno => by
    rw [show i + (d + 1) = i + d + 1 by omega, h.tmp1 (by omega) (hno _ (by omega) (by omega)), Line.tmp h d (by omega) fun j h1 h2 => hno j h1 (by omega)]
theorem Line.slot (h : Line ops n A W V N N0) {i j t : Nat} (hij : i ≤ j) (hj : j ≤ n) (hno : ∀ l, i ≤ l → l < j → dstAt ops l ≠ some t) : (A j).t t = (A i).t t := by
  have := h.tmp (i := i) (t := t) (j - i) (by omega) (fun l h1 h2 => hno l h1 (by omega))
  rwa [show i + (j - i) = j by omega] at this

/-- A row leads to rows that were there when it was made. -/
def CellsUp (n : Nat) (A : Nat → St) (ι : Emb) (w : World) : Prop := ∀ i b l own x, i ≤ n → b < (A i).m.length → ι b = some l → (A n).m[b]? = some (.row own x) → ∀ cs t fr, w.heap[l.c]? = some (.cells cs t fr) → x.relAt (ι.upto (A i).m.length) cs l.off
structure InvD (ops : Array Oper) (n : Nat) (A : Nat → St) (ι0 : Emb) (w0 : World) (a0 : Act) (listed : Array Bool) (ι : Emb) (a : Act) (w : World) : Prop where
  low : ∀ b, b < (A 0).m.length → ι b = ι0 b
  seg : ∀ b l, ι b = some l → b < (A 0).m.length ∨ ∃ j, j < n ∧ listed.getD j false = true ∧ (A j).m.length ≤ b ∧ b < (A (j + 1)).m.length
  r : R ι (A n).m w
  hit : ∀ j, j < n → listed.getD j false = true → ∀ d, dstAt ops j = some d → ((A (j + 1)).t d).rel (ι.upto (A (j + 1)).m.length) (a.tmps.getD d undef)
  miss : ∀ t, (∀ j, j < n → listed.getD j false = true → dstAt ops j ≠ some t) → a.tmps.getD t undef = a0.tmps.getD t undef
  size : a.tmps.size = a0.tmps.size
  defers : a.defers = a0.defers
  head : HeadInv .any ops n listed
  ext : Below w0.heap.size w0 w
  fresh : ∀ b l own x, (A 0).m.length ≤ b → ι b = some l → (A n).m[b]? = some (.row own x) → w0.heap.size ≤ l.c
  cells : CellsUp n A ι w

theorem InvD.next (hl : Line ops n A W V N N0) {ι0 : Emb} {w0 : World} {a0 : Act} (hok : OkX ops n a0.tmps.size) {listed : Array Bool} {ι : Emb} {a : Act} {w : World} (h : InvD ops n A ι0 w0 a0 listed ι a w)
    {i : Nat} (hi : i ∈ Region.ready .any ops listed) (hin : i < n) {o : Oper} (ho : ops[i]? = some o) {ι' : Emb} {u : Value} {w' : World} (hle : ι.le ι')
    (hseg : ∀ b, ¬ ((A i).m.length ≤ b ∧ b < (A (i + 1)).m.length) → ι' b = ι b) (hr : R ι' (A n).m w') (hu : ∀ d, o.dst = some d → ((A (i + 1)).t d).rel (ι'.upto (A (i + 1)).m.length) u) (hext : Below w.heap.size w w')
    (hfr : ∀ b l own x, (A i).m.length ≤ b → b < (A (i + 1)).m.length → ι' b = some l → (A n).m[b]? = some (.row own x) → w.heap.size ≤ l.c)
    (hce : ∀ b l own x, (A i).m.length ≤ b → b < (A (i + 1)).m.length → ι' b = some l → (A n).m[b]? = some (.row own x) → ∀ cs t fr, w'.heap[l.c]? = some (.cells cs t fr) → x.relAt (ι'.upto (A (i + 1)).m.length) cs l.off) :
    InvD ops n A ι0 w0 a0 (listed.setIfInBounds i true) ι' (a.put o.dst u) w' := by
  have hrd := mem_ready.1 hi
  have hun : listed.getD i false = false := getD_both hrd.1
  have his : i < listed.size := by rw [h.head.size]; exact (Array.getElem?_eq_some_iff.1 ho).1
  have hd : dstAt ops i = o.dst := by simp [dstAt, ho]
  have hset : ∀ j, (listed.setIfInBounds i true).getD j false = true → j = i ∨ listed.getD j false = true := fun j hj => by
    by_cases hji : i = j
    · exact .inl hji.symm
    · rw [getD_set_ne false hji] at hj; exact .inr hj
  have hseti : (listed.setIfInBounds i true).getD i false = true := by simp [his]
  have h0i := hl.len (Nat.zero_le i) (Nat.le_of_lt hin)
  refine ⟨fun b hb => by rw [hseg b (by omega), h.low b hb], fun b l hb => ?_, hr, fun j hj hlj d hdj => ?_, fun t ht => ?_, by rw [show (a.put o.dst u).tmps.size = a.tmps.size by cases o.dst <;> simp [Act.put]]; exact h.size, by rw [show (a.put o.dst u).defers = a.defers by cases o.dst <;> rfl]; exact h.defers, h.head.set hi hin, h.ext.trans (Below.mono hext h.ext.size), fun b l own x hb h1 h2 => ?_, fun j b l own x hj hb h1 h2 cs t fr hh => ?_⟩
  · by_cases hs : (A i).m.length ≤ b ∧ b < (A (i + 1)).m.length
    · exact .inr ⟨i, hin, hseti, hs⟩
    · rw [hseg b hs] at hb
      rcases h.seg b l hb with h1 | ⟨j, h1, h2, h3⟩
      · exact .inl h1
      · exact .inr ⟨j, h1, getD_set_true h2, h3⟩
  · by_cases hji : j = i
    · subst hji
      rw [hd] at hdj
      rw [hdj, getD_put a d d u (by rw [h.size]; exact hok.lt j d hj (by rw [hd]; exact hdj)), if_pos rfl]
      exact hu d hdj
    · have hlj' := (hset j hlj).resolve_left hji
      have hne : o.dst ≠ some d := fun e => hji (hok.uniq j i d hj hin hdj (by rw [hd]; exact e))
      have hg : (a.put o.dst u).tmps.getD d undef = a.tmps.getD d undef := by
        cases hod : o.dst with
        | none => rfl
        | some d' =>
          rw [hod] at hne
          simp only [Act.put, Array.getD_eq_getD_getElem?]
          rw [Array.getElem?_setIfInBounds_ne (fun e => hne (by rw [e]))]
      rw [hg]
      exact AV.rel_mono (upto_mono hle) (h.hit j hj hlj' d hdj)
  · have h1 : o.dst ≠ some t := by rw [← hd]; exact ht i hin hseti
    have hg : (a.put o.dst u).tmps.getD t undef = a.tmps.getD t undef := by
      cases hod : o.dst with
      | none => rfl
      | some d' =>
        rw [hod] at h1
        simp only [Act.put, Array.getD_eq_getD_getElem?]
        rw [Array.getElem?_setIfInBounds_ne (fun e => h1 (by rw [e]))]
    rw [hg]
    exact h.miss t fun j hj hlj => ht j hj (getD_set_true hlj)
  · by_cases hs : (A i).m.length ≤ b ∧ b < (A (i + 1)).m.length
    · exact Nat.le_trans h.ext.size (hfr b l own x hs.1 hs.2 h1 h2)
    · rw [hseg b hs] at h1
      exact h.fresh b l own x hb h1 h2
  · by_cases hs : (A i).m.length ≤ b ∧ b < (A (i + 1)).m.length
    · have hij : i + 1 ≤ j := by
        rcases Nat.lt_or_ge i j with h' | h'
        · exact h'
        · have := hl.len h' (Nat.le_of_lt hin); omega
      exact Arr.relAt_mono (upto_up ι' (hl.len hij hj)) (hce b l own x hs.1 hs.2 h1 h2 cs t fr hh)
    · rw [hseg b hs] at h1
      have hlt := h.r.lt h1 h2
      rw [hext.block l.c hlt] at hh
      exact Arr.relAt_mono (upto_mono hle) (h.cells j b l own x hj hb h1 h2 cs t fr hh)

theorem upto_ro (hl : Line ops n A W V N N0) {ι : Emb} {w : World} (hR : R ι (A n).m w) (hc : CellsUp n A ι w) {i : Nat} (hi : i ≤ n) : R (ι.upto (A i).m.length) (roMem (A i).m) w := by
  refine ⟨fun b hb => if_neg (by rw [roMem_length] at hb; omega), fun b l own x h1 h2 => ?_, fun b b' l l' own own' x x' hne h1 h2 k1 k2 ho => ?_⟩
  · obtain ⟨rfl, o, hm⟩ := roMem_row h2
    have hb : b < (A i).m.length := (List.getElem?_eq_some_iff.1 hm).1
    have h1' : ι b = some l := upto_le _ _ b l h1
    have hm' : (A n).m[b]? = some (.row o x) := by rw [hl.row hi (Nat.le_refl _) hb]; exact hm
    obtain ⟨cs, t, fr, k1, k2, k3, k4⟩ := hR.rows b l o x h1' hm'
    exact ⟨cs, t, fr, k1, k2, hc i b l o x hi hb h1' hm' cs t fr k1, fun h => by cases h⟩
  · obtain ⟨rfl, _⟩ := roMem_row k1
    obtain ⟨rfl, _⟩ := roMem_row k2
    rcases ho with h | h <;> cases h
theorem ro_owned {ι : Emb} {m : Mem} {c : Nat} (h : Owned ι (roMem m) c) : False := by
  obtain ⟨b, l, x, _, hm, _⟩ := h
  obtain ⟨h, _⟩ := roMem_row hm
  cases h
theorem ro_R {ι : Emb} {m : Mem} {w : World} (h : R ι m w) : R ι (roMem m) w := by
  refine ⟨fun b hb => h.dom b (by rw [roMem_length] at hb; exact hb), fun b l own x h1 h2 => ?_, fun b b' l l' own own' x x' _ _ _ k1 k2 ho => ?_⟩
  · obtain ⟨rfl, o, hm⟩ := roMem_row h2
    obtain ⟨cs, t, fr, g1, g2, g3, _⟩ := h.rows b l o x h1 hm
    exact ⟨cs, t, fr, g1, g2, g3, fun h => by cases h⟩
  · obtain ⟨rfl, _⟩ := roMem_row k1
    obtain ⟨rfl, _⟩ := roMem_row k2
    rcases ho with h | h <;> cases h
/-- What only adds rows may be told of a memory that nobody may write. -/
theorem ro_step {ι ι' : Emb} {m N : Mem} {w w' : World} (hR : R ι m w) (h : Step m.length ι (roMem m) w ι' (roMem m ++ N) w') : Step m.length ι m w ι' (m ++ N) w' := by
  have hle : ι.le ι' := fun b l hb => by
    have : b < m.length := by
      rcases Nat.lt_or_ge b m.length with h' | h'
      · exact h'
      · rw [hR.dom b h'] at hb; cases hb
    rw [h.ext b this]; exact hb
  have new : ∀ {b own x}, m.length ≤ b → (m ++ N)[b]? = some (.row own x) → (roMem m ++ N)[b]? = some (.row own x) := fun {b own x} hb hm => by
    rw [List.getElem?_append_right hb] at hm
    rw [List.getElem?_append_right (by rw [roMem_length]; exact hb), roMem_length]; exact hm
  have old : ∀ {b own x}, b < m.length → (m ++ N)[b]? = some (.row own x) → m[b]? = some (.row own x) := fun {b own x} hb hm => by rw [List.getElem?_append_left hb] at hm; exact hm
  have far : ∀ {b l own x}, m.length ≤ b → ι' b = some l → (m ++ N)[b]? = some (.row own x) → w.heap.size ≤ l.c := fun {b l own x} hb hl hm => by
    rcases h.news b l own x hb hl (new hb hm) with h3 | h3 | ⟨b0, l0, o0, x0, h4, h5, h6, _⟩
    · exact h3
    · exact (ro_owned h3).elim
    · exact (no_row (by rw [roMem_length]; exact h4) h6).elim
  refine ⟨⟨fun b hb => h.r.dom b (by simpa [roMem_length] using hb), fun b l own x hb hm => ?_, fun b b' l l' own own' x x' hne hb hb' hm hm' hoo => ?_⟩, ⟨h.trans.os, h.trans.tape, h.trans.output, h.trans.size, fun c hc _ => h.trans.keep c hc ro_owned, fun c hc => ?_⟩, h.ext, by simp, fun b x hb hm => by rw [List.getElem?_append_left hb]; exact hm, fun b own x hb hm => ⟨x, old hb hm⟩, fun b l own x hb h1 h2 => .inl (far hb h1 h2)⟩
  · rcases Nat.lt_or_ge b m.length with hs | hs
    · rw [h.ext b hs] at hb
      obtain ⟨cs, t, fr, k1, k2, k3, k4⟩ := hR.rows b l own x hb (old hs hm)
      exact ⟨cs, t, fr, by rw [h.trans.keep l.c (hR.lt hb (old hs hm)) ro_owned]; exact k1, k2, k3.mono' hle, k4⟩
    · exact h.r.rows b l own x hb (new hs hm)
  · rcases Nat.lt_or_ge b m.length with hs | hs <;> rcases Nat.lt_or_ge b' m.length with hs' | hs'
    · rw [h.ext b hs] at hb
      rw [h.ext b' hs'] at hb'
      exact hR.inj b b' l l' own own' x x' hne hb hb' (old hs hm) (old hs' hm') hoo
    · rw [h.ext b hs] at hb
      have h1 := hR.lt hb (old hs hm)
      have h2 := far hs' hb' hm'
      omega
    · rw [h.ext b' hs'] at hb'
      have h1 := hR.lt hb' (old hs' hm')
      have h2 := far hs hb hm
      omega
    · exact h.r.inj b b' l l' own own' x x' hne hb hb' (new hs hm) (new hs' hm') hoo
  · obtain ⟨b, l, x, hb, hm, rfl⟩ := hc
    rcases Nat.lt_or_ge b m.length with hs | hs
    · rw [h.ext b hs] at hb
      exact .inr ⟨b, l, x, hb, old hs hm, rfl⟩
    · exact .inl (far hs hb hm)
/-- The abstract frame and the frame as it is agree on what a ready operation looks at. -/
theorem InvD.agree (hl : Line ops n A W V N N0) {ι0 : Emb} {w0 : World} {a0 : Act} (hok : OkX ops n a0.tmps.size) (hf : FRel ι0 (A 0) a0) (hR0 : R ι0 (A 0).m w0) {listed : Array Bool} {ι : Emb} {a : Act} {w : World} (h : InvD ops n A ι0 w0 a0 listed ι a w)
    {i : Nat} (hin : i < n) {o : Oper} (ho : ops[i]? = some o) (hb : ∀ j, bef ops i j = true → listed.getD j false = true) (hun : listed.getD i false = false) :
    ∀ t ∈ o.looksAt ops, ((A i).t t).rel (ι.upto (A i).m.length) (a.tmps.getD t undef) := by
  intro t ht
  have hlow : ι0.le (ι.upto (A i).m.length) := fun b l hbl => by
    have hb0 : b < (A 0).m.length := by
      rcases Nat.lt_or_ge b (A 0).m.length with h' | h'
      · exact h'
      · rw [hR0.dom b h'] at hbl; cases hbl
    have := hl.len (Nat.zero_le i) (Nat.le_of_lt hin)
    unfold Emb.upto
    rw [if_pos (by omega), h.low b hb0]; exact hbl
  by_cases hex : ∃ j, j < n ∧ dstAt ops j = some t
  · obtain ⟨j, hj, hd⟩ := hex
    rcases hok.look i o t j hin ho ht hj hd with ⟨hji, hbij⟩ | ⟨hij, hbji⟩
    · have hlj := hb j hbij
      rw [hl.slot (i := j + 1) (by omega) (Nat.le_of_lt hin) (fun l h1 h2 hd' => by have := hok.uniq l j t (by omega) hj hd' hd; omega)]
      exact AV.rel_mono (upto_up ι (hl.len (show j + 1 ≤ i by omega) (Nat.le_of_lt hin))) (h.hit j hj hlj t hd)
    · have hnl : listed.getD j false ≠ true := fun hlt => by
        have hjs : j < ops.size := by have := hl.hn; omega
        have := bef_spec h.head.closed hbji (Array.getElem?_eq_getElem hjs) (h.head.closed j _ (Array.getElem?_eq_getElem hjs) hlt)
        rw [hun] at this; cases this
      rw [h.miss t (fun j' hj' hl' hd' => hnl (by rw [← hok.uniq j' j t hj' hj hd' hd]; exact hl')), hl.slot (i := 0) (Nat.zero_le i) (Nat.le_of_lt hin) (fun l _ h2 hd' => by have := hok.uniq l j t (by omega) hj hd' hd; omega)]
      exact AV.rel_mono hlow (hf.rel t)
  · have hno : ∀ j, j < n → dstAt ops j ≠ some t := fun j hj hd => hex ⟨j, hj, hd⟩
    rw [h.miss t (fun j hj _ => hno j hj), hl.slot (i := 0) (Nat.zero_le i) (Nat.le_of_lt hin) (fun l _ h2 => hno l (by omega))]
    exact AV.rel_mono hlow (hf.rel t)
/-- A ready operation runs. -/
theorem InvD.run {P : Program} {Q' : Exit → Act → World → Prop} (hl : Line ops n A W V N N0) (hW : ∀ i o, i < n → ops[i]? = some o → evWanted ops (A i).t o = some (W i))
    (hV : ∀ i o, i < n → ops[i]? = some o → W i = true → Sound P (.op o.op (opnd (A i).t) (roMem (A i).m)) (.val (V i) (roMem (A i).m ++ N i)))
    {ι0 : Emb} {w0 : World} {a0 : Act} (hok : OkX ops n a0.tmps.size) (hf : FRel ι0 (A 0) a0) (hR0 : R ι0 (A 0).m w0) {listed : Array Bool} {ι : Emb} {a : Act} {w : World} (h : InvD ops n A ι0 w0 a0 listed ι a w)
    {i : Nat} (hi : i ∈ Region.ready .any ops listed) (hin : i < n) {K : Act → World → Prop} (hK : ∀ ι' a' w', InvD ops n A ι0 w0 a0 (listed.setIfInBounds i true) ι' a' w' → K a' w') : wpOp P ops Q' i K a w := by
  have hr := mem_ready.1 hi
  have hun : listed.getD i false = false := getD_both hr.1
  obtain ⟨_, o, ho, hall⟩ := hr
  have hdeps : ∀ j, bef ops i j = true → listed.getD j false = true := fun j hb => bef_spec h.head.closed hb ho hall
  have hag := h.agree hl hok hf hR0 hin ho hdeps hun
  have hwant : Region.wanted o (yielded ops a.tmps) = W i := by
    refine wanted_rel (ι := ι.upto (A i).m.length) (fun d ⟨g, hg, hd⟩ => hag d ?_) (hW i o hin ho)
    obtain ⟨g1, g2⟩ := g
    simp [Oper.looksAt, hg]
    exact .inr (by simpa using hd)
  have hRi := upto_ro hl h.r h.cells (Nat.le_of_lt hin)
  have hopnd : ∀ x ∈ o.op.operands, (opnd (A i).t x).rel (ι.upto (A i).m.length) (a.eval x) := by
    intro x hx
    cases x with
    | tmp t =>
      exact hag t (List.mem_append_left _ (List.mem_filterMap.2 ⟨.tmp t, by simpa using hx, rfl⟩))
    | const v => exact AV.rel_of0 (absV_rel _ v)
    | global g => trivial
    | func f => rfl
  have hstep := hl.step i o hin ho
  unfold wpOp
  simp only [ho]
  rw [hwant]
  by_cases hw : W i = true
  · rw [hw, if_pos rfl]
    rw [if_pos hw] at hstep
    refine .inl ?_
    have hgood := hV i o hin ho hw o (ι.upto (A i).m.length) w a.eval rfl hRi hopnd
    refine hgood.wp rfl fun u w' ι1 hv hst => ?_
    have hlenA : (A (i + 1)).m.length = (roMem (A i).m ++ N i).length := by rw [hstep]; simp [roMem_length]
    have hlo : (A i).m.length ≤ (A (i + 1)).m.length := (hl.mem1 hin).1
    have hhi : (A (i + 1)).m.length ≤ (A n).m.length := hl.len (by omega) (Nat.le_refl _)
    rw [roMem_length] at hst
    -- the places of all that has been made
    have hle1 : ∀ b l, ι1 b = some l → b < (A (i + 1)).m.length := fun b l hb => by
      rcases Nat.lt_or_ge b (A (i + 1)).m.length with h' | h'
      · exact h'
      · rw [hst.r.dom b (by rw [← hlenA]; exact h')] at hb; cases hb
    have segnone : ∀ b, (A i).m.length ≤ b → b < (A (i + 1)).m.length → ι b = none := fun b h1 h2 => by
      cases hb : ι b with
      | none => rfl
      | some l =>
        rcases h.seg b l hb with h3 | ⟨j, h3, h4, h5, h6⟩
        · have := hl.len (Nat.zero_le i) (Nat.le_of_lt hin); omega
        · have hij : j ≠ i := fun e => by rw [e, hun] at h4; cases h4
          rcases Nat.lt_or_ge j i with h7 | h7
          · have := hl.len (show j + 1 ≤ i by omega) (Nat.le_of_lt hin); omega
          · have := hl.len (show i + 1 ≤ j by omega) (Nat.le_of_lt h3); omega
    let ι2 : Emb := fun b => if (A i).m.length ≤ b ∧ b < (A (i + 1)).m.length then ι1 b else ι b
    have i2in : ∀ b, (A i).m.length ≤ b → b < (A (i + 1)).m.length → ι2 b = ι1 b := fun b h1 h2 => if_pos ⟨h1, h2⟩
    have i2out : ∀ b, ¬ ((A i).m.length ≤ b ∧ b < (A (i + 1)).m.length) → ι2 b = ι b := fun b hb => if_neg hb
    have hle : ι.le ι2 := fun b l hb => by
      by_cases hs : (A i).m.length ≤ b ∧ b < (A (i + 1)).m.length
      · rw [segnone b hs.1 hs.2] at hb; cases hb
      · rw [i2out b hs]; exact hb
    have h12 : ι1.le (ι2.upto (A (i + 1)).m.length) := fun b l hb => by
      have hlt := hle1 b l hb
      unfold Emb.upto
      rw [if_pos hlt]
      by_cases hs : (A i).m.length ≤ b
      · rw [i2in b hs hlt]; exact hb
      · rw [i2out b (by omega)]
        have := hst.ext b (by omega)
        rw [this] at hb
        exact upto_le _ _ b l hb
    have newrow : ∀ {b own x}, (A i).m.length ≤ b → b < (A (i + 1)).m.length → (A n).m[b]? = some (.row own x) → (roMem (A i).m ++ N i)[b]? = some (.row own x) := by
      intro b own x h1 h2 hm
      rw [hl.row (show i + 1 ≤ n by omega) (Nat.le_refl _) h2, hstep] at hm
      rw [List.getElem?_append_right (by omega)] at hm
      rw [List.getElem?_append_right (by rw [roMem_length]; omega), roMem_length]; exact hm
    have hext : Below w.heap.size w w' := ⟨hst.trans.os, hst.trans.tape, hst.trans.output, hst.trans.size, fun c hc => hst.trans.keep c hc ro_owned⟩
    have hfr : ∀ b l own x, (A i).m.length ≤ b → b < (A (i + 1)).m.length → ι2 b = some l → (A n).m[b]? = some (.row own x) → w.heap.size ≤ l.c := by
      intro b l own x h1 h2 hb hm
      rw [i2in b h1 h2] at hb
      rcases hst.news b l own x h1 hb (newrow h1 h2 hm) with h3 | h3 | ⟨b0, l0, o0, x0, h4, h5, h6, _⟩
      · exact h3
      · exact (ro_owned h3).elim
      · exact (no_row (by rw [roMem_length]; exact h4) h6).elim
    have hR2 : R ι2 (A n).m w' := by
      refine ⟨fun b hb => ?_, fun b l own x hb hm => ?_, fun b b' l l' own own' x x' hne hb hb' hm hm' hoo => ?_⟩
      · rw [i2out b (by omega)]; exact h.r.dom b hb
      · by_cases hs : (A i).m.length ≤ b ∧ b < (A (i + 1)).m.length
        · rw [i2in b hs.1 hs.2] at hb
          obtain ⟨cs, t, fr, k1, k2, k3, k4⟩ := hst.r.rows b l own x hb (newrow hs.1 hs.2 hm)
          exact ⟨cs, t, fr, k1, k2, Arr.relAt_mono (upto_le _ _) (Arr.relAt_mono h12 k3), k4⟩
        · rw [i2out b hs] at hb
          obtain ⟨cs, t, fr, k1, k2, k3, k4⟩ := h.r.rows b l own x hb hm
          exact ⟨cs, t, fr, by rw [hext.block l.c (h.r.lt hb hm)]; exact k1, k2, k3.mono' hle, k4⟩
      · by_cases hs : (A i).m.length ≤ b ∧ b < (A (i + 1)).m.length <;> by_cases hs' : (A i).m.length ≤ b' ∧ b' < (A (i + 1)).m.length
        · rw [i2in b hs.1 hs.2] at hb
          rw [i2in b' hs'.1 hs'.2] at hb'
          exact hst.r.inj b b' l l' own own' x x' hne hb hb' (newrow hs.1 hs.2 hm) (newrow hs'.1 hs'.2 hm') hoo
        · have h1 := hfr b l own x hs.1 hs.2 hb hm
          rw [i2out b' hs'] at hb'
          have h2 := h.r.lt hb' hm'
          omega
        · have h1 := hfr b' l' own' x' hs'.1 hs'.2 hb' hm'
          rw [i2out b hs] at hb
          have h2 := h.r.lt hb hm
          omega
        · rw [i2out b hs] at hb
          rw [i2out b' hs'] at hb'
          exact h.r.inj b b' l l' own own' x x' hne hb hb' hm hm' hoo
    refine hK ι2 _ _ (h.next hl hok hi hin ho hle i2out hR2 (fun d hd => ?_) hext hfr (fun b l own x h1 h2 hb hm cs t fr hh => ?_))
    · rw [hstep]
      show (putT (A i).t o.dst (V i) d).rel _ _
      rw [hd]
      show (upd (A i).t d (V i) d).rel _ _
      rw [upd_eq]
      have := AV.rel_mono h12 hv
      rw [hstep] at this
      exact this
    · rw [i2in b h1 h2] at hb
      obtain ⟨cs', t', fr', k1, k2, k3, k4⟩ := hst.r.rows b l own x hb (newrow h1 h2 hm)
      rw [hh] at k1; cases k1
      exact Arr.relAt_mono h12 k3
  · have hw' : W i = false := by cases hc : W i <;> simp_all
    rw [hw']
    rw [if_neg hw] at hstep
    have hm : (A (i + 1)).m = (A i).m := by rw [hstep]
    refine hK ι _ _ (h.next hl hok hi hin ho (fun _ _ h => h) (fun _ _ => rfl) h.r (fun d hd => ?_) (Below.refl _ _) (fun b l own x h1 h2 => by rw [hm] at h2; omega) (fun b l own x h1 h2 => by rw [hm] at h2; omega))
    rw [hstep]
    show (putT (A i).t o.dst (.c .any) d).rel _ _
    rw [hd]
    show (upd (A i).t d (.c .any) d).rel _ _
    rw [upd_eq]
    trivial

theorem InvD.any {P : Program} {Q' : Exit → Act → World → Prop} {k : Nat} (hl : Line ops n A W V N N0) (hW : ∀ i o, i < n → ops[i]? = some o → evWanted ops (A i).t o = some (W i))
    (hV : ∀ i o, i < n → ops[i]? = some o → W i = true → Sound P (.op o.op (opnd (A i).t) (roMem (A i).m)) (.val (V i) (roMem (A i).m ++ N i)))
    {ι0 : Emb} {w0 : World} {a0 : Act} (hall : Region.okAll ops n a0.tmps.size = true) (hf : FRel ι0 (A 0) a0) (hR0 : R ι0 (A 0).m w0) (hk : k ≤ (A 0).m.length)
    (hQ : ∀ ι' a' w', FRel ι' (A n) a' → a'.defers = a0.defers → Step k ι0 (A 0).m w0 ι' (A n).m w' → wpList P ops Q' (ops.toList.drop n) a' w') :
    ∀ (f : Nat) (un : List Nat) (listed : Array Bool) (ι : Emb) (a : Act) (w : World), un.length = f → un.Nodup → (∀ j, j ∈ un ↔ j < n ∧ listed.getD j false = false) → InvD ops n A ι0 w0 a0 listed ι a w →
      wpAny P .any ops Q' (f + (ops.size - n)) listed a w := by
  simp only [Region.okAll, Bool.and_eq_true, Bool.or_eq_true, decide_eq_true_eq] at hall
  obtain ⟨⟨⟨⟨hn, hok0⟩, htail⟩, hseq⟩, hback⟩ := hall
  have hok := Region.okX_spec hok0
  intro f
  induction f with
  | zero =>
    intro un listed ι a w hlu _ hun h
    obtain rfl : un = [] := List.length_eq_zero_iff.1 hlu
    have hdone : ∀ j, j < n → listed.getD j false = true := fun j hj => by
      cases hb : listed.getD j false with
      | true => rfl
      | false => have := (hun j).2 ⟨hj, hb⟩; simp at this
    have hlisted : listed = headListed n ops.size := by
      apply Array.ext_getElem?
      intro j
      by_cases hj : j < ops.size
      · have hjl : j < listed.size := by rw [h.head.size]; exact hj
        have e : (headListed n ops.size)[j]? = some (decide (j < n)) := by simp [headListed, hj]
        rw [e, Array.getElem?_eq_getElem hjl]
        congr 1
        by_cases hjn : j < n
        · have := hdone j hjn; simpa [hjl, hjn] using this
        · have := h.head.tail j (by omega) hj; simpa [hjl, hjn] using this
      · rw [Array.getElem?_eq_none (by rw [h.head.size]; omega), Array.getElem?_eq_none (by simp [headListed]; omega)]
    have h0n := hl.len (Nat.zero_le n) (Nat.le_refl n)
    have hlow : ι0.le ι := fun b l hbl => by
      have hb0 : b < (A 0).m.length := by
        rcases Nat.lt_or_ge b (A 0).m.length with h' | h'
        · exact h'
        · rw [hR0.dom b h'] at hbl; cases hbl
      rw [h.low b hb0]; exact hbl
    have hnn : ∀ i, (A i).n = N0 ∨ i = 0 ∨ n < i := fun i => by
      rcases Nat.eq_zero_or_pos i with h0 | h0
      · exact .inr (.inl h0)
      · rcases Nat.lt_or_ge n i with h1 | h1
        · exact .inr (.inr h1)
        · obtain ⟨o, ho⟩ := hl.at (show i - 1 < n by omega)
          have := hl.step (i - 1) o (by omega) ho
          rw [show i - 1 + 1 = i by omega] at this
          rw [this]; left; split <;> rfl
    have hq := hQ ι a w ⟨?_, fun t => ?_⟩ h.defers ⟨h.r, ⟨h.ext.os, h.ext.tape, h.ext.output, h.ext.size, fun c hc _ => h.ext.block c hc, fun c hc => ?_⟩, fun b hb => h.low b (by omega), by omega, fun b x hb hm => ?_, fun b own x hb hm => ?_, fun b l own x hb h1 h2 => ?_⟩
    · have hdl : (ops.toList.drop n).length = ops.size - n := by simp
      have := wpAny_of_seq (md := .any) (Q' := Q') (ops.toList.drop n) n listed a w (fun j => by simp [List.getElem?_drop]) (by rw [hdl, hlisted]; exact hseq) hq
      rw [hdl] at this
      rw [Nat.zero_add]
      exact this
    · rw [h.size, hf.size, hl.h0]
      rcases hnn n with h0 | h0 | h0
      · exact h0.symm
      · rw [h0]; exact hl.h0.symm
      · omega
    · by_cases hex : ∃ j, j < n ∧ dstAt ops j = some t
      · obtain ⟨j, hj, hd⟩ := hex
        rw [hl.slot (i := j + 1) (by omega) (Nat.le_refl n) (fun l h1 h2 hd' => by have := hok.uniq l j t (by omega) hj hd' hd; omega)]
        exact AV.rel_mono (upto_le _ _) (h.hit j hj (hdone j hj) t hd)
      · have hno : ∀ j, j < n → dstAt ops j ≠ some t := fun j hj hd => hex ⟨j, hj, hd⟩
        rw [h.miss t (fun j hj _ => hno j hj), hl.slot (i := 0) (Nat.zero_le n) (Nat.le_refl n) (fun l _ h2 => hno l (by omega))]
        exact AV.rel_mono hlow (hf.rel t)
    · obtain ⟨b, l, x, h1, h2, rfl⟩ := hc
      rcases Nat.lt_or_ge b (A 0).m.length with h3 | h3
      · rw [h.low b h3] at h1
        rw [hl.row (Nat.zero_le n) (Nat.le_refl n) h3] at h2
        exact .inr ⟨b, l, x, h1, h2, rfl⟩
      · exact .inl (h.fresh b l true x h3 h1 h2)
    · rw [hl.row (Nat.zero_le n) (Nat.le_refl n) (by omega)]; exact hm
    · rw [hl.row (Nat.zero_le n) (Nat.le_refl n) (by omega)] at hm; exact ⟨x, hm⟩
    · rcases Nat.lt_or_ge b (A 0).m.length with h3 | h3
      · rw [h.low b h3] at h1
        rw [hl.row (Nat.zero_le n) (Nat.le_refl n) h3] at h2
        exact .inr (.inr ⟨b, l, own, x, hb, h1, h2, rfl⟩)
      · exact .inl (h.fresh b l own x h3 h1 h2)
  | succ f ih =>
    intro un listed ι a w hlu hnd hun h
    obtain ⟨i0, hi0⟩ : ∃ i0, i0 ∈ un := by cases un with | nil => simp at hlu | cons x _ => exact ⟨x, List.mem_cons_self⟩
    have least : ∀ m i, i ≤ m → i ∈ un → ∃ j, j ∈ Region.ready .any ops listed := by
      intro m
      induction m with
      | zero =>
        intro i him hiu
        obtain ⟨hin, hb⟩ := (hun i).1 hiu
        have his : i < listed.size := by rw [h.head.size]; omega
        refine ⟨i, mem_ready.2 ⟨getD_in his hb, ops[i]'(by omega), Array.getElem?_eq_getElem (by omega), fun e he hbind => ?_⟩⟩
        have := List.all_eq_true.1 hback i (List.mem_range.2 (by omega))
        rw [Array.getElem?_eq_getElem (show i < ops.size by omega)] at this
        have := Array.all_eq_true_iff_forall_mem.1 this e he
        simp only [hbind, Bool.not_true, Bool.false_or, decide_eq_true_eq] at this
        omega
      | succ m ihm =>
        intro i him hiu
        obtain ⟨hin, hb⟩ := (hun i).1 hiu
        have his : i < listed.size := by rw [h.head.size]; omega
        by_cases hall : ∀ e ∈ (ops[i]'(by omega)).after, Region.binds .any e = true → listed.getD e.on false = true
        · exact ⟨i, mem_ready.2 ⟨getD_in his hb, _, Array.getElem?_eq_getElem (by omega), hall⟩⟩
        · have : ∃ e ∈ (ops[i]'(by omega)).after, Region.binds .any e = true ∧ listed.getD e.on false = false := by
            apply Classical.byContradiction
            intro hc
            apply hall
            intro e he hbind
            cases hlb : listed.getD e.on false with
            | true => rfl
            | false => exact absurd ⟨e, he, hbind, hlb⟩ hc
          obtain ⟨e, he, hbind, hlb⟩ := this
          have hlt := List.all_eq_true.1 hback i (List.mem_range.2 (by omega))
          rw [Array.getElem?_eq_getElem (show i < ops.size by omega)] at hlt
          have hlt := Array.all_eq_true_iff_forall_mem.1 hlt e he
          simp only [hbind, Bool.not_true, Bool.false_or, decide_eq_true_eq] at hlt
          exact ihm e.on (by omega) ((hun e.on).2 ⟨by omega, hlb⟩)
    rw [show f + 1 + (ops.size - n) = (f + (ops.size - n)) + 1 by omega]
    refine ⟨fun hnil => ?_, fun i hi => ?_⟩
    · obtain ⟨j, hj⟩ := least i0 i0 (Nat.le_refl _) hi0
      rw [hnil] at hj; cases hj
    · have hun0 := (mem_ready.1 hi).1
      have hin : i < n := by
        rcases Nat.lt_or_ge i n with hlt | hge
        · exact hlt
        · obtain ⟨_, o, ho, _⟩ := mem_ready.1 hi
          have his : i < ops.size := (Array.getElem?_eq_some_iff.1 ho).1
          rcases htail with he | ⟨hs, hc⟩
          · omega
          · obtain ⟨hi0n, hb0⟩ := (hun i0).1 hi0
            exact absurd hi (tail_waits hs hc (by omega) h.head _ i0 rfl hi0n (getD_in (by rw [h.head.size]; omega) hb0) i hge)
      refine h.run hl hW hV hok hf hR0 hi hin fun ι' a' w' h' => ?_
      have himem : i ∈ un := (hun i).2 ⟨hin, getD_both hun0⟩
      refine ih (un.erase i) _ ι' a' w' (by rw [List.length_erase_of_mem himem, hlu]; rfl) (hnd.erase i) (fun j => ?_) h'
      rw [hnd.mem_erase_iff, hun j]
      by_cases hji : j = i
      · subst hji
        have his : j < listed.size := by rw [h.head.size]; omega
        simp [his]
      · rw [getD_set_ne false (fun e => hji e.symm)]
        simp [hji]
theorem draw_sound {P : Program} {Q : Exit → Act → World → Prop} {id k : Nat} (hm : P.follows .mixedOrders = true) (hl : Line ops n A W V N (A 0).n) (hW : ∀ i o, i < n → ops[i]? = some o → evWanted ops (A i).t o = some (W i))
    (hV : ∀ i o, i < n → ops[i]? = some o → W i = true → Sound P (.op o.op (opnd (A i).t) (roMem (A i).m)) (.val (V i) (roMem (A i).m ++ N i)))
    (hall : Region.okAll ops n (A 0).n = true) {ι : Emb} {w : World} {a : Act} (hf : FRel ι (A 0) a) (hR : R ι (A 0).m w) (hk : k ≤ (A 0).m.length)
    (hQ : ∀ ι' a' w', FRel ι' (A n) a' → a'.defers = a.defers → Step k ι (A 0).m w ι' (A n).m w' → wpList P ops Q (ops.toList.drop n) a' w') : (Code.region id ops true).wp P Q a w := by
  refine wp_region_any hm ?_
  have hn := hl.hn
  have hRd : R ι (A 0).m w.drew := ⟨hR.dom, hR.rows, hR.inj⟩
  have h0n := hl.len (Nat.zero_le n) (Nat.le_refl n)
  have hinv : InvD ops n A ι w.drew a (Array.replicate ops.size false) ι a w.drew := by
    refine ⟨fun _ _ => rfl, fun b l hb => .inl ?_, ⟨fun b hb => hR.dom b (by omega), fun b l own x hb hm => ?_, fun b b' l l' o o' x x' hne hb hb' hm hm' ho => ?_⟩, fun j _ hl => (by rw [getD_replicate_false] at hl; cases hl), fun _ _ => rfl, rfl, rfl,
      ⟨by simp, fun j oj _ hl => (by rw [getD_replicate_false] at hl; cases hl), fun t _ ht => getD_in (by simpa using ht) (getD_replicate_false _ _)⟩, Below.refl _ _, fun b l own x hb h1 h2 => ?_, fun i b l own x hi hb h1 h2 cs t fr hh => ?_⟩
    all_goals
      have inlow : ∀ b l, ι b = some l → b < (A 0).m.length := fun b l hb => by
        rcases Nat.lt_or_ge b (A 0).m.length with h' | h'
        · exact h'
        · rw [hR.dom b h'] at hb; cases hb
    · exact inlow b l hb
    · rw [hl.row (Nat.zero_le n) (Nat.le_refl n) (inlow b l hb)] at hm
      exact hRd.rows b l own x hb hm
    · rw [hl.row (Nat.zero_le n) (Nat.le_refl n) (inlow b l hb)] at hm
      rw [hl.row (Nat.zero_le n) (Nat.le_refl n) (inlow b' l' hb')] at hm'
      exact hRd.inj b b' l l' o o' x x' hne hb hb' hm hm' ho
    · have := inlow b l h1; omega
    · rw [hl.row (Nat.zero_le n) (Nat.le_refl n) (inlow b l h1)] at h2
      obtain ⟨cs', t', fr', k1, k2, k3, k4⟩ := hRd.rows b l own x h1 h2
      rw [hh] at k1; cases k1
      refine Arr.relAt_mono (fun b l hb => ?_) k3
      have h3 := inlow b l hb
      have h4 := hl.len (Nat.zero_le i) hi
      unfold Emb.upto
      rw [if_pos (by omega)]; exact hb
  have := InvD.any (Q' := Q) hl hW hV (by rw [hf.size]; exact hall) hf hRd hk (fun ι' a' w' h1 h2 h3 => hQ ι' a' w' h1 h2 ⟨h3.r, ⟨h3.trans.os, h3.trans.tape, h3.trans.output, h3.trans.size, h3.trans.keep, h3.trans.fresh⟩, h3.ext, h3.len, h3.ro, h3.old, h3.news⟩) n (List.range n) _ _ _ _ (by simp) List.nodup_range (fun j => by rw [getD_replicate_false]; simp) hinv
  have e : n + (ops.size - n) = ops.size := by omega
  rw [e] at this
  exact this
end
end Go.Proofs.Ytlnekohkbhidnaa
