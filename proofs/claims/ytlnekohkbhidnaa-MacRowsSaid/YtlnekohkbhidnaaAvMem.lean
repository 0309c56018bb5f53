/- Abstract data: memory is made, written, given up. -/
import Derived.Test.YtlnekohkbhidnaaAvVal
namespace Go.Proofs.Ytlnekohkbhidnaa
open Go.RowKit

def Emb.upd (ι : Emb) (b : Nat) (l : Loc) : Emb := fun i => if i = b then some l else ι i
theorem Emb.upd_ne {ι : Emb} {b b' : Nat} {l : Loc} (h : b' ≠ b) : ι.upd b l b' = ι b' := if_neg h
theorem Emb.upd_eq (ι : Emb) (b : Nat) (l : Loc) : ι.upd b l b = some l := if_pos rfl
theorem R.upd_le {ι : Emb} {M : Mem} {w : World} (h : R ι M w) (l : Loc) : ι.le (ι.upd M.length l) := fun b x hb => by
  have : b ≠ M.length := fun e => by rw [h.dom b (by omega)] at hb; cases hb
  rw [Emb.upd_ne this]; exact hb
theorem app_row {M : Mem} {r : Row} {b : Nat} {own : Bool} {x : Arr} (h : (M ++ [r])[b]? = some (.row own x)) : (b < M.length ∧ M[b]? = some (.row own x)) ∨ (b = M.length ∧ r = .row own x) := by
  by_cases hb : b < M.length
  · rw [List.getElem?_append_left hb] at h; exact .inl ⟨hb, h⟩
  · rw [List.getElem?_append_right (by omega)] at h
    by_cases e : b = M.length
    · subst e; simp at h; exact .inr ⟨rfl, h⟩
    · rw [List.getElem?_eq_none (by simp; omega)] at h; cases h
/-- A new block. -/
theorem alloc_step {ι : Emb} {M : Mem} {w w' : World} (hR : R ι M w) {cs : Array Value} {t : TypeId} {x : Arr} (hh : w'.heap = w.heap.push (.cells cs t (0, 0))) (ho : w'.os = w.os) (ht : w'.tape = w.tape) (hu : w'.output = w.output)
    (hs : x.size ≤ cs.size) (hx : x.relAt ι cs 0) : Step M.length ι M w (ι.upd M.length ⟨w.heap.size, 0, cs.size⟩) (M ++ [.row true x]) w' ∧ ι.le (ι.upd M.length ⟨w.heap.size, 0, cs.size⟩) := by
  have hle := hR.upd_le ⟨w.heap.size, 0, cs.size⟩
  have old : ∀ c, c < w.heap.size → w'.heap[c]? = w.heap[c]? := fun c hc => by rw [hh, Array.getElem?_push, if_neg (by omega)]
  refine ⟨⟨⟨fun b hb => ?_, fun b l own y hb hm => ?_, fun b b' l l' own own' y y' hne hb hb' hm hm' ho => ?_⟩, ⟨ho, ht, hu, by rw [hh]; simp, fun c hc _ => old c hc, fun c hc => ?_⟩, fun b hb => Emb.upd_ne (by omega), by simp, fun b x hb hm => by rw [List.getElem?_append_left hb]; exact hm, fun b own x hb hm => ⟨x, by rwa [List.getElem?_append_left hb] at hm⟩, fun b l own y hb h1 h2 => ?_⟩, hle⟩
  · simp at hb
    rw [Emb.upd_ne (by omega)]; exact hR.dom b (by omega)
  · rcases app_row hm with ⟨hlt, hm⟩ | ⟨rfl, e⟩
    · rw [Emb.upd_ne (by omega)] at hb
      obtain ⟨cs', t', fr, h1, h2, h3, h4⟩ := hR.rows b l own y hb hm
      exact ⟨cs', t', fr, by rw [old _ (Array.getElem?_eq_some_iff.1 h1).1]; exact h1, h2, h3.mono' hle, h4⟩
    · cases e
      rw [Emb.upd_eq] at hb
      cases hb
      exact ⟨cs, t, (0, 0), by rw [hh, Array.getElem?_push, if_pos rfl], hs, hx.mono' hle, fun _ => ⟨rfl, by simp⟩⟩
  · rcases app_row hm with ⟨hlt, hm⟩ | ⟨rfl, e⟩ <;> rcases app_row hm' with ⟨hlt', hm'⟩ | ⟨rfl, e'⟩
    · rw [Emb.upd_ne (by omega)] at hb hb'
      exact hR.inj b b' l l' own own' y y' hne hb hb' hm hm' ho
    · rw [Emb.upd_ne (by omega)] at hb
      rw [Emb.upd_eq] at hb'
      cases hb'
      have := hR.lt hb hm
      show l.c ≠ w.heap.size
      omega
    · rw [Emb.upd_ne (by omega)] at hb'
      rw [Emb.upd_eq] at hb
      cases hb
      have := hR.lt hb' hm'
      show w.heap.size ≠ l'.c
      omega
    · exact absurd rfl hne
  · obtain ⟨b, l, y, hb, hm, rfl⟩ := hc
    rcases app_row hm with ⟨hlt, hm⟩ | ⟨rfl, e⟩
    · rw [Emb.upd_ne (by omega)] at hb
      exact .inr ⟨b, l, y, hb, hm, rfl⟩
    · rw [Emb.upd_eq] at hb
      cases hb
      exact .inl (Nat.le_refl _)
  · rcases app_row h2 with ⟨hlt, h2⟩ | ⟨rfl, e⟩
    · omega
    · rw [Emb.upd_eq] at h1
      cases h1
      exact .inl (Nat.le_refl _)
theorem set_row {M : Mem} {r : Row} {b b' : Nat} {own : Bool} {x : Arr} (h : (M.set b r)[b']? = some (.row own x)) : (b' ≠ b ∧ M[b']? = some (.row own x)) ∨ (b' = b ∧ r = .row own x) := by
  rw [List.getElem?_set] at h
  split at h
  · rename_i e; subst e
    split at h
    · cases h; exact .inr ⟨rfl, rfl⟩
    · cases h
  · rename_i e; exact .inl ⟨fun h => e h.symm, h⟩
/-- A row that is owned is written. -/
theorem store_step {ι : Emb} {M : Mem} {w : World} (hR : R ι M w) {b : Nat} {l : Loc} {x y : Arr} (hb : ι b = some l) (hm : M[b]? = some (.row true x)) {cs cs' : Array Value} {t : TypeId} (hh : w.heap[l.c]? = some (.cells cs t (0, 0)))
    (hs : cs'.size = cs.size) (hn : y.size ≤ l.n) (hy : y.relAt ι cs' l.off) : Step M.length ι M w ι (M.set b (.row true y)) (w.setRow l.c cs') := by
  have hown : Owned ι M l.c := ⟨b, l, x, hb, hm, rfl⟩
  refine ⟨⟨fun b hb => hR.dom b (by simpa using hb), fun b1 l1 own z hb1 hm1 => ?_, fun b1 b2 l1 l2 o1 o2 z1 z2 hne h1 h2 k1 k2 ho => ?_⟩, ⟨rfl, rfl, rfl, Nat.le_of_eq (size_setRow w l.c cs').symm, fun c hc hn => heap_setRow_if w l.c cs' c (fun e => hn (by rw [e]; exact hown)), fun c hc => ?_⟩, fun _ _ => rfl, by simp, fun b1 z hb1 hm1 => ?_, fun b1 own z hb1 hm1 => ?_, fun b1 l1 own z hb1 h1 h2 => (no_row (by simpa using hb1) h2).elim⟩
  · rcases set_row hm1 with ⟨hne, hm1⟩ | ⟨rfl, e⟩
    · obtain ⟨cs1, t1, fr, k1, k2, k3, k4⟩ := hR.rows b1 l1 own z hb1 hm1
      have hc : l1.c ≠ l.c := hR.inj b1 b l1 l own true z x hne hb1 hb hm1 hm (.inr rfl)
      exact ⟨cs1, t1, fr, by rw [heap_setRow_if _ _ _ _ hc]; exact k1, k2, k3, k4⟩
    · cases e
      rw [hb] at hb1; cases hb1
      obtain ⟨cs1, t1, fr, k1, k2, k3, k4⟩ := hR.rows b1 l true x hb hm
      rw [hh] at k1; cases k1
      exact ⟨cs', t, (0, 0), setRow_heap w l.c cs cs' t (0, 0) hh, hn, hy, fun _ => ⟨rfl, by rw [hs]; exact (k4 rfl).2⟩⟩
  · rcases set_row k1 with ⟨e1, m1⟩ | ⟨rfl, e1⟩ <;> rcases set_row k2 with ⟨e2, m2⟩ | ⟨rfl, e2⟩
    · exact hR.inj b1 b2 l1 l2 o1 o2 z1 z2 hne h1 h2 m1 m2 ho
    · exact hR.inj b1 b2 l1 l2 o1 true z1 x hne h1 h2 m1 hm (.inr rfl)
    · exact hR.inj b1 b2 l1 l2 true o2 x z2 hne h1 h2 hm m2 (.inl rfl)
    · exact absurd rfl hne
  · obtain ⟨b1, l1, z, h1, k1, rfl⟩ := hc
    rcases set_row k1 with ⟨e1, k1⟩ | ⟨rfl, e1⟩
    · exact .inr ⟨b1, l1, z, h1, k1, rfl⟩
    · exact .inr ⟨b1, l1, x, h1, hm, rfl⟩
  · rw [List.getElem?_set_ne (fun e => by subst e; rw [hm] at hm1; cases hm1)]; exact hm1
  · rcases set_row hm1 with ⟨hne, hm1⟩ | ⟨rfl, e⟩
    · exact ⟨z, hm1⟩
    · cases e; exact ⟨x, hm⟩
/-- A row that is owned is given up. -/
theorem kill_step {ι : Emb} {M : Mem} {w : World} (hR : R ι M w) {b : Nat} {x : Arr} (hm : M[b]? = some (.row true x)) : Step M.length ι M w ι (M.set b .dead) w := by
  refine ⟨⟨fun b hb => hR.dom b (by simpa using hb), fun b1 l1 own z hb1 hm1 => ?_, fun b1 b2 l1 l2 o1 o2 z1 z2 hne h1 h2 k1 k2 ho => ?_⟩, ⟨rfl, rfl, rfl, Nat.le_refl _, fun _ _ _ => rfl, fun c hc => ?_⟩, fun _ _ => rfl, by simp, fun b1 z hb1 hm1 => ?_, fun b1 own z hb1 hm1 => ?_, fun b1 l1 own z hb1 h1 h2 => (no_row (by simpa using hb1) h2).elim⟩
  · rcases set_row hm1 with ⟨hne, hm1⟩ | ⟨rfl, e⟩
    · exact hR.rows b1 l1 own z hb1 hm1
    · cases e
  · rcases set_row k1 with ⟨e1, k1⟩ | ⟨rfl, e1⟩ <;> rcases set_row k2 with ⟨e2, k2⟩ | ⟨rfl, e2⟩
    · exact hR.inj b1 b2 l1 l2 o1 o2 z1 z2 hne h1 h2 k1 k2 ho
    · cases e2
    · cases e1
    · cases e1
  · obtain ⟨b1, l1, z, h1, k1, rfl⟩ := hc
    rcases set_row k1 with ⟨e1, k1⟩ | ⟨rfl, e1⟩
    · exact .inr ⟨b1, l1, z, h1, k1, rfl⟩
    · cases e1
  · rw [List.getElem?_set_ne (fun e => by subst e; rw [hm] at hm1; cases hm1)]; exact hm1
  · rcases set_row hm1 with ⟨hne, hm1⟩ | ⟨rfl, e⟩
    · exact ⟨z, hm1⟩
    · cases e
/-- A row that is owned is grown where it lies, under a new name. -/
theorem grow_step {ι : Emb} {M : Mem} {w : World} (hR : R ι M w) {b : Nat} {l : Loc} {x y : Arr} (hb : ι b = some l) (hm : M[b]? = some (.row true x)) {cs cs' : Array Value} {t : TypeId} (hh : w.heap[l.c]? = some (.cells cs t (0, 0)))
    (hs : cs'.size = cs.size) {o : Nat} (ho : o ≤ l.n) (hn : y.size ≤ l.n - o) (hy : y.relAt ι cs' (l.off + o)) :
    Step M.length ι M w (ι.upd M.length ⟨l.c, l.off + o, l.n - o⟩) (M.set b .dead ++ [.row true y]) (w.setRow l.c cs') ∧ ι.le (ι.upd M.length ⟨l.c, l.off + o, l.n - o⟩) := by
  have hown : Owned ι M l.c := ⟨b, l, x, hb, hm, rfl⟩
  have hle := hR.upd_le ⟨l.c, l.off + o, l.n - o⟩
  have hlen : (M.set b Row.dead).length = M.length := by simp
  have pick : ∀ {b1 : Nat} {own : Bool} {z : Arr}, (M.set b .dead ++ [.row true y])[b1]? = some (.row own z) → (b1 ≠ b ∧ b1 < M.length ∧ M[b1]? = some (.row own z)) ∨ (b1 = M.length ∧ own = true ∧ z = y) := by
    intro b1 own z h
    rcases app_row h with ⟨hlt, h⟩ | ⟨rfl, e⟩
    · rcases set_row h with ⟨hne, h⟩ | ⟨rfl, e⟩
      · exact .inl ⟨hne, by omega, h⟩
      · cases e
    · cases e; exact .inr ⟨hlen, rfl, rfl⟩
  have apart : ∀ {b1 : Nat} {l1 : Loc} {own : Bool} {z : Arr}, b1 ≠ b → ι b1 = some l1 → M[b1]? = some (.row own z) → l1.c ≠ l.c := fun hne h1 k1 => hR.inj _ b _ l _ true _ x hne h1 hb k1 hm (.inr rfl)
  refine ⟨⟨⟨fun b1 hb1 => ?_, fun b1 l1 own z hb1 hm1 => ?_, fun b1 b2 l1 l2 o1 o2 z1 z2 hne h1 h2 k1 k2 ho => ?_⟩, ⟨rfl, rfl, rfl, Nat.le_of_eq (size_setRow w l.c cs').symm, fun c hc hn => heap_setRow_if w l.c cs' c (fun e => hn (by rw [e]; exact hown)), fun c hc => ?_⟩, fun b1 hb1 => Emb.upd_ne (by omega), by simp, fun b1 z hb1 hm1 => ?_, fun b1 own z hb1 hm1 => ?_, fun b1 l1 own z hb1 h1 h2 => ?_⟩, hle⟩
  · simp at hb1
    rw [Emb.upd_ne (by omega)]; exact hR.dom b1 (by omega)
  · rcases pick hm1 with ⟨hne, hlt, hm1⟩ | ⟨rfl, rfl, rfl⟩
    · rw [Emb.upd_ne (by omega)] at hb1
      obtain ⟨cs1, t1, fr, k1, k2, k3, k4⟩ := hR.rows b1 l1 own z hb1 hm1
      exact ⟨cs1, t1, fr, by rw [heap_setRow_if _ _ _ _ (apart hne hb1 hm1)]; exact k1, k2, k3.mono' hle, k4⟩
    · rw [Emb.upd_eq] at hb1; cases hb1
      obtain ⟨cs1, t1, fr, k1, k2, k3, k4⟩ := hR.rows b l true x hb hm
      rw [hh] at k1; cases k1
      refine ⟨cs', t, (0, 0), setRow_heap w l.c cs cs' t (0, 0) hh, hn, hy.mono' hle, fun _ => ⟨rfl, ?_⟩⟩
      have := (k4 rfl).2
      simp only
      omega
  · rcases pick k1 with ⟨e1, g1, m1⟩ | ⟨e1, _, _⟩ <;> rcases pick k2 with ⟨e2, g2, m2⟩ | ⟨e2, _, _⟩
    · rw [Emb.upd_ne (by omega)] at h1 h2
      exact hR.inj b1 b2 l1 l2 o1 o2 z1 z2 hne h1 h2 m1 m2 ho
    · rw [Emb.upd_ne (by omega)] at h1
      rw [e2, Emb.upd_eq] at h2; cases h2
      exact apart e1 h1 m1
    · rw [Emb.upd_ne (by omega)] at h2
      rw [e1, Emb.upd_eq] at h1; cases h1
      exact fun e => apart e2 h2 m2 e.symm
    · exact absurd (e1.trans e2.symm) hne
  · obtain ⟨b1, l1, z, h1, k1, rfl⟩ := hc
    rcases pick k1 with ⟨e1, g1, k1⟩ | ⟨rfl, _, rfl⟩
    · rw [Emb.upd_ne (by omega)] at h1
      exact .inr ⟨b1, l1, z, h1, k1, rfl⟩
    · rw [Emb.upd_eq] at h1; cases h1
      exact .inr hown
  · rw [List.getElem?_append_left (by simpa using hb1), List.getElem?_set_ne (fun e => by subst e; rw [hm] at hm1; cases hm1)]; exact hm1
  · rcases pick hm1 with ⟨_, _, hm1⟩ | ⟨rfl, _, _⟩
    · exact ⟨z, hm1⟩
    · omega
  · rcases pick h2 with ⟨_, hlt, _⟩ | ⟨rfl, _, _⟩
    · omega
    · rw [Emb.upd_eq] at h1
      cases h1
      exact .inr (.inl hown)
end Go.Proofs.Ytlnekohkbhidnaa
