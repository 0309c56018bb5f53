/- Abstract data: appending, copying, making slices. -/
import Derived.Test.YtlnekohkbhidnaaAvMem
import Derived.Laws.AppendOwn
namespace Go.Proofs.Ytlnekohkbhidnaa
open Go.RowKit

/-- The cells that a slice shows. -/
def srcOf (M : Mem) (sz : Nat) : AV → Option (Nat × Arr)
  | .c (.sl b o n _ sz') =>
    match M[b]? with
    | some (.row _ y) => if sz' = sz ∧ o + n * sz ≤ y.size then some (n, winA y o (n * sz)) else none
    | _ => none
  | _ => none
structure Shows (w : World) (ι : Emb) (sz : Nat) (p : Option Addr) (n : Nat) (y : Arr) (l : List Value) : Prop where
  len : l.length = n * sz
  size : y.size = n * sz
  rel : ∀ i, i < y.size → ∃ v, l[i]? = some v ∧ (y.get i).rel ι v
  nil : p = none → l = []
  cells : ∀ a, p = some a → ∀ j u, l[j]? = some u → w.cell? (a.add j) = some u
theorem srcOf_sound {M : Mem} {sz n : Nat} {x : AV} {y : Arr} (h : srcOf M sz x = some (n, y)) (hsz : 0 < sz) {ι : Emb} {w : World} (hR : R ι M w) {v : Value} (hx : x.rel ι v) : ∃ p c l, v = .slice p n c ∧ n ≤ c ∧ Shows w ι sz p n y l := by
  unfold srcOf at h
  split at h
  · rename_i b o n' cap sz'
    split at h
    · rename_i own z hm
      split at h
      · rename_i hc
        obtain ⟨rfl, hle⟩ := hc
        cases h
        obtain ⟨p, c, rfl, h1, h2, h3⟩ := hx
        by_cases hn : n = 0
        · subst hn
          exact ⟨p, c, [], rfl, h2, by simp, by rw [winA_size (by omega)], fun i hi => by rw [winA_size (by omega)] at hi; omega, fun _ => rfl, fun a _ j u hu => by simp at hu⟩
        · rcases h3 with h3 | ⟨l, hb, rfl, hl⟩
          · omega
          · obtain ⟨cs, t, fr, k1, k2, k3, k4⟩ := hR.rows b l own z hb hm
            have hfit : l.off + o + n * sz' ≤ cs.size := by
              have hp : 0 < n * sz' := Nat.mul_pos (by omega) hsz
              obtain ⟨u, hu, _⟩ := k3 (o + n * sz' - 1) (by omega)
              have := (Array.getElem?_eq_some_iff.1 hu).1
              omega
            refine ⟨_, c, (cs.extract (l.off + o) (l.off + o + n * sz')).toList, rfl, h2, by simp; omega, winA_size hle, fun i hi => ?_, fun h => (by cases h), fun a ha j u hu => ?_⟩
            · rw [winA_size hle] at hi
              obtain ⟨u, hu, hr⟩ := k3 (o + i) (by omega)
              refine ⟨u, ?_, by rw [winA_get hi]; exact hr⟩
              rw [Array.getElem?_toList, Array.getElem?_extract, if_pos (by omega), ← hu, Nat.add_assoc]
            · cases ha
              rw [addr_at, cell_of k1]
              rw [Array.getElem?_toList, Array.getElem?_extract] at hu
              split at hu
              · exact hu
              · cases hu
      · cases h
    · cases h
  · cases h
theorem Shows.first {w : World} {ι : Emb} {sz n : Nat} {p : Option Addr} {y : Arr} {l : List Value} (h : Shows w ι sz p n y l) (P : Program) (c : Nat) (w' : World) (hw : w'.heap = w.heap) : (Builtin.firstCells sz n (.slice p n c)).run P w' = .ok l.toArray w' := by
  cases p with
  | none => rw [h.nil rfl]; exact run_firstCells_none w' sz n n c
  | some a => exact run_firstCells_some w' sz n a n c l h.len fun j v hv => by have := h.cells a rfl j v hv; rw [← this]; simp [World.cell?, hw]
structure Elem (P : Program) (el : TypeId) (sz : Nat) where
  i : TypeInfo
  z : Value
  hi : P.info? el = some i
  hz : i.zero = some z
  hs : i.size = sz
  hc : z.cells.size = sz
/-- The element type's facts. -/
def elemOk (P : Program) (el : TypeId) : Option (Nat × Nat) :=
  match P.info? el with
  | some i => match i.zero with
    | some z => if z.cells.size = i.size ∧ 0 < i.size then some (i.size, i.bytes) else none
    | none => none
  | none => none
theorem elemOk_spec {P : Program} {el : TypeId} {sz by' : Nat} (h : elemOk P el = some (sz, by')) : ∃ i z, P.info? el = some i ∧ i.zero = some z ∧ i.size = sz ∧ i.bytes = by' ∧ z.cells.size = sz ∧ 0 < sz := by
  unfold elemOk at h
  split at h
  · rename_i i hi
    split at h
    · rename_i z hz
      split at h
      · rename_i hc
        cases h
        exact ⟨i, z, hi, hz, rfl, rfl, hc.1, hc.2⟩
      · cases h
    · cases h
  · cases h
def noIntT (P : Program) (t : TypeId) : Bool := match P.underlying t with | some (.slice _) => true | _ => false
theorem run_zeros {P : Program} {t : TypeId} (h : noIntT P t = true) : ∃ e, P.underlying t = some (.slice e) := by
  unfold noIntT at h
  split at h
  · rename_i e he; exact ⟨e, he⟩
  · cases h
theorem run_append_any {P : Program} {w : World} (t t' ty el : TypeId) (i : TypeInfo) (z : Value) (ht : P.underlying t = some (.slice el)) (ht' : noIntT P t' = true) (hi : P.info? el = some i) (hz : i.zero = some z)
    (p q : Option Addr) (sLen sCap n c : Nat) (olds news : List Value)
    (ho : ∀ w', w'.heap = w.heap → (Builtin.firstCells i.size sLen (.slice p sLen sCap)).run P w' = .ok olds.toArray w') (hn : ∀ w', w'.heap = w.heap → (Builtin.firstCells i.size n (.slice q n c)).run P w' = .ok news.toArray w')
    (hby : (sLen + n) * i.bytes ≤ 140737488355328) (h63 : sLen + n ≤ 9223372036854775807) :
    (sLen + n ≤ sCap ∧ (Builtin.append_ #[t, t'] ty #[.slice p sLen sCap, .slice q n c]).run P w = ((match p with | some a => (storeCells (a.add (sLen * i.size)) news).run P w | none => .ok () w).andThen fun _ w' => .ok (.slice p (sLen + n) sCap) w')) ∨
    (sCap < sLen + n ∧ ∃ cap', sLen + n ≤ cap' ∧ (Builtin.append_ #[t, t'] ty #[.slice p sLen sCap, .slice q n c]).run P w = .ok (.slice (some ⟨w.heap.size, 0, none⟩) (sLen + n) cap') (w.drew.alloc (.cells (olds.toArray ++ news.toArray ++ Builtin.zeroCells z.cells (cap' - (sLen + n))) el))) := by
  obtain ⟨e', ht'⟩ := run_zeros ht'
  by_cases hr : sLen + n ≤ sCap
  · refine .inl ⟨hr, ?_⟩
    have h2 := hn w rfl
    cases p with
    | none => simp [Builtin.append_, run_underlying ht, run_underlying ht', sizeOf, typeInfo, hi, Builtin.lenOf, hr, h2]
    | some a => simp [Builtin.append_, run_underlying ht, run_underlying ht', sizeOf, typeInfo, hi, Builtin.lenOf, hr, h2]
  · refine .inr ⟨by omega, grownCap w (sLen + n) sCap el, grownCap_ge w _ _ _, ?_⟩
    have hfit := growslice_fits (show sCap < sLen + n by omega) hby
    have h63' : ¬ (9223372036854775807 < ((sLen : Int) + (n : Int))) := by omega
    have h48' : ¬ (281474976710656 < Builtin.nextslicecap (sLen + n) sCap * i.bytes) := by omega
    have h1 := ho w.drew rfl
    have h2 := hn w.drew rfl
    simp [Builtin.append_, run_underlying ht, run_underlying ht', sizeOf, typeInfo, zeroValue, hi, hz, Builtin.lenOf, hr, h63', h48', Question.forced, h1, h2, newRow, grownCap]
    congr 2
    apply Array.ext'
    simp
def evAppend (P : Program) (M : Mem) (t t' : TypeId) (s x : AV) : Option (AV × Mem) :=
  match P.underlying t, noIntT P t' with
  | some (.slice el), true =>
    match elemOk P el with
    | some (sz, by') =>
      match x with
      | .c .nsl | .c .esl => match s with
        | .c (.sl ..) | .c .nsl | .c .esl => some (s, M)
        | _ => none
      | x =>
        match srcOf M sz x with
        | some (n, y) =>
          if y.one = true ∧ n * by' ≤ 140737488355328 ∧ n ≤ 9223372036854775807 then
            match s with
            | .c .nsl | .c .esl => some (.c (.sl M.length 0 n n sz), M ++ [.row true y])
            | .c (.sl b o len _ sz') =>
              match M[b]? with
              | some (.row true u) =>
                if sz' = sz ∧ o + len * sz ≤ u.size ∧ (len + n) * by' ≤ 140737488355328 ∧ len + n ≤ 9223372036854775807 then
                  match (winA u o (len * sz)).app y with
                  | some z => some (.c (.sl M.length 0 (len + n) (len + n) sz), M.set b .dead ++ [.row true z])
                  | none => none
                else none
              | _ => none
            | _ => none
          else none
        | none => none
    | none => none
  | _, _ => none
theorem app_none {k : Nat} {ι : Emb} {M : Mem} {w : World} (hR : R ι M w) (r : Row) (hk : k ≤ M.length) : Step k ι M w ι (M ++ [r]) w := by
  have pick : ∀ {b : Nat} {l : Loc} {own : Bool} {x : Arr}, ι b = some l → (M ++ [r])[b]? = some (.row own x) → M[b]? = some (.row own x) := by
    intro b l own x hb h
    rcases app_row h with ⟨_, h⟩ | ⟨rfl, _⟩
    · exact h
    · rw [hR.dom M.length (Nat.le_refl _)] at hb; cases hb
  refine ⟨⟨fun b hb => hR.dom b (by simp at hb; omega), fun b l own x hb hm => hR.rows b l own x hb (pick hb hm), fun b b' l l' o o' x x' hne h1 h2 k1 k2 ho => hR.inj b b' l l' o o' x x' hne h1 h2 (pick h1 k1) (pick h2 k2) ho⟩,
    ⟨rfl, rfl, rfl, Nat.le_refl _, fun _ _ _ => rfl, fun c hc => ?_⟩, fun _ _ => rfl, by simp; omega, fun b x hb hm => by rw [List.getElem?_append_left (by omega)]; exact hm, fun b own x hb hm => ⟨x, by rwa [List.getElem?_append_left (by omega)] at hm⟩, fun b l own x hb h1 h2 => .inr (.inr ⟨b, l, own, x, hb, h1, pick h1 h2, rfl⟩)⟩
  obtain ⟨b, l, x, hb, hm, rfl⟩ := hc
  exact .inr ⟨b, l, x, hb, pick hb hm, rfl⟩
theorem relAt_list {ι : Emb} {y : Arr} {l : List Value} (h : ∀ i, i < y.size → ∃ v, l[i]? = some v ∧ (y.get i).rel ι v) (rest : Array Value) : y.relAt ι (l.toArray ++ rest) 0 := fun i hi => by
  obtain ⟨v, hv, hr⟩ := h i hi
  refine ⟨v, ?_, hr⟩
  rw [Nat.zero_add, Array.getElem?_append_left (by have := (List.getElem?_eq_some_iff.1 hv).1; simpa using this)]
  simpa using hv
theorem app_list {ι : Emb} {x y z : Arr} (hz : x.app y = some z) {l m : List Value} (hl : l.length = x.size) (h : ∀ i, i < x.size → ∃ v, l[i]? = some v ∧ (x.get i).rel ι v) (k : ∀ i, i < y.size → ∃ v, m[i]? = some v ∧ (y.get i).rel ι v) :
    ∀ i, i < z.size → ∃ v, (l ++ m)[i]? = some v ∧ (z.get i).rel ι v := by
  obtain ⟨h1, h2⟩ := Arr.app_spec hz
  intro i hi
  rw [h2 i]
  by_cases hx : i < x.size
  · rw [if_pos hx, List.getElem?_append_left (by omega)]
    exact h i hx
  · rw [if_neg hx, List.getElem?_append_right (by omega), hl]
    exact k (i - x.size) (by omega)
theorem evAppend_sound {P : Program} {M M' : Mem} {t t' ty : TypeId} {s x v : AV} (h : evAppend P M t t' s x = some (v, M')) {ι : Emb} {w : World} (hR : R ι M w) {p q : Value} (hs : s.rel ι p) (hx : x.rel ι q) :
    ∃ u w' ι', (Builtin.append_ #[t, t'] ty #[p, q]).run P w = .ok u w' ∧ v.rel ι' u ∧ Step M.length ι M w ι' M' w' := by
  unfold evAppend at h
  split at h
  · rename_i el ht ht'
    split at h
    · rename_i sz by' hel
      obtain ⟨i, z, hi, hz, rfl, rfl, hzs, hsz⟩ := elemOk_spec hel
      obtain ⟨e', ht2⟩ := run_zeros ht'
      have triv : ∀ c, (∃ pp, q = .slice pp 0 c) → (v, M') = (s, M) → (∃ pp n c, p = .slice pp n c ∧ n ≤ c) → ∃ u w' ι', (Builtin.append_ #[t, t'] ty #[p, q]).run P w = .ok u w' ∧ v.rel ι' u ∧ Step M.length ι M w ι' M' w' := by
        rintro c ⟨pq, rfl⟩ he ⟨pp, n, cc, rfl, hn⟩
        cases he
        refine ⟨.slice pp n cc, w, ι, ?_, hs, Step.refl hR (Nat.le_refl _)⟩
        have hf : (Builtin.firstCells i.size 0 (.slice pq 0 c)).run P w = .ok #[] w := by
          cases pq with
          | none => exact run_firstCells_none w _ _ _ _
          | some a => exact run_firstCells_some w _ 0 a 0 c [] (by simp) (fun j v h => by simp at h)
        cases pp with
        | none => simp [Builtin.append_, run_underlying ht, run_underlying ht2, sizeOf, typeInfo, hi, Builtin.lenOf, hn, hf]
        | some a => simp [Builtin.append_, run_underlying ht, run_underlying ht2, sizeOf, typeInfo, hi, Builtin.lenOf, hn, hf, storeCells]
      have shape : ∀ (b o len cap sz : Nat), s = .c (.sl b o len cap sz) ∨ s = .c .nsl ∨ s = .c .esl → ∃ pp n c, p = .slice pp n c ∧ n ≤ c := by
        rintro b o len cap sz (rfl | rfl | rfl)
        · obtain ⟨pp, c, rfl, _, h2, _⟩ := hs
          exact ⟨pp, _, c, rfl, h2⟩
        · exact ⟨none, 0, 0, hs, Nat.le_refl _⟩
        · obtain ⟨pp, rfl⟩ := hs
          exact ⟨pp, 0, 0, rfl, Nat.le_refl _⟩
      split at h
      · obtain rfl : q = .slice none 0 0 := hx
        split at h
        · cases h; exact triv 0 ⟨none, rfl⟩ rfl (shape _ _ _ _ _ (.inl rfl))
        · cases h; exact triv 0 ⟨none, rfl⟩ rfl (shape 0 0 0 0 0 (.inr (.inl rfl)))
        · cases h; exact triv 0 ⟨none, rfl⟩ rfl (shape 0 0 0 0 0 (.inr (.inr rfl)))
        · cases h
      · obtain ⟨pq, rfl⟩ := hx
        split at h
        · cases h; exact triv 0 ⟨pq, rfl⟩ rfl (shape _ _ _ _ _ (.inl rfl))
        · cases h; exact triv 0 ⟨pq, rfl⟩ rfl (shape 0 0 0 0 0 (.inr (.inl rfl)))
        · cases h; exact triv 0 ⟨pq, rfl⟩ rfl (shape 0 0 0 0 0 (.inr (.inr rfl)))
        · cases h
      · split at h
        · rename_i n y hsrc
          obtain ⟨qa, c, l, rfl, hnc, hsh⟩ := srcOf_sound hsrc hsz hR hx
          split at h
          · rename_i hc
            obtain ⟨hone, hby, h63⟩ := hc
            -- what is stored is of single cells
            have hl1 : ∀ u ∈ l, u.oneCell' = true := by
              intro u hu
              obtain ⟨j, hj, rfl⟩ := List.mem_iff_getElem.1 hu
              obtain ⟨v', hv', hr⟩ := hsh.rel j (by rw [hsh.size, ← hsh.len]; exact hj)
              rw [List.getElem?_eq_getElem hj] at hv'
              cases hv'
              exact Cell.rel_one hr (Arr.get_one hone (by rw [hsh.size, ← hsh.len]; exact hj))
            -- an empty beginning
            have zero : ∀ pp, p = .slice pp 0 0 → (v, M') = (.c (.sl M.length 0 n n i.size), M ++ [.row true y]) → ∃ u w' ι', (Builtin.append_ #[t, t'] ty #[p, .slice qa n c]).run P w = .ok u w' ∧ v.rel ι' u ∧ Step M.length ι M w ι' M' w' := by
              rintro pp rfl he
              cases he
              have hf : ∀ w', w'.heap = w.heap → (Builtin.firstCells i.size 0 (.slice pp 0 0)).run P w' = .ok ([] : List Value).toArray w' := by
                intro w' _
                cases pp with
                | none => exact run_firstCells_none w' _ _ _ _
                | some a => exact run_firstCells_some w' _ 0 a 0 0 [] (by simp) (fun j v h => by simp at h)
              rcases run_append_any (P := P) (w := w) t t' ty el i z ht ht' hi hz pp qa 0 0 n c [] l hf (fun w' hw => hsh.first P c w' hw) (by simpa using hby) (by simpa using h63) with ⟨hr, e⟩ | ⟨hr, cap', hcap, e⟩
              · obtain rfl : n = 0 := by omega
                obtain rfl : l = [] := List.eq_nil_of_length_eq_zero (by rw [hsh.len]; simp)
                refine ⟨.slice pp 0 0, w, ι, ?_, ⟨pp, 0, rfl, Nat.le_refl _, Nat.le_refl _, .inl rfl⟩, app_none hR _ (Nat.le_refl _)⟩
                rw [e]
                cases pp <;> simp [storeCells]
              · rw [Nat.zero_add] at e hcap hr
                have hst := alloc_step (w' := w.drew.alloc (.cells (([] : List Value).toArray ++ l.toArray ++ Builtin.zeroCells z.cells (cap' - n)) el)) (x := y) (t := el) hR (cs := ([] : List Value).toArray ++ l.toArray ++ Builtin.zeroCells z.cells (cap' - n)) rfl rfl rfl rfl
                  (by simp [hsh.size, hsh.len]) (by
                    have := relAt_list hsh.rel (Builtin.zeroCells z.cells (cap' - n))
                    simpa using this)
                refine ⟨_, _, _, e, ⟨_, cap', rfl, hcap, hcap, .inr ⟨_, Emb.upd_eq _ _ _, rfl, ?_⟩⟩, hst.1⟩
                simp [hsh.len, size_zeroCells, hzs]
                rw [← Nat.add_mul]; apply Nat.le_of_eq; congr 1; omega
            split at h
            · cases h
              obtain rfl : p = .slice none 0 0 := hs
              exact zero none rfl rfl
            · cases h
              obtain ⟨pp, rfl⟩ := hs
              exact zero pp rfl rfl
            · rename_i b o len cap sz'
              split at h
              · rename_i u0 hm
                split at h
                · rename_i hc
                  obtain ⟨rfl, hle, hby2, h632⟩ := hc
                  split at h
                  · rename_i zz happ
                    cases h
                    have hss : srcOf M i.size (.c (.sl b o len cap i.size)) = some (len, winA u0 o (len * i.size)) := by
                      simp [srcOf, hm, hle]
                    obtain ⟨pa, ca, olds, he, hlc, hold⟩ := srcOf_sound hss hsz hR hs
                    obtain ⟨pa', ca', he', hcc, hlc', h3⟩ := hs
                    rw [he] at he'; cases he'
                    subst he
                    have hrel := app_list happ (by rw [hold.len, hold.size]) hold.rel hsh.rel
                    have hzsize : zz.size = len * i.size + n * i.size := by rw [(Arr.app_spec happ).1, hold.size, hsh.size]
                    have hkill := kill_step hR hm
                    rcases run_append_any (P := P) (w := w) t t' ty el i z ht ht' hi hz pa qa len ca n c olds l (fun w' hw => hold.first P ca w' hw) (fun w' hw => hsh.first P c w' hw) hby2 h632 with ⟨hr, e⟩ | ⟨hr, cap', hcap, e⟩
                    · rcases h3 with h3 | ⟨loc, hb, rfl, hfit⟩
                      · subst h3
                        obtain rfl : n = 0 := by omega
                        obtain rfl : len = 0 := by omega
                        obtain rfl : l = [] := List.eq_nil_of_length_eq_zero (by rw [hsh.len]; simp)
                        refine ⟨.slice pa 0 0, w, ι, ?_, ⟨pa, 0, rfl, Nat.le_refl _, Nat.le_refl _, .inl rfl⟩, hkill.comp (app_none hkill.r _ (by simp))⟩
                        rw [e]
                        cases pa <;> simp [storeCells]
                      · obtain ⟨cs, tt, fr, k1, k2, k3, k4⟩ := hR.rows b loc true u0 hb hm
                        obtain ⟨rfl, k5⟩ := k4 rfl
                        have hcn : (len + n) * i.size ≤ ca * i.size := Nat.mul_le_mul_right _ hr
                        rw [Nat.add_mul] at hcn
                        have hst := run_storeCells_at P loc.c (loc.off + o + len * i.size) tt l 0 cs w k1 (by rw [hsh.len]; omega) hl1
                        simp only [Nat.add_zero] at hst
                        simp only [addr_at, hst, Result.andThen_ok] at e
                        have hcs' : (cs.toList.take (loc.off + o + len * i.size) ++ l ++ cs.toList.drop (loc.off + o + len * i.size + l.length)).toArray.size = cs.size := by
                          simp; rw [hsh.len]; omega
                        have hg := grow_step (y := zz) (o := o) hR hb hm k1 hcs' (by omega) (by omega) (by
                          intro j hj
                          obtain ⟨v', hv', hr'⟩ := hrel j hj
                          refine ⟨v', ?_, hr'⟩
                          rw [← hv']
                          simp only [List.getElem?_toArray]
                          by_cases hj2 : j < len * i.size
                          · rw [List.append_assoc, List.getElem?_append_left (by simp; omega), List.getElem?_take, if_pos (by omega), List.getElem?_append_left (by rw [hold.len]; exact hj2)]
                            have hj3 : j < olds.length := by rw [hold.len]; exact hj2
                            have h7 : olds[j]? = some (olds[j]'hj3) := List.getElem?_eq_getElem hj3
                            have := hold.cells _ rfl j _ h7
                            rw [addr_at, cell_of k1] at this
                            rw [h7, ← this, Array.getElem?_toList]
                          · rw [List.getElem?_append_left (by simp; rw [hsh.len]; omega), List.getElem?_append_right (by simp; omega), List.getElem?_append_right (by rw [hold.len]; omega)]
                            congr 1
                            rw [hold.len]
                            simp; omega)
                        refine ⟨_, _, _, e, ⟨_, ca, rfl, hr, hr, .inr ⟨_, Emb.upd_eq _ _ _, rfl, ?_⟩⟩, hg.1⟩
                        simp only
                        omega
                    · have hst := alloc_step (w' := w.drew.alloc (.cells (olds.toArray ++ l.toArray ++ Builtin.zeroCells z.cells (cap' - (len + n))) el)) (x := zz) (t := el) hkill.r (cs := olds.toArray ++ l.toArray ++ Builtin.zeroCells z.cells (cap' - (len + n))) rfl rfl rfl rfl
                        (by simp [hzsize, hsh.len, hold.len]) (by
                          have := relAt_list hrel (Builtin.zeroCells z.cells (cap' - (len + n)))
                          simpa using this)
                      simp only [List.length_set] at hst
                      refine ⟨_, _, _, e, ⟨_, cap', rfl, hcap, hcap, .inr ⟨_, Emb.upd_eq _ _ _, rfl, ?_⟩⟩, hkill.comp hst.1⟩
                      simp [hsh.len, hold.len, size_zeroCells, hzs]
                      rw [← Nat.add_mul, ← Nat.add_mul]; apply Nat.le_of_eq; congr 1; omega
                  · cases h
                · cases h
              · cases h
            · cases h
          · cases h
        · cases h
    · cases h
  · cases h
end Go.Proofs.Ytlnekohkbhidnaa
