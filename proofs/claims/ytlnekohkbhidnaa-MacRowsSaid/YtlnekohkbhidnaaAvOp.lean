/- Abstract data: all operations of one goroutine that call no function of the program. -/
import Derived.Test.YtlnekohkbhidnaaAvBuild
namespace Go.Proofs.Ytlnekohkbhidnaa
open Go.RowKit

theorem same_step {ι : Emb} {M : Mem} {w : World} (hR : R ι M w) {b : Nat} {x y : Arr} (hm : M[b]? = some (.row true x)) (hs : y.size = x.size) (hg : ∀ j, j < x.size → y.get j = x.get j) : Step M.length ι M w ι (M.set b (.row true y)) w := by
  refine ⟨⟨fun b hb => hR.dom b (by simpa using hb), fun b1 l1 own z hb1 hm1 => ?_, fun b1 b2 l1 l2 o1 o2 z1 z2 hne h1 h2 k1 k2 ho => ?_⟩, ⟨rfl, rfl, rfl, Nat.le_refl _, fun _ _ _ => rfl, fun c hc => ?_⟩, fun _ _ => rfl, by simp, fun b1 z hb1 hm1 => ?_, fun b1 own z hb1 hm1 => ?_, fun b1 l1 own z hb1 h1 h2 => (no_row (by simpa using hb1) h2).elim⟩
  · rcases set_row hm1 with ⟨hne, hm1⟩ | ⟨rfl, e⟩
    · exact hR.rows b1 l1 own z hb1 hm1
    · cases e
      obtain ⟨cs, t, fr, k1, k2, k3, k4⟩ := hR.rows b1 l1 true x hb1 hm
      exact ⟨cs, t, fr, k1, by omega, fun i hi => by rw [hg i (by omega)]; exact k3 i (by omega), k4⟩
  · rcases set_row k1 with ⟨e1, m1⟩ | ⟨rfl, e1⟩ <;> rcases set_row k2 with ⟨e2, m2⟩ | ⟨rfl, e2⟩
    · exact hR.inj b1 b2 l1 l2 o1 o2 z1 z2 hne h1 h2 m1 m2 ho
    · exact hR.inj b1 b2 l1 l2 o1 true z1 x hne h1 h2 m1 hm (.inr rfl)
    · exact hR.inj b1 b2 l1 l2 true o2 x z2 hne h1 h2 hm m2 (.inl rfl)
    · exact absurd rfl hne
  · obtain ⟨b1, l1, z, h1, k1, rfl⟩ := hc
    rcases set_row k1 with ⟨e1, k1⟩ | ⟨rfl, e1⟩
    · exact .inr ⟨b1, l1, z, h1, k1, rfl⟩
    · exact .inr ⟨b1, l1, x, h1, hm, rfl⟩
  · rw [List.getElem?_set_ne (fun e => by subst e; rw [hm] at hm1; cases hm1)]; exact hm1
  · rcases set_row hm1 with ⟨hne, hm1⟩ | ⟨rfl, e⟩
    · exact ⟨z, hm1⟩
    · cases e; exact ⟨x, hm⟩
/-- A new block that is not to be written. -/
theorem alloc_ro {ι : Emb} {M : Mem} {w w' : World} (hR : R ι M w) {cs : Array Value} {t : TypeId} {fr : Nat × Nat} {x : Arr} (hh : w'.heap = w.heap.push (.cells cs t fr)) (ho : w'.os = w.os) (ht : w'.tape = w.tape) (hu : w'.output = w.output)
    (hs : x.size ≤ cs.size) (hx : x.relAt ι cs 0) : Step M.length ι M w (ι.upd M.length ⟨w.heap.size, 0, cs.size⟩) (M ++ [.row false x]) w' := by
  have hle := hR.upd_le ⟨w.heap.size, 0, cs.size⟩
  have old : ∀ c, c < w.heap.size → w'.heap[c]? = w.heap[c]? := fun c hc => by rw [hh, Array.getElem?_push, if_neg (by omega)]
  refine ⟨⟨fun b hb => ?_, fun b l own y hb hm => ?_, fun b b' l l' own own' y y' hne hb hb' hm hm' ho => ?_⟩, ⟨ho, ht, hu, by rw [hh]; simp, fun c hc _ => old c hc, fun c hc => ?_⟩, fun b hb => Emb.upd_ne (by omega), by simp, fun b x hb hm => by rw [List.getElem?_append_left hb]; exact hm, fun b own x hb hm => ⟨x, by rwa [List.getElem?_append_left hb] at hm⟩, fun b l own y hb h1 h2 => ?_⟩
  · simp at hb
    rw [Emb.upd_ne (by omega)]; exact hR.dom b (by omega)
  · rcases app_row hm with ⟨hlt, hm⟩ | ⟨rfl, e⟩
    · rw [Emb.upd_ne (by omega)] at hb
      obtain ⟨cs', t', fr, h1, h2, h3, h4⟩ := hR.rows b l own y hb hm
      exact ⟨cs', t', fr, by rw [old _ (Array.getElem?_eq_some_iff.1 h1).1]; exact h1, h2, h3.mono' hle, h4⟩
    · cases e
      rw [Emb.upd_eq] at hb
      cases hb
      exact ⟨cs, t, fr, by rw [hh, Array.getElem?_push, if_pos rfl], hs, hx.mono' hle, fun h => by cases h⟩
  · rcases app_row hm with ⟨hlt, hm⟩ | ⟨rfl, e⟩ <;> rcases app_row hm' with ⟨hlt', hm'⟩ | ⟨rfl, e'⟩
    · rw [Emb.upd_ne (by omega)] at hb hb'
      exact hR.inj b b' l l' own own' y y' hne hb hb' hm hm' ho
    · rw [Emb.upd_ne (by omega)] at hb
      rw [Emb.upd_eq] at hb'
      cases hb'
      have := hR.lt hb hm
      show l.c ≠ w.heap.size
      omega
    · rw [Emb.upd_ne (by omega)] at hb'
      rw [Emb.upd_eq] at hb
      cases hb
      have := hR.lt hb' hm'
      show w.heap.size ≠ l'.c
      omega
    · exact absurd rfl hne
  · obtain ⟨b, l, y, hb, hm, rfl⟩ := hc
    rcases app_row hm with ⟨hlt, hm⟩ | ⟨rfl, e⟩
    · rw [Emb.upd_ne (by omega)] at hb
      exact .inr ⟨b, l, y, hb, hm, rfl⟩
    · cases e
  · rcases app_row h2 with ⟨hlt, h2⟩ | ⟨rfl, e⟩
    · omega
    · rw [Emb.upd_eq] at h1
      cases h1
      exact .inl (Nat.le_refl _)
def evCopy (P : Program) (M : Mem) (t : TypeId) (d s : AV) : Option (AV × Mem) :=
  match P.underlying t, d with
  | some (.slice el), .c (.sl b o dl _ sz) =>
    if szT P el = some sz ∧ 0 < sz then
      match s with
      | .c .nsl | .c .esl => some (.c (.val (.int .i64 0)), M)
      | .c (.sl b2 o2 n2 _ sz2) =>
        match M[b]?, M[b2]? with
        | some (.row true x), some (.row _ y) =>
          let n := min n2 dl
          if sz2 = sz ∧ o2 + n * sz ≤ y.size ∧ o + n * sz ≤ x.size ∧ (y.win o2 (n * sz)).one = true then
            (x.putW o (y.win o2 (n * sz))).map fun z => (.c (.val (.int .i64 n)), M.set b (.row true z))
          else none
        | _, _ => none
      | _ => none
    else none
  | _, _ => none
theorem evCopy_sound {P : Program} {M M' : Mem} {t t' ty : TypeId} {d s v : AV} (h : evCopy P M t d s = some (v, M')) {ι : Emb} {w : World} (hR : R ι M w) {p q : Value} (hd : d.rel ι p) (hs : s.rel ι q) :
    MemOk P ι M w v M' (Builtin.copy_ #[t, t'] ty #[p, q]) := by
  unfold evCopy at h
  split at h
  · rename_i el b o dl cap sz hu
    obtain ⟨pp, cap', rfl, h1, h2, h3⟩ := hd
    split at h
    · rename_i hc
      obtain ⟨hsz, hsz0⟩ := hc
      have nothing : ∀ pq c, (Builtin.copy_ #[t, t'] ty #[.slice pp dl cap', .slice pq 0 c]).run P w = .ok (.int .i64 0) w := by
        intro pq c
        have hf : ∀ k, (Builtin.firstCells k 0 (.slice pq 0 c)).run P w = .ok #[] w := by
          intro k
          cases pq with
          | none => exact run_firstCells_none w _ _ _ _
          | some a => exact run_firstCells_some w _ 0 a 0 c [] (by simp) (fun j v h => by simp at h)
        cases pp <;> simp [Builtin.copy_, run_underlying hu, Builtin.lenOf, run_sizeT hsz, hf, storeCells, goInt]
      split at h
      · cases h
        obtain rfl : q = .slice none 0 0 := hs
        exact ⟨_, w, ι, nothing _ _, rfl, Step.refl hR (Nat.le_refl _)⟩
      · cases h
        obtain ⟨pq, rfl⟩ := hs
        exact ⟨_, w, ι, nothing _ _, rfl, Step.refl hR (Nat.le_refl _)⟩
      · rename_i b2 o2 n2 cap2 sz2
        split at h
        · rename_i x own2 y hm hm2
          simp only at h
          split at h
          · rename_i hc
            obtain ⟨rfl, hle2, hle, hone⟩ := hc
            obtain ⟨z, hz, he⟩ := Option.map_eq_some_iff.1 h
            cases he
            have hwin : (y.win o2 (min n2 dl * sz2)).size = min n2 dl * sz2 := by rw [Arr.win_size]; omega
            obtain ⟨s1, s2⟩ := Arr.putW_spec hz (by rw [hwin]; exact hle)
            have hss : srcOf M sz2 (.c (.sl b2 o2 (min n2 dl) 0 sz2)) = some (min n2 dl, winA y o2 (min n2 dl * sz2)) := by simp [srcOf, hm2, hle2]
            obtain ⟨pq, cq, rfl, g1, g2, g3⟩ := hs
            have hs' : AV.rel ι (.c (.sl b2 o2 (min n2 dl) 0 sz2)) (.slice pq (min n2 dl) cq) := ⟨pq, cq, rfl, Nat.zero_le _, by omega, g3⟩
            obtain ⟨pq', cq', l, heq, _, hsh⟩ := srcOf_sound hss hsz0 hR hs'
            cases heq
            have hf := hsh.first P cq w rfl
            have hf' : (Builtin.firstCells sz2 (min n2 dl) (.slice pq n2 cq)).run P w = .ok l.toArray w := by
              have : (Builtin.firstCells sz2 (min n2 dl) (.slice pq n2 cq)) = Builtin.firstCells sz2 (min n2 dl) (.slice pq (min n2 dl) cq) := by cases pq <;> rfl
              rw [this]; exact hf
            have hl1 : ∀ u ∈ l, u.oneCell' = true := by
              intro u hu
              obtain ⟨j, hj, rfl⟩ := List.mem_iff_getElem.1 hu
              have hj' : j < min n2 dl * sz2 := by rw [← hsh.len]; exact hj
              obtain ⟨v', hv', hr⟩ := hsh.rel j (by rw [hsh.size]; exact hj')
              rw [List.getElem?_eq_getElem hj] at hv'
              cases hv'
              rw [winA_get hj'] at hr
              have := Arr.get_one hone (i := j) (by rw [hwin]; exact hj')
              rw [Arr.win_get _ _ _ _ hj'] at this
              exact Cell.rel_one hr this
            have hcell : ∀ j, j < l.toArray.size → ∃ v, l.toArray[j]? = some v ∧ ((y.win o2 (min n2 dl * sz2)).get j).rel ι v := by
              intro j hj
              have hj' : j < min n2 dl * sz2 := by rw [← hsh.len]; simpa using hj
              obtain ⟨v', hv', hr⟩ := hsh.rel j (by rw [hsh.size]; exact hj')
              refine ⟨v', by simpa using hv', ?_⟩
              rw [winA_get hj'] at hr
              rw [Arr.win_get _ _ _ _ hj']; exact hr
            have hn : Nat.min n2 dl = min n2 dl := rfl
            rcases h3 with h3 | ⟨loc, hb, rfl, hfit⟩
            · have hdl : dl = 0 := by omega
              subst hdl
              obtain rfl : l = [] := List.eq_nil_of_length_eq_zero (by rw [hsh.len]; simp)
              refine ⟨.int .i64 (min n2 0 : Nat), w, ι, ?_, rfl, same_step hR hm s1 (fun j hj => by rw [s2 j hj, if_neg (by rw [hwin]; simp)])⟩
              have hf0 : (Builtin.firstCells sz2 0 (.slice pq n2 cq)).run P w = .ok #[] w := by simpa using hf'
              cases pp <;> simp [Builtin.copy_, run_underlying hu, Builtin.lenOf, run_sizeT hsz, hf0, storeCells, goInt]
            · obtain ⟨cs, tt, fr, k1, k2, k3, k4⟩ := hR.rows b loc true x hb hm
              obtain ⟨rfl, k5⟩ := k4 rfl
              have hll : l.length = min n2 dl * sz2 := hsh.len
              have hst := run_storeCells_at P loc.c (loc.off + o) tt l 0 cs w k1 (by omega) hl1
              simp only [Nat.add_zero] at hst
              have hsize : (cs.toList.take (loc.off + o) ++ l ++ cs.toList.drop (loc.off + o + l.length)).toArray.size = cs.size := by simp; omega
              have hrel := over_rel (g := (y.win o2 (min n2 dl * sz2)).get) (vs := l.toArray) k3 s1 (o := o) (by simp; omega) (by
                intro j hj
                have := s2 j hj
                rw [hwin] at this
                simp only [List.size_toArray, hll]
                exact this) hcell
              have hst2 := store_step (y := z) hR hb hm k1 hsize (by omega) (by simpa using hrel)
              refine ⟨.int .i64 (min n2 dl : Nat), _, ι, ?_, rfl, hst2⟩
              simp [Builtin.copy_, run_underlying hu, Builtin.lenOf, run_sizeT hsz, hn, hf', hst, goInt]
          · cases h
        · cases h
      · cases h
    · cases h
  · cases h
def strBytes (s : ByteArray) : List (BitVec 8) := s.data.toList.map (·.toBitVec)
def evStrBytes (P : Program) (M : Mem) (s d : TypeId) (x : AV) : Option (AV × Mem) :=
  match P.underlying s, P.underlying d, x with
  | some .string, some (.slice e), .c (.val (.string b)) =>
    match P.underlying e with
    | some (.int .u8) => some (.c (.sl M.length 0 b.size b.size 1), M ++ [.row false (.a8 (strBytes b))])
    | _ => none
  | _, _, _ => none
theorem evStrBytes_sound {P : Program} {M M' : Mem} {s d : TypeId} {x v : AV} (h : evStrBytes P M s d x = some (v, M')) {ι : Emb} {w : World} (hR : R ι M w) {p : Value} (hx : x.rel ι p) : MemOk P ι M w v M' (convert s d p) := by
  unfold evStrBytes at h
  split at h
  · rename_i e b hs hd
    obtain rfl : p = .string b := hx
    split at h
    · rename_i he
      cases h
      obtain ⟨cap, hcap, hrun⟩ : ∃ cap, b.size ≤ cap ∧ (convert s d (.string b)).run P w = .ok (.slice (some ⟨w.heap.size, 0, none⟩) b.size cap) ((w.drew.alloc (.cells (b.data.map (fun b => Value.int .u8 b.toNat) ++ Array.replicate (cap - b.size) (.int .u8 0)) e)).freeze ⟨w.heap.size, cap, none⟩ 1) := by
        refine ⟨(Question.appendCap b.size 0 e).cut (w.tape w.drawn (.appendCap b.size 0 e)), by simp [Question.cut], ?_⟩
        have hc : b.size ≤ (Question.appendCap b.size 0 e).cut (w.tape w.drawn (.appendCap b.size 0 e)) := by simp [Question.cut]
        have hsh : (w.drew.alloc (.cells (b.data.map (fun b => Value.int .u8 b.toNat) ++ Array.replicate ((Question.appendCap b.size 0 e).cut (w.tape w.drawn (.appendCap b.size 0 e)) - b.size) (.int .u8 0)) e)).shape? w.heap.size = some (e, (Question.appendCap b.size 0 e).cut (w.tape w.drawn (.appendCap b.size 0 e))) := by
          have e1 : b.data.size = b.size := rfl
          simp only [World.shape?]
          rw [heap_alloc_if, if_pos (show w.heap.size = w.drew.heap.size from rfl)]
          simp only [Array.size_append, Array.size_map, Array.size_replicate, e1]
          congr 2
          omega
        simp [convert, run_underlying hs, run_underlying hd, run_underlying he, Conv.stringToBytes, newRow, markStringish, Question.forced]
        rw [hsh]
        simp
      have hheap : ∃ fr, ((w.drew.alloc (.cells (b.data.map (fun b => Value.int .u8 b.toNat) ++ Array.replicate (cap - b.size) (.int .u8 0)) e)).freeze ⟨w.heap.size, cap, none⟩ 1).heap = w.heap.push (.cells (b.data.map (fun b => Value.int .u8 b.toNat) ++ Array.replicate (cap - b.size) (.int .u8 0)) e fr) := by
        refine ⟨(cap, cap + 1), ?_⟩
        unfold World.freeze
        rw [if_neg (by omega)]
        apply Array.ext_getElem?
        intro i
        simp only [Array.getElem?_modify]
        rw [heap_alloc_if, Array.getElem?_push]
        show (if w.heap.size = i then _ else _) = _
        by_cases hi : w.heap.size = i
        · subst hi
          rw [if_pos rfl, if_pos rfl]
          show Option.map _ (if w.drew.heap.size = w.drew.heap.size then _ else _) = _
          rw [if_pos rfl]
          rfl
        · rw [if_neg hi, if_neg (fun h => hi h.symm)]
          show w.heap[i]? = _
          rw [if_neg (fun h => hi h.symm)]
      obtain ⟨fr, hheap⟩ := hheap
      have hfz : ∀ (W : World) (a : Addr) (n : Nat), (W.freeze a n).os = W.os ∧ (W.freeze a n).tape = W.tape ∧ (W.freeze a n).output = W.output := by
        intro W a n; unfold World.freeze; split <;> exact ⟨rfl, rfl, rfl⟩
      have e1 : b.data.size = b.size := rfl
      have hst := alloc_ro (x := .a8 (strBytes b)) hR hheap (hfz _ _ _).1 (hfz _ _ _).2.1 (hfz _ _ _).2.2 (by simp [Arr.size, strBytes, e1]) (by
        intro i hi
        have hi' : i < b.data.size := by simpa [Arr.size, strBytes] using hi
        refine ⟨.int .u8 b.data[i].toNat, ?_, ?_⟩
        · rw [Nat.zero_add, Array.getElem?_append_left (by simpa using hi'), Array.getElem?_map, Array.getElem?_eq_getElem hi']
          rfl
        · have h7 : (strBytes b).getD i 0 = b.data[i].toBitVec := by
            rw [List.getD_eq_getElem?_getD, strBytes, List.getElem?_map, Array.getElem?_toList, Array.getElem?_eq_getElem hi']; rfl
          simp only [Arr.get, Cell.rel, nth]
          rw [h7]
          rfl)
      refine ⟨_, _, _, hrun, ⟨_, cap, rfl, hcap, hcap, .inr ⟨_, Emb.upd_eq _ _ _, rfl, ?_⟩⟩, hst⟩
      simp [e1]; omega
    · cases h
  · cases h
/-! ### All of them -/
/-- A slice of bytes that is written out as a string: no one writes it. -/
def evMark (P : Program) (M : Mem) (s d : TypeId) (x : AV) : Option (AV × Mem) :=
  match P.underlying s, P.underlying d, x with
  | some (.slice _), some (.slice e), .c (.sl b o len cap sz) =>
    match P.underlying e, M[b]? with
    | some (.int .u8), some (.row true y) => if s = d ∧ 0 < len then some (.c (.sl M.length o len cap sz), M.set b .dead ++ [.row false y]) else none
    | _, _ => none
  | _, _, _ => none
theorem mark_step {ι : Emb} {M : Mem} {w w' : World} (hR : R ι M w) {b : Nat} {l : Loc} {y : Arr} (hb : ι b = some l) (hm : M[b]? = some (.row true y)) (ho : w'.os = w.os) (ht : w'.tape = w.tape) (hu : w'.output = w.output) (hsz : w'.heap.size = w.heap.size)
    (hoth : ∀ c, c ≠ l.c → w'.heap[c]? = w.heap[c]?) (hat : ∀ cs t fr, w.heap[l.c]? = some (.cells cs t fr) → ∃ fr', w'.heap[l.c]? = some (.cells cs t fr')) :
    Step M.length ι M w (ι.upd M.length l) (M.set b .dead ++ [.row false y]) w' := by
  have hown : Owned ι M l.c := ⟨b, l, y, hb, hm, rfl⟩
  have hle := hR.upd_le l
  have hlen : (M.set b Row.dead).length = M.length := by simp
  have pick : ∀ {b1 : Nat} {own : Bool} {z : Arr}, (M.set b .dead ++ [.row false y])[b1]? = some (.row own z) → (b1 ≠ b ∧ b1 < M.length ∧ M[b1]? = some (.row own z)) ∨ (b1 = M.length ∧ own = false ∧ z = y) := by
    intro b1 own z h
    rcases app_row h with ⟨hlt, h⟩ | ⟨rfl, e⟩
    · by_cases e1 : b = b1
      · subst e1
        rw [List.getElem?_set_self (by omega)] at h
        cases h
      · rw [List.getElem?_set_ne e1] at h
        exact .inl ⟨fun e => e1 e.symm, by omega, h⟩
    · cases e; exact .inr ⟨hlen, rfl, rfl⟩
  have apart : ∀ {b1 : Nat} {l1 : Loc} {own : Bool} {z : Arr}, b1 ≠ b → ι b1 = some l1 → M[b1]? = some (.row own z) → l1.c ≠ l.c := fun hne h1 k1 => hR.inj _ b _ l _ true _ y hne h1 hb k1 hm (.inr rfl)
  refine ⟨⟨fun b1 hb1 => ?_, fun b1 l1 own z hb1 hm1 => ?_, fun b1 b2 l1 l2 o1 o2 z1 z2 hne h1 h2 k1 k2 ho => ?_⟩, ⟨ho, ht, hu, Nat.le_of_eq hsz.symm, fun c _ hn => hoth c (fun e => hn (by rw [e]; exact hown)), fun c hc => ?_⟩, fun b1 hb1 => Emb.upd_ne (by omega), by simp, fun b1 z hb1 hm1 => ?_, fun b1 own z hb1 hm1 => ?_, fun b1 l1 own z hb1 h1 h2 => ?_⟩
  · simp at hb1
    rw [Emb.upd_ne (by omega)]; exact hR.dom b1 (by omega)
  · rcases pick hm1 with ⟨hne, hlt, hm1⟩ | ⟨rfl, rfl, rfl⟩
    · rw [Emb.upd_ne (by omega)] at hb1
      obtain ⟨cs1, t1, fr, k1, k2, k3, k4⟩ := hR.rows b1 l1 own z hb1 hm1
      exact ⟨cs1, t1, fr, by rw [hoth _ (apart hne hb1 hm1)]; exact k1, k2, k3.mono' hle, k4⟩
    · rw [Emb.upd_eq] at hb1; cases hb1
      obtain ⟨cs1, t1, fr, k1, k2, k3, _⟩ := hR.rows b l true z hb hm
      obtain ⟨fr', hat⟩ := hat cs1 t1 fr k1
      exact ⟨cs1, t1, fr', hat, k2, k3.mono' hle, fun h => by cases h⟩
  · rcases pick k1 with ⟨e1, g1, m1⟩ | ⟨e1, g1, _⟩ <;> rcases pick k2 with ⟨e2, g2, m2⟩ | ⟨e2, g2, _⟩
    · rw [Emb.upd_ne (by omega)] at h1 h2
      exact hR.inj b1 b2 l1 l2 o1 o2 z1 z2 hne h1 h2 m1 m2 ho
    · rw [Emb.upd_ne (by omega)] at h1
      rw [e2, Emb.upd_eq] at h2; cases h2
      exact apart e1 h1 m1
    · rw [Emb.upd_ne (by omega)] at h2
      rw [e1, Emb.upd_eq] at h1; cases h1
      exact fun e => apart e2 h2 m2 e.symm
    · exact absurd (e1.trans e2.symm) hne
  · obtain ⟨b1, l1, z, h1, k1, rfl⟩ := hc
    rcases pick k1 with ⟨e1, g1, k1⟩ | ⟨_, g, _⟩
    · rw [Emb.upd_ne (by omega)] at h1
      exact .inr ⟨b1, l1, z, h1, k1, rfl⟩
    · cases g
  · rw [List.getElem?_append_left (by simpa using hb1), List.getElem?_set_ne (fun e => by subst e; rw [hm] at hm1; cases hm1)]; exact hm1
  · rcases pick hm1 with ⟨_, _, hm1⟩ | ⟨rfl, _, _⟩
    · exact ⟨z, hm1⟩
    · omega
  · rcases pick h2 with ⟨_, hlt, _⟩ | ⟨rfl, _, _⟩
    · omega
    · rw [Emb.upd_eq] at h1
      cases h1
      exact .inr (.inl hown)
theorem evMark_sound {P : Program} {M M' : Mem} {s d : TypeId} {x v : AV} (h : evMark P M s d x = some (v, M')) {ι : Emb} {w : World} (hR : R ι M w) {p : Value} (hx : x.rel ι p) : MemOk P ι M w v M' (convert s d p) := by
  unfold evMark at h
  split at h
  · rename_i e0 e b o len cap sz hs hd
    split at h
    · rename_i y he hm
      split at h
      · rename_i hc
        obtain ⟨rfl, hlen⟩ := hc
        rw [hd] at hs
        cases hs
        cases h
        obtain ⟨q, cap', rfl, h1, h2, h3⟩ := hx
        rcases h3 with h3 | ⟨l, hl, rfl, h4⟩
        · omega
        · obtain ⟨cs, t, fr, k1, k2, k3, k4⟩ := hR.rows b l true y hl hm
          have hsh : w.shape? l.c = some (t, cs.size) := by simp only [World.shape?, k1]
          have hrun : (convert s s (.slice (some ⟨l.c, l.off + o, none⟩) len cap')).run P w = .ok (.slice (some ⟨l.c, l.off + o, none⟩) len cap') (w.freeze ⟨l.c, cs.size, none⟩ 1) := by
            simp [convert, run_underlying hd, run_underlying he, markStringish, hsh]
          have hw : (w.freeze ⟨l.c, cs.size, none⟩ 1).os = w.os ∧ (w.freeze ⟨l.c, cs.size, none⟩ 1).tape = w.tape ∧ (w.freeze ⟨l.c, cs.size, none⟩ 1).output = w.output ∧ (w.freeze ⟨l.c, cs.size, none⟩ 1).heap.size = w.heap.size := by
            unfold World.freeze
            rw [if_neg (by omega)]
            exact ⟨rfl, rfl, rfl, by simp⟩
          refine ⟨_, _, _, hrun, ⟨_, cap', rfl, h1, h2, .inr ⟨l, Emb.upd_eq _ _ _, rfl, h4⟩⟩, mark_step hR hl hm hw.1 hw.2.1 hw.2.2.1 hw.2.2.2 (fun c hc => ?_) (fun cs' t' fr' hc => ?_)⟩
          · unfold World.freeze
            rw [if_neg (by omega)]
            simp only [Array.getElem?_modify]
            rw [if_neg (fun h => hc h.symm)]
          · unfold World.freeze
            rw [if_neg (by omega)]
            simp only [Array.getElem?_modify, if_true, hc]
            exact ⟨_, rfl⟩
      · cases h
    · cases h
  · cases h
def evConvM (P : Program) (M : Mem) (s d : TypeId) (x : AV) : Option (AV × Mem) := match evStrBytes P M s d x with
  | some r => some r
  | none => evMark P M s d x
def evMin : List AV → Option AV
  | [.c (.val (.int k x)), .c (.val (.int k' y))] => if k = k' then some (.c (.val (.int k (if y < x then y else x)))) else none
  | _ => none
def evMax : List AV → Option AV
  | [.c (.val (.int k x)), .c (.val (.int k' y))] => if k = k' then some (.c (.val (.int k (if x < y then y else x)))) else none
  | _ => none
def evLen (P : Program) (t : TypeId) : AV → Option AV
  | .c (.sl _ _ n _ _) => if isSliceT P t then some (.c (.val (.int .i64 n))) else none
  | .c .nsl => if isSliceT P t then some (.c (.val (.int .i64 0))) else none
  | .c .esl => if isSliceT P t then some (.c (.val (.int .i64 0))) else none
  | _ => match P.underlying t with
    | some (.array n _) => some (.c (.val (.int .i64 n)))
    | _ => none
def evField (P : Program) (t : TypeId) (x : AV) (f : Nat) : Option AV :=
  match P.underlying t, x with
  | some (.struct fs), .agg y => match fs[f]? with
    | some fd => partA P fd.type y fd.offset
    | none => none
  | _, _ => none
def evFieldAddr (P : Program) (t : TypeId) (x : AV) (f : Nat) : Option AV :=
  match P.underlying t, x with
  | some (.struct fs), .c (.ptr b o) => match fs[f]? with
    | some fd => match szT P fd.type with
      | some n => if n = 0 then none else some (.c (.ptr b (o + fd.offset)))
      | none => none
    | none => none
  | _, _ => none
def evIdx (P : Program) (t : TypeId) (x i : AV) : Option AV :=
  match P.underlying t, x, intOf? i with
  | some (.array n el), .agg y, some i => match szT P el with
    | some sz => if 0 ≤ i ∧ i < n then partA P el y (i.toNat * sz) else none
    | none => none
  | _, _, _ => none
def evArrPtr (P : Program) (t : TypeId) : AV → Option AV
  | .c (.sl b o len _ _) => match P.underlying t with
    | some (.array n _) => if n ≤ len ∧ 0 < n then some (.c (.ptr b o)) else none
    | _ => none
  | _ => none
def evVal (P : Program) (e : Operand → AV) (M : Mem) : Op → Option AV
  | .move x => some (e x)
  | .assign x => some (e x)
  | .pick c a b => match e c with
    | .c (.val (.bool t)) => some (if t then e a else e b)
    | _ => none
  | .load t a => match e a with
    | .c (.ptr b o) => match M[b]? with
      | some (.row _ x) => partA P t x o
      | _ => none
    | _ => none
  | .nilCheck x => match e x with
    | .c (.ptr b o) => some (.c (.ptr b o))
    | _ => none
  | .binOp op t x y _ => evBin P op t x y (e x) (e y)
  | .unOp op _ x => match e x with
    | .c (.val v) => (pureOf (Op.unary op v)).map fun u => .c (.val u)
    | _ => none
  | .convert s d x => evConv P s d (e x)
  | .sliceToArrayPointer t x => evArrPtr P t (e x)
  | .slice t x lo hi none => evSlice P M t (e x) (lo.map e) (hi.map e)
  | .fieldAddr t x f => evFieldAddr P t (e x) f
  | .field t x f => evField P t (e x) f
  | .indexAddr t x i => evIndex P t (e x) (e i)
  | .index t x i => evIdx P t (e x) (e i)
  | .extract x i => match e x with
    | .tup l => l[i]?
    | _ => none
  | .build t ps => evBuild P t (ps.toList.map fun p => (p.1, e p.2))
  | .call c => match c.callee, c.args.toList, c.argTypes.toList with
    | .builtin .len, [x], [t] => evLen P t (e x)
    | .builtin .min, [x, y], _ => evMin [e x, e y]
    | .builtin .max, [x, y], _ => evMax [e x, e y]
    | _, _, _ => none
  | _ => none
def evMem (P : Program) (e : Operand → AV) (M : Mem) : Op → Option (AV × Mem)
  | .alloc t => evAlloc P M t
  | .box _ x => evBox M (e x)
  | .store t a x => (evStore P M t (e a) (e x)).map fun M' => (.c .any, M')
  | .convert s d x => evConvM P M s d (e x)
  | .makeSlice t l c => evMakeSlice P M t (e l) (e c)
  | .buildSlice t n ps => evBuildSlice P M t n (ps.toList.map fun p => (p.1, e p.2))
  | .call c => match c.callee, c.args.toList, c.argTypes.toList with
    | .builtin .append, [s, x], [t, t'] => evAppend P M t t' (e s) (e x)
    | .builtin .copy, [d, s], [t, _] => evCopy P M t (e d) (e s)
    | _, _, _ => none
  | _ => none
/-- The operation's run, told by the abstract one. -/
def OpOk (P : Program) (ι : Emb) (M : Mem) (w : World) (v : AV) (M' : Mem) (s : Sem Next) : Prop :=
  ∃ u w' ι', (s.run P w = .ok (.value u) w' ∨ (s.run P w = .ok .skip w' ∧ u = undef)) ∧ v.rel ι' u ∧ Step M.length ι M w ι' M' w'
theorem partsRel_map {ι : Emb} {e : Operand → AV} {ρ : Operand → Value} : ∀ (l : List (Nat × Operand)), (∀ p ∈ l, (e p.2).rel ι (ρ p.2)) → PartsRel ι (l.map fun p => (p.1, e p.2)) (l.map fun p => (p.1, ρ p.2))
  | [], _ => trivial
  | p :: l, h => ⟨rfl, h p List.mem_cons_self, partsRel_map l fun q hq => h q (List.mem_cons_of_mem _ hq)⟩
theorem len_case (P : Program) (e : Operand → AV) (ρ : Operand → Value) (dst : Option Tmp) (type : TypeId) (pos : String) (after : Array Edge) (guard : Option (Nat × Bool)) (x : Operand) (t : TypeId) (v : AV) (h : evLen P t (e x) = some v) (ι : Emb) (w : World)
    (hρ : ∀ y ∈ (Op.call { callee := .builtin .len, args := [x].toArray, argTypes := [t].toArray }).operands, (e y).rel ι (ρ y)) : ∃ u, (execOp ρ ⟨dst, .call { callee := .builtin .len, args := [x].toArray, argTypes := [t].toArray }, type, pos, after, guard⟩).run P w = .ok (.value u) w ∧ v.rel ι u := by
  have hxr := hρ x (by simp [Op.operands, Call.operands])
  have fin : ∀ n : Int, (Builtin.len_ #[t] type #[ρ x]).run P w = .ok (goInt n) w → v = .c (.val (.int .i64 n)) → ∃ u, (execOp ρ ⟨dst, .call { callee := .builtin .len, args := #[x], argTypes := #[t] }, type, pos, after, guard⟩).run P w = .ok (.value u) w ∧ v.rel ι u := by
    rintro n hn rfl
    exact ⟨goInt n, by simp [execOp, resolve, invoke, builtin, hn], rfl⟩
  unfold evLen at h
  split at h
  · rename_i b o n cap sz hx
    rw [hx] at hxr
    obtain ⟨p, cap', hp, _⟩ := hxr
    split at h
    · rename_i ht
      cases h
      unfold isSliceT at ht
      split at ht
      · rename_i el hu
        exact fin n (by simp [Builtin.len_, run_underlying hu, hp]) rfl
      · cases ht
    · cases h
  · rename_i hx
    rw [hx] at hxr
    have hp : ρ x = .slice none 0 0 := hxr
    split at h
    · rename_i ht
      cases h
      unfold isSliceT at ht
      split at ht
      · rename_i el hu
        exact fin 0 (by simp [Builtin.len_, run_underlying hu, hp]) rfl
      · cases ht
    · cases h
  · rename_i hx
    rw [hx] at hxr
    obtain ⟨p, hp⟩ := hxr
    split at h
    · rename_i ht
      cases h
      unfold isSliceT at ht
      split at ht
      · rename_i el hu
        exact fin 0 (by simp [Builtin.len_, run_underlying hu, hp]) rfl
      · cases ht
    · cases h
  · split at h
    · rename_i n el hu
      cases h
      exact fin n (by simp [Builtin.len_, run_underlying hu]) rfl
    · cases h
theorem min_case (P : Program) (e : Operand → AV) (ρ : Operand → Value) (dst : Option Tmp) (type : TypeId) (pos : String) (after : Array Edge) (guard : Option (Nat × Bool)) (x y : Operand) (ts : Array TypeId) (v : AV) (h : evMin [e x, e y] = some v) (ι : Emb) (w : World)
    (hρ : ∀ z ∈ (Op.call { callee := .builtin .min, args := [x, y].toArray, argTypes := ts }).operands, (e z).rel ι (ρ z)) : ∃ u, (execOp ρ ⟨dst, .call { callee := .builtin .min, args := [x, y].toArray, argTypes := ts }, type, pos, after, guard⟩).run P w = .ok (.value u) w ∧ v.rel ι u := by
  unfold evMin at h
  split at h
  · rename_i k a k' b heq
    split at h
    · rename_i hk
      cases h
      simp only [List.cons.injEq, and_true] at heq
      have h1 := hρ x (by simp [Op.operands, Call.operands])
      have h2 := hρ y (by simp [Op.operands, Call.operands])
      rw [heq.1] at h1
      rw [heq.2] at h2
      have e1 : ρ x = .int k a := h1
      have e2 : ρ y = .int k' b := h2
      exact ⟨_, by simp [execOp, resolve, invoke, builtin, Builtin.min_, Builtin.min2, e1, e2], rfl⟩
    · cases h
  · cases h
theorem max_case (P : Program) (e : Operand → AV) (ρ : Operand → Value) (dst : Option Tmp) (type : TypeId) (pos : String) (after : Array Edge) (guard : Option (Nat × Bool)) (x y : Operand) (ts : Array TypeId) (v : AV) (h : evMax [e x, e y] = some v) (ι : Emb) (w : World)
    (hρ : ∀ z ∈ (Op.call { callee := .builtin .max, args := [x, y].toArray, argTypes := ts }).operands, (e z).rel ι (ρ z)) : ∃ u, (execOp ρ ⟨dst, .call { callee := .builtin .max, args := [x, y].toArray, argTypes := ts }, type, pos, after, guard⟩).run P w = .ok (.value u) w ∧ v.rel ι u := by
  unfold evMax at h
  split at h
  · rename_i k a k' b heq
    split at h
    · rename_i hk
      cases h
      simp only [List.cons.injEq, and_true] at heq
      have h1 := hρ x (by simp [Op.operands, Call.operands])
      have h2 := hρ y (by simp [Op.operands, Call.operands])
      rw [heq.1] at h1
      rw [heq.2] at h2
      have e1 : ρ x = .int k a := h1
      have e2 : ρ y = .int k' b := h2
      exact ⟨_, by simp [execOp, resolve, invoke, builtin, Builtin.max_, Builtin.max2, e1, e2], rfl⟩
    · cases h
  · cases h
theorem evVal_sound {P : Program} {e : Operand → AV} {ρ : Operand → Value} {M : Mem} {o : Oper} {v : AV} (h : evVal P e M o.op = some v) {ι : Emb} {w : World} (hR : R ι M w) (hρ : ∀ x ∈ o.op.operands, (e x).rel ι (ρ x)) :
    ∃ u, (execOp ρ o).run P w = .ok (.value u) w ∧ v.rel ι u := by
  obtain ⟨dst, op, type, pos, after, guard⟩ := o
  simp only at h hρ ⊢
  have val : ∀ {s : Sem Value} {u : Value}, s.run P w = .ok u w → (do pure (.value (← s)) : Sem Next).run P w = .ok (.value u) w := by
    intro s u hs; simp [hs]
  unfold evVal at h
  split at h
  · rename_i x; cases h; exact ⟨_, rfl, hρ x (by simp [Op.operands])⟩
  · rename_i x; cases h; exact ⟨_, rfl, hρ x (by simp [Op.operands])⟩
  · rename_i c a b
    split at h
    · rename_i t hc
      cases h
      have := hρ c (by simp [Op.operands])
      rw [hc] at this
      have hcv : ρ c = .bool t := this
      refine ⟨if t then ρ a else ρ b, ?_, ?_⟩
      · simp [execOp, hcv, asBool]
      · cases t
        · exact hρ b (by simp [Op.operands])
        · exact hρ a (by simp [Op.operands])
    · cases h
  · rename_i t a
    split at h
    · rename_i b o ha
      have har := hρ a (by simp [Op.operands])
      rw [ha] at har
      obtain ⟨l, hb, hp⟩ := har
      split at h
      · rename_i own x hm
        obtain ⟨cs, t', fr, k1, k2, k3, k4⟩ := hR.rows b l own x hb hm
        obtain ⟨u, hu, hv⟩ := run_loadPart h k1 k3
        refine ⟨u, ?_, AV.rel_of0 hv⟩
        refine val ?_
        rw [hp]
        simp only [Instr.loadAt, Instr.sureAddr, Sem.run_bind, Sem.run_pure, Result.andThen_ok, hu]
      · cases h
    · cases h
  · rename_i x
    split at h
    · rename_i b o hx
      cases h
      have hxr := hρ x (by simp [Op.operands])
      rw [hx] at hxr
      obtain ⟨l, hb, hp⟩ := hxr
      exact ⟨_, by simp [execOp, hp], ⟨l, hb, rfl⟩⟩
    · cases h
  · rename_i op t x y yt
    obtain ⟨u, hu, hv⟩ := evBin_sound h (hρ x (by simp [Op.operands])) (hρ y (by simp [Op.operands])) w
    exact ⟨u, val hu, hv⟩
  · rename_i op t x
    split at h
    · rename_i y hx
      obtain ⟨u, hu, rfl⟩ := Option.map_eq_some_iff.1 h
      have hxr := hρ x (by simp [Op.operands])
      rw [hx] at hxr
      have hxv : ρ x = y := hxr
      refine ⟨u, val ?_, rfl⟩
      rw [hxv]; exact pureOf_run hu P w
    · cases h
  · rename_i s d x
    unfold evConv at h
    split at h
    · rename_i k n hx
      have hxr := hρ x (by simp [Op.operands])
      rw [hx] at hxr
      have hxv : ρ x = .int k n := hxr
      split at h
      · rename_i ds k' hs hd
        cases h
        refine ⟨_, val ?_, rfl⟩
        rw [hxv]
        exact conv_int (by rw [hs]; rfl) hd k n
      · cases h
    · cases h
  · rename_i t x
    unfold evArrPtr at h
    split at h
    · rename_i b o len cap sz hx
      have hxr := hρ x (by simp [Op.operands])
      rw [hx] at hxr
      obtain ⟨p, cap', hp, h1, h2, h3⟩ := hxr
      split at h
      · rename_i n el hu
        split at h
        · rename_i hc
          cases h
          rcases h3 with h3 | ⟨l, hb, rfl, _⟩
          · omega
          · refine ⟨_, val ?_, ⟨l, hb, rfl⟩⟩
            rw [hp]
            have : ¬ len < n := by omega
            simp [Instr.arrayAt, run_underlying hu, this]
        · cases h
      · cases h
    · cases h
  · rename_i t x lo hi
    have og : ∀ a : Option Operand, (∀ y ∈ a.toList, (e y).rel ι (ρ y)) → orel ι (a.map e) (a.map ρ) := by
      intro a ha
      cases a with
      | none => trivial
      | some y => exact ha y (by simp)
    obtain ⟨u, hu, hv⟩ := evSlice_sound h hR (hρ x (by simp [Op.operands])) (og lo fun y hy => hρ y (by simp [Op.operands] at hy ⊢; simp [hy])) (og hi fun y hy => hρ y (by simp [Op.operands] at hy ⊢; simp [hy]))
    exact ⟨u, val hu, hv⟩
  · rename_i t x f
    unfold evFieldAddr at h
    split at h
    · rename_i fs b o hu hx
      have hxr := hρ x (by simp [Op.operands])
      rw [hx] at hxr
      obtain ⟨l, hb, hp⟩ := hxr
      split at h
      · rename_i fd hf
        split at h
        · rename_i n hn
          split at h
          · cases h
          · rename_i h0
            cases h
            refine ⟨_, val ?_, ⟨l, hb, rfl⟩⟩
            rw [hp]
            simp [Instr.fieldAt, run_underlying hu, hf, Instr.sureAddr, fieldPlace, run_sizeT hn, h0, addr_at, Nat.add_assoc]
        · cases h
      · cases h
    · cases h
  · rename_i t x f
    unfold evField at h
    split at h
    · rename_i fs y hu hx
      have hxr := hρ x (by simp [Op.operands])
      rw [hx] at hxr
      obtain ⟨cs, hp, hs, hr⟩ := hxr
      split at h
      · rename_i fd hf
        obtain ⟨u, hu2, hv⟩ := run_part h hr w
        refine ⟨u, val ?_, AV.rel_of0 hv⟩
        rw [hp]
        simp [Instr.field, run_underlying hu, hf, asAgg, hu2]
      · cases h
    · cases h
  · rename_i t x i
    obtain ⟨u, hu, hv⟩ := evIndex_sound h w (hρ x (by simp [Op.operands])) (hρ i (by simp [Op.operands]))
    exact ⟨u, val hu, hv⟩
  · rename_i t x i
    unfold evIdx at h
    split at h
    · rename_i n el y iv hu hx hi
      have hxr := hρ x (by simp [Op.operands])
      rw [hx] at hxr
      obtain ⟨cs, hp, hs, hr⟩ := hxr
      obtain ⟨k, hk⟩ := intOf_rel hi (hρ i (by simp [Op.operands]))
      split at h
      · rename_i sz hsz
        split at h
        · rename_i hc
          obtain ⟨u, hu2, hv⟩ := run_part h hr w
          refine ⟨u, val ?_, AV.rel_of0 hv⟩
          rw [hp, hk]
          simp [Instr.index, asIntOf, run_underlying hu, hc, run_sizeT hsz, hu2]
        · cases h
      · cases h
    · cases h
  · rename_i x i
    split at h
    · rename_i l hx
      have hxr := hρ x (by simp [Op.operands])
      rw [hx] at hxr
      obtain ⟨vs, hp, hl, hr⟩ := hxr
      have hi : i < vs.size := by have := (List.getElem?_eq_some_iff.1 h).1; omega
      refine ⟨vs[i], val ?_, AV.rel_of0 (hr i v vs[i] h (by simp [hi]))⟩
      rw [hp]
      simp [Instr.extract, hi]
    · cases h
  · rename_i t ps
    have hpr := partsRel_map (e := e) (ρ := ρ) ps.toList fun p hp => hρ p.2 (by simp [Op.operands]; exact ⟨p.1, by simpa using hp⟩)
    obtain ⟨u, hu, hv⟩ := evBuild_sound (vs := ps.map fun (i, x) => (i, ρ x)) h (by simpa using hpr) w
    exact ⟨u, val hu, hv⟩
  · rename_i c
    obtain ⟨callee, args, argTypes⟩ := c
    have lit : ∀ {α : Type} {a : Array α} {l : List α}, a.toList = l → a = l.toArray := fun h => by rw [← h]
    simp only at h
    split at h
    · rename_i x t hargs htys
      obtain rfl := lit hargs
      obtain rfl := lit htys
      exact len_case P e ρ dst type pos after guard x t v h ι w hρ
    · rename_i x y hargs
      obtain rfl := lit hargs
      exact min_case P e ρ dst type pos after guard x y argTypes v h ι w hρ
    · rename_i x y hargs
      obtain rfl := lit hargs
      exact max_case P e ρ dst type pos after guard x y argTypes v h ι w hρ
    · cases h
  · cases h
end Go.Proofs.Ytlnekohkbhidnaa
