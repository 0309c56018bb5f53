/- Abstract data: literals, variables, stores, copies. -/
import Derived.Test.YtlnekohkbhidnaaAvApp
import Derived.Great.BuildSlice
namespace Go.Proofs.Ytlnekohkbhidnaa
open Go.RowKit

def fillA (pl : Nat → Option (Nat × Nat)) : Arr → List (Nat × AV) → Option Arr
  | x, [] => some x
  | x, (i, v) :: r =>
    match pl i, v with
    | some (off, sz), .c y => if sz = 1 ∧ y.one = true ∧ off < x.size then (x.set off y).bind (fillA pl · r) else none
    | some (off, sz), .agg y => if sz = y.size ∧ off + y.size ≤ x.size then (x.putW off y).bind (fillA pl · r) else none
    | _, _ => none
def PartsRel (ι : Emb) : List (Nat × AV) → List (Nat × Value) → Prop
  | [], [] => True
  | (i, a) :: l, (j, v) :: m => i = j ∧ a.rel ι v ∧ PartsRel ι l m
  | _, _ => False
theorem cells_one {v : Value} (h : v.oneCell' = true) : v.cells = #[v] := by cases v <;> first | rfl | cases h
theorem fillA_sound {pl : Nat → Option (Nat × Nat)} {ι : Emb} : ∀ {parts : List (Nat × AV)} {vs : List (Nat × Value)} {x y : Arr} {cs : Array Value}, fillA pl x parts = some y → PartsRel ι parts vs → cs.size = x.size → x.relAt ι cs 0 →
    ∃ cs', Instr.fill pl cs vs = some cs' ∧ cs'.size = y.size ∧ y.relAt ι cs' 0
  | [], vs, x, y, cs, h, hp, hs, hr => by
    cases vs with
    | nil => cases h; exact ⟨cs, rfl, hs, hr⟩
    | cons => exact hp.elim
  | (i, a) :: l, vs, x, y, cs, h, hp, hs, hr => by
    cases vs with
    | nil => exact hp.elim
    | cons p m =>
      obtain ⟨j, v⟩ := p
      obtain ⟨rfl, ha, hp⟩ := hp
      unfold fillA at h
      split at h
      · rename_i off sz c hpl
        split at h
        · rename_i hc
          obtain ⟨rfl, hone, hlt⟩ := hc
          obtain ⟨x', hx', h⟩ := Option.bind_eq_some_iff.1 h
          obtain ⟨s1, s2⟩ := Arr.set_spec hx'
          have h1 : v.oneCell' = true := Cell.rel_one ha hone
          have hv := cells_one h1
          have hset : (cs.setIfInBounds off v).size = x'.size := by simp [s1, hs]
          obtain ⟨cs', hf, r1, r2⟩ := fillA_sound (cs := cs.setIfInBounds off v) h hp hset (fun k hk => by
            rw [s1] at hk
            rw [s2 k hk, Nat.zero_add]
            by_cases e : k = off
            · subst e; rw [if_pos rfl]
              exact ⟨v, by simp [hs, hk], ha⟩
            · rw [if_neg e]
              obtain ⟨u, hu, hru⟩ := hr k hk
              exact ⟨u, by rw [Array.getElem?_setIfInBounds_ne (fun h => e h.symm)]; rw [Nat.zero_add] at hu; exact hu, hru⟩)
          refine ⟨cs', ?_, r1, r2⟩
          unfold Instr.fill
          simp only [hpl, hv]
          rw [if_neg (by simp; omega)]
          rw [← hf]
          simp
        · cases h
      · rename_i off sz z hpl
        split at h
        · rename_i hc
          obtain ⟨rfl, hle⟩ := hc
          obtain ⟨x', hx', h⟩ := Option.bind_eq_some_iff.1 h
          obtain ⟨s1, s2⟩ := Arr.putW_spec hx' hle
          obtain ⟨zs, rfl, hzs, hzr⟩ := ha
          obtain ⟨g1, g2⟩ := Great.foldl_set off zs.toList 0 cs
          obtain ⟨cs', hf, r1, r2⟩ := fillA_sound (cs := (zs.toList.zipIdx 0).foldl (fun cs (x : Value × Nat) => cs.setIfInBounds (off + x.2) x.1) cs) h hp (by rw [g1, s1, hs]) (fun k hk => by
            rw [s1] at hk
            rw [s2 k hk, Nat.zero_add, g2 k]
            by_cases e : off ≤ k ∧ k < off + z.size
            · rw [if_pos e, if_pos ⟨by omega, by simp; omega, by omega⟩]
              obtain ⟨u, hu, hru⟩ := hzr (k - off) (by omega)
              rw [Nat.zero_add] at hu
              refine ⟨u, ?_, hru⟩
              rw [Nat.add_zero]
              simpa using hu
            · rw [if_neg e, if_neg (by simp; omega)]
              obtain ⟨u, hu, hru⟩ := hr k hk
              rw [Nat.zero_add] at hu
              exact ⟨u, hu, hru⟩)
          refine ⟨cs', ?_, r1, r2⟩
          unfold Instr.fill
          have e1 : (Value.agg zs).cells = zs := rfl
          simp only [hpl, e1]
          rw [if_neg (by simp; omega)]
          rw [← hf]
          congr 1
          simp only [← Array.foldl_toList, Array.toList_zipIdx]
        · cases h
      · cases h
/-- All places one by one, each a known value of one cell. -/
def denseA : Nat → List (Nat × AV) → Option (List Value)
  | _, [] => some []
  | i, (j, .c (.val v)) :: r => if j = i ∧ v.oneCell' = true then (denseA (i + 1) r).map (v :: ·) else none
  | _, _ => none
theorem denseA_sound {ι : Emb} : ∀ {i : Nat} {parts : List (Nat × AV)} {vs : List Value} {ps : List (Nat × Value)}, denseA i parts = some vs → PartsRel ι parts ps → ps = (vs.zipIdx i).map (fun x => (x.2, x.1)) ∧ ∀ v ∈ vs, v.oneCell' = true
  | i, [], vs, ps, h, hp => by
    cases ps with
    | nil => simp only [denseA, Option.some.injEq] at h; subst h; exact ⟨rfl, fun v h => by cases h⟩
    | cons => exact hp.elim
  | i, (j, a) :: l, vs, ps, h, hp => by
    cases ps with
    | nil => exact hp.elim
    | cons p m =>
      obtain ⟨j', u⟩ := p
      obtain ⟨rfl, ha, hp⟩ := hp
      unfold denseA at h
      split at h
      · rename_i heq; cases heq
      · rename_i j2 v2 r2 heq
        cases heq
        split at h
        · rename_i hc
          obtain ⟨rfl, hone⟩ := hc
          obtain ⟨ws, hw, rfl⟩ := Option.map_eq_some_iff.1 h
          obtain ⟨e1, e2⟩ := denseA_sound hw hp
          obtain rfl : u = _ := ha
          refine ⟨by rw [e1]; rfl, fun x hx => ?_⟩
          rcases List.mem_cons.1 hx with rfl | hx
          · exact hone
          · exact e2 x hx
        · cases h
      · cases h
theorem fill_flat1 {vs : List Value} {cs : Array Value} (h1 : ∀ v ∈ vs, v.oneCell' = true) (hs : cs.size = vs.length) : Instr.fill (fun i => some (i * 1, 1)) cs ((vs.zipIdx 0).map fun x => (x.2, x.1)) = some vs.toArray :=
  Great.fill_flat _ _ (fun v hv => by rw [cells_one (h1 v hv)]) hs.symm
def evBuild (P : Program) (t : TypeId) (parts : List (Nat × AV)) : Option AV :=
  match P.info? t, P.underlying t with
  | some it, some (.array n e) =>
    match it.zero, P.info? e with
    | some z, some ie =>
      match (if ie.size = 1 ∧ parts.length = n ∧ z.cells.size = n then denseA 0 parts else none) with
      | some vs => some (.agg (absArr vs))
      | none => (fillA (fun i => some (i * ie.size, ie.size)) (absArr z.cells.toList) parts).map .agg
    | _, _ => none
  | some it, some (.struct fields) =>
    match it.zero, fields.toList.mapM (fun f => (P.info? f.type).map fun i => (f.offset, i.size)) with
    | some z, some places => (fillA (places.toArray[·]?) (absArr z.cells.toList) parts).map .agg
    | _, _ => none
  | _, _ => none
theorem denseA_len : ∀ {i : Nat} {parts : List (Nat × AV)} {vs : List Value}, denseA i parts = some vs → vs.length = parts.length
  | i, [], vs, h => by simp only [denseA, Option.some.injEq] at h; subst h; rfl
  | i, (j, a) :: l, vs, h => by
    unfold denseA at h
    split at h
    · rename_i heq; cases heq
    · rename_i heq
      cases heq
      split at h
      · obtain ⟨ws, hw, rfl⟩ := Option.map_eq_some_iff.1 h
        simp [denseA_len hw]
      · cases h
    · cases h
theorem absArr_list (ι : Emb) (vs : List Value) : (absArr vs).relAt ι vs.toArray 0 := by have := absArr_at ι vs.toArray; simpa using this
theorem evBuild_sound {P : Program} {t : TypeId} {parts : List (Nat × AV)} {v : AV} (h : evBuild P t parts = some v) {ι : Emb} {vs : Array (Nat × Value)} (hp : PartsRel ι parts vs.toList) (w : World) : ∃ u, (Instr.build t vs).run P w = .ok u w ∧ v.rel ι u := by
  unfold evBuild at h
  split at h
  · rename_i it n e hit hu
    split at h
    · rename_i z ie hz hie
      split at h
      · rename_i us hus
        split at hus
        · rename_i hc
          cases h
          obtain ⟨e1, e2⟩ := denseA_sound hus hp
          have hl := denseA_len hus
          refine ⟨.agg us.toArray, run_build w t vs _ ?_, ⟨_, rfl, by rw [(absArr_rel ι us).1]; simp, absArr_list ι us⟩⟩
          unfold Program.built
          simp only [hit, hu, hz, hie]
          rw [e1, hc.1]
          exact fill_flat1 e2 (by omega)
        · cases hus
      · obtain ⟨y, hy, rfl⟩ := Option.map_eq_some_iff.1 h
        obtain ⟨cs', k1, k2, k3⟩ := fillA_sound hy hp (cs := z.cells) (by rw [(absArr_rel ι _).1]; simp) (absArr_at ι _)
        refine ⟨.agg cs', run_build w t vs _ ?_, ⟨_, rfl, k2, k3⟩⟩
        unfold Program.built
        simp only [hit, hu, hz, hie]
        exact k1
    · cases h
  · rename_i it fields hit hu
    split at h
    · rename_i z places hz hpl
      obtain ⟨y, hy, rfl⟩ := Option.map_eq_some_iff.1 h
      obtain ⟨cs', k1, k2, k3⟩ := fillA_sound hy hp (cs := z.cells) (by rw [(absArr_rel ι _).1]; simp) (absArr_at ι _)
      refine ⟨.agg cs', run_build w t vs _ ?_, ⟨_, rfl, k2, k3⟩⟩
      unfold Program.built
      simp only [hit, hu, hz, hpl]
      exact k1
    · cases h
  · cases h
/-- What an operation that makes or writes memory says. -/
def MemOk (P : Program) (ι : Emb) (M : Mem) (w : World) (v : AV) (M' : Mem) (s : Sem Value) : Prop := ∃ u w' ι', s.run P w = .ok u w' ∧ v.rel ι' u ∧ Step M.length ι M w ι' M' w'
def repArr (P : Program) (el : TypeId) (n : Nat) : Option Arr :=
  match P.info? el with
  | some i => match i.zero with
    | some (.int .u8 0) => some (.a8 (List.replicate n 0#8))
    | some (.int .u32 0) => some (.a32 (List.replicate n 0#32))
    | some (.int .u64 0) => some (.a64 (List.replicate n 0#64))
    | some (.int .i64 0) => some (.ai (List.replicate n 0))
    | some z => if z.oneCell' then some (.ac (List.replicate n (absCell z))) else if n * i.size ≤ 4096 then some (absArr ((List.range (n * i.size)).map fun k => z.cells[k % z.cells.size]!)) else none
    | none => none
  | none => none
theorem repArr_sound {P : Program} {el : TypeId} {n : Nat} {x : Arr} (h : repArr P el n = some x) {i : TypeInfo} {z : Value} (hi : P.info? el = some i) (hz : i.zero = some z) (hs : z.cells.size = i.size) (ι : Emb) :
    x.size = n * i.size ∧ x.relAt ι ((Array.range (n * i.size)).map (z.cells[· % z.cells.size]!)) 0 := by
  have one : ∀ (c : Cell) (l : Arr), z.oneCell' = true → l.size = n → (∀ k, k < n → l.get k = c) → c.rel ι z → l.size = n * i.size ∧ l.relAt ι ((Array.range (n * i.size)).map (z.cells[· % z.cells.size]!)) 0 := by
    intro c l h1 hl hg hr
    have hc := cells_one h1
    have h1' : i.size = 1 := by rw [← hs, hc]; rfl
    refine ⟨by rw [hl, h1']; omega, fun k hk => ⟨z, ?_, by rw [hg k (by omega)]; exact hr⟩⟩
    have hkn : k < n * i.size := by rw [h1']; omega
    rw [Nat.zero_add, Array.getElem?_map, Array.getElem?_range, if_pos hkn, hc]
    simp [Nat.mod_one]
  unfold repArr at h
  rw [hi] at h
  simp only [hz] at h
  split at h <;> (try cases h)
  · rename_i e; cases e
    exact one (.val (.int .u8 0)) _ rfl (by simp [Arr.size]) (fun k hk => by simp [Arr.get, nth, hk, tn]) rfl
  · rename_i e; cases e
    exact one (.val (.int .u32 0)) _ rfl (by simp [Arr.size]) (fun k hk => by simp [Arr.get, nth, hk, tn]) rfl
  · rename_i e; cases e
    exact one (.val (.int .u64 0)) _ rfl (by simp [Arr.size]) (fun k hk => by simp [Arr.get, nth, hk, tn]) rfl
  · rename_i e; cases e
    exact one (.val (.int .i64 0)) _ rfl (by simp [Arr.size]) (fun k hk => by simp [Arr.get, geti, hk]) rfl
  · rename_i z' _ _ _ _ e; cases e
    split at h
    · rename_i h1
      cases h
      exact one (absCell z) _ h1 (by simp [Arr.size]) (fun k hk => by simp [Arr.get, getc, hk]) (absCell_rel ι z)
    · split at h
      · cases h
        refine ⟨by rw [(absArr_rel ι _).1]; simp, ?_⟩
        have := absArr_list ι ((List.range (n * i.size)).map fun k => z.cells[k % z.cells.size]!)
        have e : ((List.range (n * i.size)).map fun k => z.cells[k % z.cells.size]!).toArray = (Array.range (n * i.size)).map (z.cells[· % z.cells.size]!) := by
          apply Array.ext'; simp
        rw [e] at this
        exact this
      · cases h
def evBuildSlice (P : Program) (M : Mem) (t : TypeId) (len : Nat) (parts : List (Nat × AV)) : Option (AV × Mem) :=
  match P.underlying t with
  | some (.slice el) =>
    match elemOk P el with
    | some (sz, _) =>
      if len = 0 then (if parts.length = 0 then some (.c .esl, M) else none)
      else if len * sz ≤ 16777216 then
        match (if sz = 1 ∧ parts.length = len then denseA 0 parts else none) with
        | some vs => some (.c (.sl M.length 0 len len sz), M ++ [.row true (absArr vs)])
        | none => match repArr P el len with
          | some x => match fillA (fun i => some (i * sz, sz)) x parts with
            | some y => some (.c (.sl M.length 0 len len sz), M ++ [.row true y])
            | none => none
          | none => none
      else none
    | none => none
  | _ => none
theorem run_buildSlice0 {P : Program} {t el : TypeId} {i : TypeInfo} (hu : P.underlying t = some (.slice el)) (hi : P.info? el = some i) (w : World) : (Instr.buildSlice t 0 #[]).run P w = .ok (.slice (some ⟨w.heap.size, 0, none⟩) 0 0) (w.alloc (.cells #[] el)) := by
  simp [Instr.buildSlice, run_underlying hu, sizeOf, typeInfo, hi, Instr.fill, newRow, show Array.range 0 = #[] from rfl]
theorem alloc_plain {ι : Emb} {M : Mem} {w : World} (hR : R ι M w) (cs : Array Value) (t : TypeId) : Step M.length ι M w ι M (w.alloc (.cells cs t)) := by
  have old : ∀ c, c < w.heap.size → (w.alloc (.cells cs t)).heap[c]? = w.heap[c]? := fun c hc => by rw [heap_alloc_if, if_neg (by omega)]
  refine ⟨⟨hR.dom, fun b l own x hb hm => ?_, hR.inj⟩, ⟨rfl, rfl, rfl, by rw [size_alloc]; omega, fun c hc _ => old c hc, fun c h => .inr h⟩, fun _ _ => rfl, Nat.le_refl _, fun _ _ _ h => h, fun _ _ x _ h => ⟨x, h⟩, fun b l own x hb h1 h2 => (no_row hb h2).elim⟩
  obtain ⟨cs', t', fr, h1, h2⟩ := hR.rows b l own x hb hm
  exact ⟨cs', t', fr, by rw [old _ (Array.getElem?_eq_some_iff.1 h1).1]; exact h1, h2⟩
theorem new_slice {P : Program} {ι : Emb} {M : Mem} {w : World} (hR : R ι M w) {cs : Array Value} {t : TypeId} {x : Arr} {len sz : Nat} {s : Sem Value} (hs : cs.size = len * sz) (hxs : x.size ≤ cs.size) (hx : x.relAt ι cs 0)
    (hrun : s.run P w = .ok (.slice (some ⟨w.heap.size, 0, none⟩) len len) (w.alloc (.cells cs t))) : MemOk P ι M w (.c (.sl M.length 0 len len sz)) (M ++ [.row true x]) s := by
  have hst := alloc_step (w' := w.alloc (.cells cs t)) (t := t) hR rfl rfl rfl rfl hxs hx
  exact ⟨_, _, _, hrun, ⟨_, len, rfl, Nat.le_refl _, Nat.le_refl _, .inr ⟨_, Emb.upd_eq _ _ _, rfl, by simp only; omega⟩⟩, hst.1⟩
theorem evBuildSlice_sound {P : Program} {M M' : Mem} {t : TypeId} {len : Nat} {parts : List (Nat × AV)} {v : AV} (h : evBuildSlice P M t len parts = some (v, M')) {ι : Emb} {w : World} (hR : R ι M w) {vs : Array (Nat × Value)} (hp : PartsRel ι parts vs.toList) :
    MemOk P ι M w v M' (Instr.buildSlice t len vs) := by
  unfold evBuildSlice at h
  split at h
  · rename_i el hu
    split at h
    · rename_i sz by' hel
      obtain ⟨i, z, hi, hz, rfl, rfl, hzs, hsz⟩ := elemOk_spec hel
      split at h
      · rename_i h0
        subst h0
        split at h
        · rename_i hpl
          cases h
          obtain rfl : parts = [] := List.eq_nil_of_length_eq_zero hpl
          have hv : vs = #[] := by
            cases hl : vs.toList with
            | nil => exact Array.toList_eq_nil_iff.1 hl
            | cons a b => rw [hl] at hp; exact hp.elim
          subst hv
          exact ⟨_, _, ι, run_buildSlice0 hu hi w, ⟨_, rfl⟩, alloc_plain hR _ _⟩
        · cases h
      · rename_i h0
        split at h
        · rename_i hle
          have hpos : ¬ len * i.size = 0 := by
            have := Nat.mul_pos (Nat.pos_of_ne_zero h0) hsz
            omega
          split at h
          · rename_i us hus
            split at hus
            · rename_i hc
              cases h
              obtain ⟨e1, e2⟩ := denseA_sound hus hp
              have hl := denseA_len hus
              refine new_slice hR (cs := us.toArray) (by rw [hc.1]; simp; omega) (by rw [(absArr_rel ι us).1]; simp) (absArr_list ι us) (run_buildSlice w t el len vs _ i z hu hi hz (by omega) hpos ?_)
              rw [e1, hc.1]
              exact fill_flat1 e2 (by simp; omega)
            · cases hus
          · split at h
            · rename_i x hx
              split at h
              · rename_i y hy
                cases h
                obtain ⟨r1, r2⟩ := repArr_sound hx hi hz hzs ι
                obtain ⟨cs', k1, k2, k3⟩ := fillA_sound hy hp (cs := (Array.range (len * i.size)).map (z.cells[· % z.cells.size]!)) (by rw [r1]; simp) r2
                have hys : y.size = len * i.size := by
                  have : ∀ {pl : Nat → Option (Nat × Nat)} {parts : List (Nat × AV)} {x y : Arr}, fillA pl x parts = some y → y.size = x.size := by
                    intro pl parts
                    induction parts with
                    | nil => intro x y h; cases h; rfl
                    | cons p l ih =>
                      intro x y h
                      obtain ⟨j, a⟩ := p
                      unfold fillA at h
                      split at h
                      · split at h
                        · obtain ⟨x', hx', h⟩ := Option.bind_eq_some_iff.1 h
                          rw [ih h, (Arr.set_spec hx').1]
                        · cases h
                      · split at h
                        · rename_i hc
                          obtain ⟨x', hx', h⟩ := Option.bind_eq_some_iff.1 h
                          rw [ih h, (Arr.putW_spec hx' hc.2).1]
                        · cases h
                      · cases h
                  rw [this hy, r1]
                exact new_slice hR (by rw [k2, hys]) (by rw [k2]; exact Nat.le_refl _) k3 (run_buildSlice w t el len vs _ i z hu hi hz (by omega) hpos k1)
              · cases h
            · cases h
        · cases h
    · cases h
  · cases h
def evMakeSlice (P : Program) (M : Mem) (t : TypeId) (l c : AV) : Option (AV × Mem) :=
  match P.underlying t, intOf? l, intOf? c with
  | some (.slice el), some n, some m =>
    match elemOk P el with
    | some (sz, by') =>
      if 0 ≤ n ∧ n ≤ m ∧ m * by' ≤ 281474976710656 ∧ m ≤ 9223372036854775807 then
        (repArr P el m.toNat).map fun x => (.c (.sl M.length 0 n.toNat m.toNat sz), M ++ [.row true x])
      else none
    | none => none
  | _, _, _ => none
theorem wrap_small {m : Int} (h0 : 0 ≤ m) (h1 : m ≤ 9223372036854775807) : IntKind.i64.wrap m = m :=
  IntWalk.i64_in m (by omega)
theorem evMakeSlice_sound {P : Program} {M M' : Mem} {t : TypeId} {l c v : AV} (h : evMakeSlice P M t l c = some (v, M')) {ι : Emb} {w : World} (hR : R ι M w) {p q : Value} (hl : l.rel ι p) (hc : c.rel ι q) :
    MemOk P ι M w v M' (Instr.makeSlice t p q) := by
  unfold evMakeSlice at h
  split at h
  · rename_i el n m hu hn hm
    obtain ⟨k1, rfl⟩ := intOf_rel hn hl
    obtain ⟨k2, rfl⟩ := intOf_rel hm hc
    split at h
    · rename_i sz by' hel
      obtain ⟨i, z, hi, hz, rfl, rfl, hzs, hsz⟩ := elemOk_spec hel
      split at h
      · rename_i hcc
        obtain ⟨c0, c1, c2, c3⟩ := hcc
        obtain ⟨x, hx, he⟩ := Option.map_eq_some_iff.1 h
        cases he
        obtain ⟨nn, rfl⟩ := Int.eq_ofNat_of_zero_le c0
        obtain ⟨mm, rfl⟩ := Int.eq_ofNat_of_zero_le (Int.le_trans c0 c1)
        simp only [Int.toNat_natCast] at hx ⊢
        obtain ⟨r1, r2⟩ := repArr_sound hx hi hz hzs ι
        have w1 := wrap_small (m := (nn : Int)) (by omega) (by omega)
        have w2 := wrap_small (m := (mm : Int)) (by omega) c3
        have hb : ¬ (281474976710656 : Int) < i.bytes * mm := by rw [Int.mul_comm]; omega
        have e0 : (if mm * i.size = 0 then #[] else z.cells : Array Value) = #[] ∨ (if mm * i.size = 0 then #[] else z.cells : Array Value) = z.cells := by split <;> simp
        have hrun : (Instr.makeSlice t (.int k1 nn) (.int k2 mm)).run P w = .ok (.slice (some ⟨w.heap.size, 0, none⟩) nn mm) (w.alloc (.cells ((Array.range (mm * i.size)).map (z.cells[· % z.cells.size]!)) el)) := by
          by_cases hz0 : mm * i.size = 0
          · have hmm : ¬ (mm < nn) := by omega
            simp [Instr.makeSlice, run_underlying hu, asInt, asIntOf, typeInfo, sizeOf, hi, w1, w2, hb, hmm, hz0, newRow, show Array.range 0 = #[] from rfl]
            intro hneg; exfalso; omega
          · have hmm : ¬ (mm < nn) := by omega
            simp [Instr.makeSlice, run_underlying hu, asInt, asIntOf, typeInfo, sizeOf, zeroValue, hi, hz, w1, w2, hb, hmm, hz0, newRow]
            intro hneg; exfalso; omega
        have hst := alloc_step (w' := w.alloc (.cells ((Array.range (mm * i.size)).map (z.cells[· % z.cells.size]!)) el)) (t := el) hR rfl rfl rfl rfl (by rw [r1]; simp) r2
        exact ⟨_, _, _, hrun, ⟨_, mm, rfl, Nat.le_refl _, by omega, .inr ⟨_, Emb.upd_eq _ _ _, rfl, by simp⟩⟩, hst.1⟩
      · cases h
    · cases h
  · cases h
def rowOfV : AV → Option Arr
  | .agg y => some y
  | .c (.val v) => if v.oneCell' then some (absArr [v]) else none
  | .c .any => none
  | .c y => some (.ac [y])
  | .tup _ => none
theorem rowOfV_sound {v : AV} {x : Arr} (h : rowOfV v = some x) {ι : Emb} {u : Value} (hr : v.rel ι u) : x.size = u.cells.size ∧ x.relAt ι u.cells 0 := by
  unfold rowOfV at h
  split at h <;> (try cases h)
  · obtain ⟨cs, rfl, h1, h2⟩ := hr
    exact ⟨h1.symm, h2⟩
  · split at h
    · rename_i h1
      cases h
      obtain rfl : u = _ := hr
      rw [cells_one h1]
      exact ⟨by rw [(absArr_rel ι _).1]; rfl, absArr_list ι [u]⟩
    · cases h
  · rename_i y hn1 hn2
    have hone : y.one = true := by
      cases y with
      | any => exact absurd rfl hn2
      | val v => exact absurd rfl (hn1 v)
      | _ => rfl
    have h1 := Cell.rel_one hr hone
    rw [cells_one h1]
    refine ⟨rfl, fun i hi => ⟨u, ?_, ?_⟩⟩
    · obtain rfl : i = 0 := by simp [Arr.size] at hi; exact hi
      rfl
    · obtain rfl : i = 0 := by simp [Arr.size] at hi; exact hi
      exact hr
def evAlloc (P : Program) (M : Mem) (t : TypeId) : Option (AV × Mem) :=
  match P.info? t with
  | some i => match i.zero with
    | some z => some (.c (.ptr M.length 0), M ++ [.row true (absArr z.cells.toList)])
    | none => none
  | none => none
theorem evAlloc_sound {P : Program} {M M' : Mem} {t : TypeId} {v : AV} (h : evAlloc P M t = some (v, M')) {ι : Emb} {w : World} (hR : R ι M w) : MemOk P ι M w v M' (Instr.alloc t true (.tuple #[])) := by
  unfold evAlloc at h
  split at h
  · rename_i i hi
    split at h
    · rename_i z hz
      cases h
      have hst := alloc_step (w' := w.alloc (.cells z.cells t)) (t := t) hR rfl rfl rfl rfl (by rw [(absArr_rel ι z.cells.toList).1]; simp) (absArr_at ι z.cells)
      refine ⟨.pointer (some ⟨w.heap.size, 0, none⟩), _, _, ?_, ⟨_, Emb.upd_eq _ _ _, rfl⟩, hst.1⟩
      simp [Instr.alloc, zeroValue, typeInfo, hi, hz, newVar, newRow]
    · cases h
  · cases h
def evBox (M : Mem) (v : AV) : Option (AV × Mem) := (rowOfV v).map fun x => (.c (.ptr M.length 0), M ++ [.row true x])
theorem evBox_sound {P : Program} {M M' : Mem} {t : TypeId} {x v : AV} (h : evBox M x = some (v, M')) {ι : Emb} {w : World} (hR : R ι M w) {u : Value} (hx : x.rel ι u) : MemOk P ι M w v M' (Instr.box t u) := by
  obtain ⟨y, hy, he⟩ := Option.map_eq_some_iff.1 h
  cases he
  obtain ⟨r1, r2⟩ := rowOfV_sound hy hx
  have hst := alloc_step (w' := w.alloc (.cells u.cells t)) (t := t) hR rfl rfl rfl rfl (by rw [r1]; exact Nat.le_refl _) r2
  refine ⟨.pointer (some ⟨w.heap.size, 0, none⟩), _, _, ?_, ⟨_, Emb.upd_eq _ _ _, rfl⟩, hst.1⟩
  simp [Instr.box, newVar, newRow]
def evStore (P : Program) (M : Mem) (t : TypeId) (a v : AV) : Option Mem :=
  match a with
  | .c (.ptr b o) =>
    match M[b]? with
    | some (.row true x) =>
      match v with
      | .c y => if y.one = true ∧ szT P t = some 1 ∧ o < x.size then (x.set o y).map fun z => M.set b (.row true z) else none
      | .agg y => if y.one = true ∧ szT P t = some y.size ∧ o + y.size ≤ x.size then
          (if o = 0 ∧ y.size = x.size then some (M.set b (.row true y)) else (x.putW o y).map fun z => M.set b (.row true z)) else none
      | .tup _ => none
    | _ => none
  | _ => none
theorem run_storeVar_cells {P : Program} {w : World} {t : TypeId} {c o : Nat} {cs : Array Value} {t' : TypeId} {v : Value} (hsz : szT P t = some v.cells.size) (h : w.heap[c]? = some (.cells cs t' (0, 0))) (hfit : o + v.cells.size ≤ cs.size) (h1 : ∀ u ∈ v.cells.toList, u.oneCell' = true) :
    (storeVar t ⟨c, o, none⟩ v).run P w = .ok () (w.setRow c (cs.toList.take o ++ v.cells.toList ++ cs.toList.drop (o + v.cells.toList.length)).toArray) := by
  have hst := run_storeCells_at P c o t' v.cells.toList 0 cs w h (by simpa using hfit) h1
  simp only [Nat.add_zero] at hst
  simp only [storeVar, Sem.run_bind, run_sizeT hsz, Result.andThen_ok]
  rw [if_neg (by simp)]
  simpa using hst
theorem over_rel {ι : Emb} {x z : Arr} {cs vs : Array Value} {off o : Nat} {g : Nat → Cell} (hx : x.relAt ι cs off) (hz : z.size = x.size) (hfit : o + vs.size ≤ x.size)
    (hg : ∀ j, j < x.size → z.get j = if o ≤ j ∧ j < o + vs.size then g (j - o) else x.get j) (hv : ∀ j, j < vs.size → ∃ v, vs[j]? = some v ∧ (g j).rel ι v) :
    z.relAt ι (cs.toList.take (off + o) ++ vs.toList ++ cs.toList.drop (off + o + vs.toList.length)).toArray off := by
  intro j hj
  rw [hz] at hj
  rw [hg j hj]
  obtain ⟨u, hu, hr⟩ := hx j hj
  have hjc := (Array.getElem?_eq_some_iff.1 hu).1
  obtain ⟨u2, hu2, _⟩ := hx (o + vs.size - 1) (by omega)
  have hjc2 := (Array.getElem?_eq_some_iff.1 hu2).1
  have htl : (List.take (off + o) cs.toList).length = off + o := by simp; omega
  simp only [List.getElem?_toArray]
  by_cases e : o ≤ j ∧ j < o + vs.size
  · rw [if_pos e]
    obtain ⟨v, hv', hr'⟩ := hv (j - o) (by omega)
    refine ⟨v, ?_, hr'⟩
    rw [List.getElem?_append_left (by rw [List.length_append, htl]; simp; omega), List.getElem?_append_right (by omega), htl, ← hv', Array.getElem?_toList]
    congr 1; omega
  · rw [if_neg e]
    refine ⟨u, ?_, hr⟩
    by_cases e2 : j < o
    · rw [List.append_assoc, List.getElem?_append_left (by omega), List.getElem?_take, if_pos (by omega), Array.getElem?_toList]; exact hu
    · rw [List.getElem?_append_right (by rw [List.length_append, htl]; simp; omega), List.getElem?_drop, List.length_append, htl, Array.getElem?_toList, ← hu]
      congr 1
      simp; omega
theorem evStore_sound {P : Program} {M M' : Mem} {t : TypeId} {a v : AV} (h : evStore P M t a v = some M') {ι : Emb} {w : World} (hR : R ι M w) {p q : Value} (ha : a.rel ι p) (hv : v.rel ι q) :
    ∃ w', (Instr.storeAt t p q).run P w = .ok () w' ∧ Step M.length ι M w ι M' w' := by
  unfold evStore at h
  split at h
  · rename_i b o
    obtain ⟨loc, hb, rfl⟩ := ha
    split at h
    · rename_i x hm
      obtain ⟨cs, t', fr, k1, k2, k3, k4⟩ := hR.rows b loc true x hb hm
      obtain ⟨rfl, k5⟩ := k4 rfl
      have sz : ∀ {vs : Array Value}, loc.off + o + vs.size ≤ cs.size → (cs.toList.take (loc.off + o) ++ vs.toList ++ cs.toList.drop (loc.off + o + vs.toList.length)).toArray.size = cs.size := by
        intro vs h; simp; omega
      split at h
      · rename_i y
        split at h
        · rename_i hc
          obtain ⟨hone, hsz, hlt⟩ := hc
          obtain ⟨z, hz, rfl⟩ := Option.map_eq_some_iff.1 h
          obtain ⟨s1, s2⟩ := Arr.set_spec hz
          have h1 : q.oneCell' = true := Cell.rel_one hv hone
          have hq := cells_one h1
          have hfit : loc.off + o + q.cells.size ≤ cs.size := by rw [hq]; simp; omega
          have hrun := run_storeVar_cells (P := P) (t := t) (o := loc.off + o) (v := q) (by rw [hq]; exact hsz) k1 hfit (by rw [hq]; intro u hu; simp at hu; subst hu; exact h1)
          have hst := store_step (y := z) hR hb hm k1 (sz hfit) (by omega) (over_rel (g := fun _ => y) k3 s1 (by rw [hq]; simp; omega) (by
            intro j hj
            rw [s2 j hj, hq]
            by_cases e : j = o
            · rw [if_pos e, if_pos ⟨by omega, by simp; omega⟩]
            · rw [if_neg e, if_neg (by simp; omega)]) (by
            intro j hj
            rw [hq] at hj ⊢
            obtain rfl : j = 0 := by simpa using hj
            exact ⟨q, rfl, hv⟩))
          refine ⟨_, ?_, hst⟩
          simp only [Instr.storeAt, Instr.sureAddr, Sem.run_bind, Sem.run_pure, Result.andThen_ok, hrun]
        · cases h
      · rename_i y
        split at h
        · rename_i hc
          obtain ⟨hone, hsz, hle⟩ := hc
          obtain ⟨vs, rfl, hvs, hvr⟩ := hv
          have h1 : ∀ u ∈ (Value.agg vs).cells.toList, u.oneCell' = true := by
            intro u hu
            have hu : u ∈ vs.toList := hu
            obtain ⟨j, hj, rfl⟩ := List.mem_iff_getElem.1 hu
            have hj' : j < vs.size := by simpa using hj
            obtain ⟨v', hv', hr⟩ := hvr j (by omega)
            rw [Nat.zero_add, Array.getElem?_eq_getElem hj'] at hv'
            cases hv'
            have := Cell.rel_one hr (Arr.get_one hone (by omega))
            simpa using this
          have hfit : loc.off + o + vs.size ≤ cs.size := by omega
          have hrun := run_storeVar_cells (P := P) (t := t) (o := loc.off + o) (v := .agg vs) (by rw [show (Value.agg vs).cells = vs from rfl, hvs]; exact hsz) k1 hfit h1
          have hvr' : ∀ j, j < vs.size → ∃ v, vs[j]? = some v ∧ (y.get j).rel ι v := fun j hj => by have := hvr j (by omega); rwa [Nat.zero_add] at this
          have fin : ∀ z : Arr, z.size = x.size → (∀ j, j < x.size → z.get j = if o ≤ j ∧ j < o + y.size then y.get (j - o) else x.get j) → M' = M.set b (.row true z) → ∃ w', (Instr.storeAt t (.pointer (some ⟨loc.c, loc.off + o, none⟩)) (.agg vs)).run P w = .ok () w' ∧ Step M.length ι M w ι M' w' := by
            rintro z s1 s2 rfl
            have hst := store_step (y := z) hR hb hm k1 (sz hfit) (by omega) (over_rel (g := y.get) k3 s1 (by omega) (by rw [hvs]; exact s2) hvr')
            refine ⟨_, ?_, hst⟩
            simp only [Instr.storeAt, Instr.sureAddr, Sem.run_bind, Sem.run_pure, Result.andThen_ok, hrun]
            rfl
          split at h
          · rename_i hw
            cases h
            refine fin y hw.2 (fun j hj => ?_) rfl
            rw [if_pos ⟨by omega, by omega⟩, hw.1, Nat.sub_zero]
          · obtain ⟨z, hz, rfl⟩ := Option.map_eq_some_iff.1 h
            obtain ⟨s1, s2⟩ := Arr.putW_spec hz hle
            exact fin z s1 s2 rfl
        · cases h
      · cases h
    · cases h
  · cases h
end Go.Proofs.Ytlnekohkbhidnaa
