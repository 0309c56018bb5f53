/- The texts AvCanon, AvReg, AvLate, AvEv, AvLink, AvDraw, AvStores, AvView, AvSound, AvPart, merged into one. -/
import Derived.Test.YtmbepikkgkcgkaaGreatDoorUK1
import Derived.Scope
namespace Go.Proofs.YtmbepikkgkcgkaaGreatDoor
open Go.RowKit
theorem opOk_mem {P : Program} {ι : Emb} {M M' : Mem} {w : World} {v : AV} {s : Sem Value} (h : MemOk P ι M w v M' s) : OpOk P ι M w v M' (do pure (.value (← s))) := by
  obtain ⟨u, w', ι', hr, hv, hs⟩ := h
  exact ⟨u, w', ι', .inl (by simp [hr]), hv, hs⟩
theorem evMem_sound {P : Program} {e : Operand → AV} {ρ : Operand → Value} {M M' : Mem} {o : Oper} {v : AV} (h : evMem P e M o.op = some (v, M')) {ι : Emb} {w : World} (hR : R ι M w) (hρ : ∀ x ∈ o.op.operands, (e x).rel ι (ρ x)) :
    OpOk P ι M w v M' (execOp ρ o) := by
  obtain ⟨dst, op, type, pos, after, guard⟩ := o
  simp only at h hρ ⊢
  unfold evMem at h
  split at h
  · exact opOk_mem (evAlloc_sound h hR)
  · rename_i t x
    exact opOk_mem (evBox_sound h hR (hρ x (by simp [Op.operands])))
  · rename_i t a x
    obtain ⟨m, hm, he⟩ := Option.map_eq_some_iff.1 h
    cases he
    obtain ⟨w', hr, hs⟩ := evStore_sound hm hR (hρ a (by simp [Op.operands])) (hρ x (by simp [Op.operands]))
    exact ⟨undef, w', ι, .inr ⟨by simp [execOp, hr], rfl⟩, trivial, hs⟩
  · rename_i s d x
    unfold evConvM at h
    split at h
    · rename_i r hr
      cases h
      exact opOk_mem (evStrBytes_sound hr hR (hρ x (by simp [Op.operands])))
    · exact opOk_mem (evMark_sound h hR (hρ x (by simp [Op.operands])))
  · rename_i t l c
    exact opOk_mem (evMakeSlice_sound h hR (hρ l (by simp [Op.operands])) (hρ c (by simp [Op.operands])))
  · rename_i t n ps
    have hpr := partsRel_map (e := e) (ρ := ρ) ps.toList fun p hp => hρ p.2 (by simp [Op.operands]; exact ⟨p.1, by simpa using hp⟩)
    have e1 : (ps.map fun (i, x) => (i, ρ x)).toList = ps.toList.map fun p => (p.1, ρ p.2) := Array.toList_map
    rw [← e1] at hpr
    have hb := evBuildSlice_sound h hR hpr
    exact opOk_mem hb
  · rename_i c
    obtain ⟨callee, args, argTypes⟩ := c
    have lit : ∀ {α : Type} {a : Array α} {l : List α}, a.toList = l → a = l.toArray := fun h => by rw [← h]
    simp only at h
    split at h
    · rename_i s x t t' hargs htys
      obtain rfl := lit hargs
      obtain rfl := lit htys
      obtain ⟨u, w', ι', hr, hv, hs⟩ := evAppend_sound (ty := type) h hR (hρ s (by simp [Op.operands, Call.operands])) (hρ x (by simp [Op.operands, Call.operands]))
      exact ⟨u, w', ι', .inl (by simp [execOp, resolve, invoke, builtin, hr]), hv, hs⟩
    · rename_i d s t t' hargs htys
      obtain rfl := lit hargs
      obtain rfl := lit htys
      obtain ⟨u, w', ι', hr, hv, hs⟩ := evCopy_sound (t' := t') (ty := type) h hR (hρ d (by simp [Op.operands, Call.operands])) (hρ s (by simp [Op.operands, Call.operands]))
      exact ⟨u, w', ι', .inl (by simp [execOp, resolve, invoke, builtin, hr]), hv, hs⟩
    · cases h
  · cases h
def Cell.ren (ρ : Nat → Option Nat) : Cell → Cell
  | .ptr b o => match ρ b with | some b' => .ptr b' o | none => .any
  | .sl b o len cap sz => match ρ b with | some b' => .sl b' o len cap sz | none => .any
  | .mp b => match ρ b with | some b' => .mp b' | none => .any
  | .xs b n => match ρ b with | some b' => .xs b' n | none => .any
  | x => x
def Arr.ren (ρ : Nat → Option Nat) : Arr → Arr
  | .ac l => .ac (l.map (Cell.ren ρ))
  | x => x
def AV.ren (ρ : Nat → Option Nat) : AV → AV
  | .c x => .c (x.ren ρ)
  | .agg x => .agg (x.ren ρ)
  | .tup l => .tup (l.map fun | .c x => .c (x.ren ρ) | .agg x => .agg (x.ren ρ) | x => x)
def Row.ren (ρ : Nat → Option Nat) : Row → Row
  | .row own x => .row own (x.ren ρ)
  | .dead => .dead
def Cell.refs : Cell → List Nat
  | .ptr b _ => [b]
  | .sl b _ _ _ _ => [b]
  | .mp b => [b]
  | .xs b _ => [b]
  | _ => []
def Arr.refs : Arr → List Nat
  | .ac l => l.flatMap Cell.refs
  | _ => []
def AV.refs0 : AV → List Nat
  | .c x => x.refs
  | .agg x => x.refs
  | .tup _ => []
def AV.refs : AV → List Nat
  | .tup l => l.flatMap AV.refs0
  | x => x.refs0
def Row.refs : Row → List Nat
  | .row _ x => x.refs
  | .dead => []
structure Same (ρ : Nat → Option Nat) (ι ι' : Emb) : Prop where
  f : ∀ b b', ρ b = some b' → ι' b' = ι b
  tx : ∀ c o v, ι.tx c o v → ι'.tx c o v
theorem Cell.ren_rel {ρ : Nat → Option Nat} {ι ι' : Emb} (h : Same ρ ι ι') {x : Cell} {v : Value} (hr : x.rel ι v) : (x.ren ρ).rel ι' v := by
  cases x with
  | ptr b o =>
    obtain ⟨l, hl, rfl⟩ := hr
    simp only [Cell.ren]
    split
    · rename_i b' hb
      exact ⟨l, by rw [h.f b b' hb]; exact hl, rfl⟩
    · trivial
  | mp b =>
    obtain ⟨l, hl, rfl⟩ := hr
    simp only [Cell.ren]
    split
    · rename_i b' hb
      exact ⟨l, by rw [h.f b b' hb]; exact hl, rfl⟩
    · trivial
  | xs b n =>
    obtain ⟨l, hl, rfl⟩ := hr
    simp only [Cell.ren]
    split
    · rename_i b' hb
      exact ⟨l, by rw [h.f b b' hb]; exact hl, rfl⟩
    · trivial
  | lb x => exact ⟨StayRel.mono h.tx hr.1, hr.2⟩
  | bs x => exact StayRel.mono h.tx hr
  | is x => exact StayRel.mono h.tx hr
  | qb x k => obtain ⟨c, o, rfl, r⟩ := hr; exact ⟨c, o, rfl, fun i hi => h.tx _ _ _ (r i hi)⟩
  | qi x k => obtain ⟨c, o, rfl, r⟩ := hr; exact ⟨c, o, rfl, fun i hi => h.tx _ _ _ (r i hi)⟩
  | sl b o len cap sz =>
    obtain ⟨p, c, rfl, h1, h2, h3⟩ := hr
    simp only [Cell.ren]
    split
    · rename_i b' hb
      refine ⟨p, c, rfl, h1, h2, h3.imp id ?_⟩
      rintro ⟨l, hl, r⟩
      exact ⟨l, by rw [h.f b b' hb]; exact hl, r⟩
    · trivial
  | _ => exact hr
theorem Leaf.ren (ρ : Nat → Option Nat) (x : Leaf) : x.cell.ren ρ = x.cell := by cases x <;> rfl
theorem Arr.ren_size (ρ : Nat → Option Nat) (x : Arr) : (x.ren ρ).size = x.size := by cases x <;> simp [Arr.ren, Arr.size]
theorem Arr.ren_get (ρ : Nat → Option Nat) (x : Arr) (i : Nat) : (x.ren ρ).get i = (x.get i).ren ρ := by
  cases x with
  | ac l =>
    simp only [Arr.ren, Arr.get, getc]
    simp only [List.getD_eq_getElem?_getD, List.getElem?_map]
    cases l[i]? <;> rfl
  | an l =>
    simp only [Arr.ren, Arr.get]
    generalize i % 3 = j
    match j with
    | 0 => rfl
    | 1 => rfl
    | j + 2 => rfl
  | al l => exact (Leaf.ren ρ (getl l i)).symm
  | _ => rfl
theorem Arr.ren_map (ρ : Nat → Option Nat) (x : Arr) : (x.ren ρ).isMap = x.isMap := by cases x <;> rfl
theorem EntRel.ren {ρ : Nat → Option Nat} {ι ι' : Emb} (h : Same ρ ι ι') {es : List (Value × Leaf)} {ents : Array MapEntry} (hr : EntRel ι es ents) : EntRel ι' es ents := by
  refine ⟨hr.1, fun i p hp => ?_⟩
  obtain ⟨e, h1, h2, h3⟩ := hr.2 i p hp
  have h4 := Cell.ren_rel h h3
  rw [Leaf.ren] at h4
  exact ⟨e, h1, h2, h4⟩
theorem Arr.ren_rel {ρ : Nat → Option Nat} {ι ι' : Emb} (h : Same ρ ι ι') {x : Arr} {cs : Array Value} {off : Nat} (hr : x.relAt ι cs off) : (x.ren ρ).relAt ι' cs off := fun i hi => by
  rw [Arr.ren_size] at hi
  obtain ⟨v, hv, hv'⟩ := hr i hi
  exact ⟨v, hv, by rw [Arr.ren_get]; exact Cell.ren_rel h hv'⟩
theorem Holds.ren {ρ : Nat → Option Nat} {ι ι' : Emb} (h : Same ρ ι ι') {w : World} {own : Bool} {x : Arr} {l : Loc} (hr : Holds ι w own x l) : Holds ι' w own (x.ren ρ) l := by
  by_cases hx : x.isMap = false
  · obtain ⟨cs, t, fr, h1, h2, h3, h4⟩ := hr.cells hx
    exact .of (by rw [Arr.ren_map]; exact hx) ⟨cs, t, fr, h1, by rw [Arr.ren_size]; exact h2, Arr.ren_rel h h3, h4⟩
  · cases x <;> first | (exact absurd rfl hx) | skip
    obtain ⟨es, c, h1, h2⟩ := hr
    exact ⟨es, c, h1, h2.ren h⟩
theorem AV.ren_rel {ρ : Nat → Option Nat} {ι ι' : Emb} (h : Same ρ ι ι') {x : AV} {v : Value} (hr : x.rel ι v) : (x.ren ρ).rel ι' v := by
  cases x with
  | c x => exact Cell.ren_rel h (x := x) hr
  | agg x => obtain ⟨cs, rfl, h1, h2⟩ := hr; exact ⟨cs, rfl, by rw [Arr.ren_size]; exact h1, Arr.ren_rel h h2⟩
  | tup l =>
    obtain ⟨vs, rfl, h1, h2⟩ := hr
    refine ⟨vs, rfl, by simp [h1], fun i x u hx hu => ?_⟩
    rw [List.getElem?_map] at hx
    obtain ⟨y, hy, rfl⟩ := Option.map_eq_some_iff.1 hx
    have := h2 i y u hy hu
    cases y with
    | c y => exact Cell.ren_rel h (x := y) this
    | agg y => obtain ⟨cs, rfl, g1, g2⟩ := this; exact ⟨cs, rfl, by rw [Arr.ren_size]; exact g1, Arr.ren_rel h g2⟩
    | tup _ => exact this
def addNew (k : Nat) : List Nat → List Nat → List Nat
  | seen, [] => seen
  | seen, b :: l => if b < k ∨ b ∈ seen then addNew k seen l else addNew k (seen ++ [b]) l
def reach (k : Nat) (M : Mem) : Nat → Nat → List Nat → List Nat
  | 0, _, seen => seen
  | f + 1, i, seen => match seen[i]? with
    | some b => reach k M f (i + 1) (addNew k seen ((M.getD b .dead).refs))
    | none => seen
def rowsRefs : Mem → List Nat
  | [] => []
  | r :: l => r.refs ++ rowsRefs l
def reachIds (k : Nat) (M : Mem) (roots : List Nat) : List Nat := reach k M M.length 0 (addNew k (addNew k [] (rowsRefs (M.take k))) roots)
def idx (b : Nat) : List Nat → Nat → Option Nat
  | [], _ => none
  | x :: l, i => if x = b then some i else idx b l (i + 1)
theorem idx_some {b : Nat} : ∀ {l : List Nat} {i j : Nat}, idx b l i = some j → i ≤ j ∧ l[j - i]? = some b
  | [], _, _, h => by cases h
  | x :: l, i, j, h => by
    unfold idx at h
    split at h
    · rename_i e; cases h; subst e; simp
    · obtain ⟨h1, h2⟩ := idx_some h
      refine ⟨by omega, ?_⟩
      rw [show j - i = (j - (i + 1)) + 1 by omega, List.getElem?_cons_succ]
      exact h2
def canRen (k : Nat) (ids : List Nat) (b : Nat) : Option Nat := if b < k then some b else idx b ids k
def distinct : List Nat → Bool
  | [] => true
  | x :: l => !l.contains x && distinct l
theorem distinct_inj : ∀ {l : List Nat}, distinct l = true → ∀ i j b : Nat, l[i]? = some b → l[j]? = some b → i = j
  | [], _, i, j, b, h, _ => by simp at h
  | x :: l, hd, i, j, b, hi, hj => by
    simp only [distinct, Bool.and_eq_true, Bool.not_eq_true'] at hd
    have hx : ∀ n : Nat, l[n]? ≠ some x := fun n hn => by
      have := List.mem_of_getElem? hn
      have h2 := hd.1
      simp [this] at h2
    cases i with
    | zero =>
      cases j with
      | zero => rfl
      | succ j => simp at hi hj; subst hi; exact absurd hj (hx j)
    | succ i =>
      cases j with
      | zero => simp at hi hj; subst hj; exact absurd hi (hx i)
      | succ j => simp at hi hj; rw [distinct_inj hd.2 i j b hi hj]
def roRefs (k : Nat) : Mem → Bool
  | [] => true
  | .row own x :: l => (x.refs.all (· < k) || own) && roRefs k l
  | .dead :: l => roRefs k l
def canMem (k : Nat) (M : Mem) (ids : List Nat) : Mem := (M.take k).map (Row.ren (canRen k ids)) ++ ids.map fun b => (M.getD b .dead).ren (canRen k ids)
def canOk (k : Nat) (M : Mem) (ids : List Nat) : Bool := decide (k ≤ M.length) && distinct ids && ids.all (fun b => decide (k ≤ b) && decide (b < M.length)) && roRefs k (M.take k)
def canon (k : Nat) (roots : List AV) (M : Mem) : Option (List AV × Mem × List Nat) :=
  let ids := reachIds k M (roots.flatMap AV.refs)
  if canOk k M ids = true then some (roots.map (AV.ren (canRen k ids)), canMem k M ids, ids) else none
def canEmb (k : Nat) (ids : List Nat) (ι : Emb) : Emb := ⟨fun j => if j < k then ι j else match ids[j - k]? with | some b => ι b | none => none, ι.tx⟩
theorem can_same (k : Nat) (ids : List Nat) (ι : Emb) : Same (canRen k ids) ι (canEmb k ids ι) := by
  refine ⟨fun b b' h => ?_, fun _ _ _ h => h⟩
  unfold canRen at h
  split at h
  · rename_i hb; cases h; exact if_pos hb
  · obtain ⟨h1, h2⟩ := idx_some h
    unfold canEmb
    dsimp only
    rw [if_neg (by omega), h2]
theorem canMem_row {k : Nat} {M : Mem} {ids : List Nat} (hk : k ≤ M.length) {j : Nat} {own : Bool} {x : Arr} (h : (canMem k M ids)[j]? = some (.row own x)) :
    ∃ b y, M[b]? = some (.row own y) ∧ x = y.ren (canRen k ids) ∧ ((j < k ∧ b = j) ∨ (k ≤ j ∧ ids[j - k]? = some b)) := by
  unfold canMem at h
  have inv : ∀ {r : Row}, r.ren (canRen k ids) = .row own x → ∃ y, r = .row own y ∧ x = y.ren (canRen k ids) := by
    intro r hr
    cases r with
    | dead => cases hr
    | row o y => cases hr; exact ⟨y, rfl, rfl⟩
  by_cases hj : j < k
  · rw [List.getElem?_append_left (by simp; omega), List.getElem?_map, List.getElem?_take, if_pos hj] at h
    obtain ⟨r, hr, e⟩ := Option.map_eq_some_iff.1 h
    obtain ⟨y, rfl, hy⟩ := inv e
    exact ⟨j, y, hr, hy, .inl ⟨hj, rfl⟩⟩
  · rw [List.getElem?_append_right (by simp; omega), List.getElem?_map] at h
    obtain ⟨b, hb, e⟩ := Option.map_eq_some_iff.1 h
    have hlen : ((M.take k).map (Row.ren (canRen k ids))).length = k := by simp; omega
    rw [hlen] at hb
    obtain ⟨y, hy, hy2⟩ := inv e
    refine ⟨b, y, ?_, hy2, .inr ⟨by omega, hb⟩⟩
    rw [List.getD_eq_getElem?_getD] at hy
    cases hm : M[b]? with
    | none => rw [hm] at hy; cases hy
    | some r => rw [hm] at hy; simp at hy; rw [hy]
theorem canRen_id {k : Nat} {ids : List Nat} {b : Nat} (h : b < k) : canRen k ids b = some b := if_pos h
theorem ren_id {k : Nat} {ids : List Nat} {x : Arr} (h : x.refs.all (· < k) = true) : x.ren (canRen k ids) = x := by
  cases x with
  | ac l =>
    simp only [Arr.refs, List.all_eq_true, List.mem_flatMap, decide_eq_true_eq] at h
    simp only [Arr.ren]
    congr 1
    conv => rhs; rw [← List.map_id l]
    apply List.map_congr_left
    intro c hc
    cases c with
    | ptr b o => simp only [Cell.ren, canRen_id (h b ⟨_, hc, by simp [Cell.refs]⟩), id]
    | sl b o n c z => simp only [Cell.ren, canRen_id (h b ⟨_, hc, by simp [Cell.refs]⟩), id]
    | mp b => simp only [Cell.ren, canRen_id (h b ⟨_, hc, by simp [Cell.refs]⟩), id]
    | xs b n => simp only [Cell.ren, canRen_id (h b ⟨_, hc, by simp [Cell.refs]⟩), id]
    | _ => rfl
  | _ => rfl
theorem roRefs_spec {k : Nat} : ∀ {M : Mem}, roRefs k M = true → ∀ (b : Nat) (x : Arr), M[b]? = some (.row false x) → x.refs.all (· < k) = true
  | [], _, b, x, h => by simp at h
  | r :: l, hr, b, x, h => by
    cases b with
    | zero =>
      simp at h; subst h
      simp only [roRefs, Bool.or_false, Bool.and_eq_true] at hr
      exact hr.1
    | succ b =>
      have h : l[b]? = some (.row false x) := by simpa using h
      refine roRefs_spec (M := l) ?_ b x h
      cases r with
      | dead => exact hr
      | row own y => simp only [roRefs, Bool.and_eq_true] at hr; exact hr.2
theorem canon_step {k : Nat} {M : Mem} {ids : List Nat} (hok : canOk k M ids = true) {ι : Emb} {w : World} (hR : R ι M w) : Step k ι M w (canEmb k ids ι) (canMem k M ids) w := by
  simp only [canOk, Bool.and_eq_true, decide_eq_true_eq, List.all_eq_true] at hok
  obtain ⟨⟨⟨hk, hd⟩, hge0⟩, hro⟩ := hok
  have hge : ∀ b ∈ ids, k ≤ b := fun b hb => (hge0 b hb).1
  have hlen : (canMem k M ids).length = k + ids.length := by simp [canMem]; omega
  have emb : ∀ {j b : Nat}, (j < k ∧ b = j) ∨ (k ≤ j ∧ ids[j - k]? = some b) → canEmb k ids ι j = ι b := by
    rintro j b (⟨hj, rfl⟩ | ⟨hj, hb⟩)
    · exact if_pos hj
    · unfold canEmb; dsimp only; rw [if_neg (by omega), hb]
  have src : ∀ {j j' b b' : Nat}, j ≠ j' → ((j < k ∧ b = j) ∨ (k ≤ j ∧ ids[j - k]? = some b)) → ((j' < k ∧ b' = j') ∨ (k ≤ j' ∧ ids[j' - k]? = some b')) → b ≠ b' := by
    rintro j j' b b' hne (⟨hj, rfl⟩ | ⟨hj, hb⟩) (⟨hj', rfl⟩ | ⟨hj', hb'⟩) e
    · exact hne e
    · have := hge b' (List.mem_of_getElem? hb'); omega
    · have := hge b (List.mem_of_getElem? hb); omega
    · subst e
      have := distinct_inj hd _ _ _ hb hb'
      omega
  refine Step.make hR (fun j hj => ?_) (fun j l own x hj hm => ?_) (fun j j' l l' own own' x x' hne hj hj' hm hm' ho => ?_) ⟨rfl, rfl, rfl, Nat.le_refl _, fun _ _ _ => rfl, fun c hc => ?_⟩ rfl (fun b hb => if_pos hb) (by omega) (fun b x hb hm => ?_) (fun j own x hj hm => ?_) (fun j l own x hj h1 h2 => ?_)
  · unfold canEmb
    dsimp only
    rw [if_neg (by omega), List.getElem?_eq_none (by omega)]
  · obtain ⟨b, y, hy, rfl, hb⟩ := canMem_row hk hm
    rw [emb hb] at hj
    exact (hR.rows b l own y hj hy).ren (can_same k ids ι)
  · obtain ⟨b, y, hy, _, hb⟩ := canMem_row hk hm
    obtain ⟨b', y', hy', _, hb'⟩ := canMem_row hk hm'
    rw [emb hb] at hj
    rw [emb hb'] at hj'
    exact hR.inj b b' l l' own own' y y' (src hne hb hb') hj hj' hy hy' ho
  · obtain ⟨j, l, x, hj, hm, rfl⟩ := hc
    obtain ⟨b, y, hy, _, hb⟩ := canMem_row hk hm
    rw [emb hb] at hj
    exact .inr ⟨b, l, y, hj, hy, rfl⟩
  · unfold canMem
    rw [List.getElem?_append_left (by simp; omega), List.getElem?_map, List.getElem?_take, if_pos hb, hm]
    have := roRefs_spec hro b x (by rw [List.getElem?_take, if_pos hb]; exact hm)
    simp only [Option.map_some, Row.ren, ren_id this]
  · obtain ⟨b, y, hy, _, hb⟩ := canMem_row hk hm
    rcases hb with ⟨_, rfl⟩ | ⟨h, _⟩
    · exact ⟨y, hy⟩
    · omega
  · obtain ⟨b, y, hy, _, hb⟩ := canMem_row hk h2
    rw [emb hb] at h1
    rcases hb with ⟨h, _⟩ | ⟨_, hb⟩
    · omega
    · exact .inr (.inr ⟨b, l, own, y, hge b (List.mem_of_getElem? hb), h1, hy, rfl⟩)
end Go.Proofs.YtmbepikkgkcgkaaGreatDoor
namespace Go.Proofs.YtmbepikkgkcgkaaGreatDoor
open Go.RowKit
section
variable (ops : Array Oper)
def rowBits (o : Oper) (acc : Array Nat) : Nat := o.after.toList.foldl (fun s e => if Region.binds .any e then s ||| 2 ^ e.on ||| acc.getD e.on 0 else s) 0
def allBits : List Oper → Array Nat → Array Nat
  | [], acc => acc
  | o :: l, acc => allBits l (acc.push (rowBits o acc))
def bef (i j : Nat) : Bool := ((allBits ops.toList #[]).getD i 0).testBit j
def dstAt (k : Nat) : Option Tmp := (ops[k]?).bind (·.dst)
end
section
variable {ops : Array Oper}
theorem rowBits_spec (o : Oper) (acc : Array Nat) (j : Nat) (h : (rowBits o acc).testBit j = true) : ∃ e ∈ o.after, Region.binds .any e = true ∧ (j = e.on ∨ (acc.getD e.on 0).testBit j = true) := by
  have key : ∀ (l : List Edge) (s : Nat), (l.foldl (fun s e => if Region.binds .any e then s ||| 2 ^ e.on ||| acc.getD e.on 0 else s) s).testBit j = true → s.testBit j = true ∨ ∃ e ∈ l, Region.binds .any e = true ∧ (j = e.on ∨ (acc.getD e.on 0).testBit j = true) := by
    intro l
    induction l with
    | nil => intro s h; exact .inl h
    | cons e l ih =>
      intro s h
      simp only [List.foldl_cons] at h
      rcases ih _ h with h | ⟨e', he', hb⟩
      · split at h
        · rename_i hbind
          simp only [Nat.testBit_or, Bool.or_eq_true] at h
          rcases h with (h | h) | h
          · exact .inl h
          · refine .inr ⟨e, List.mem_cons_self, hbind, .inl ?_⟩
            rw [Nat.testBit_two_pow] at h
            simpa using (of_decide_eq_true h).symm
          · exact .inr ⟨e, List.mem_cons_self, hbind, .inr h⟩
        · exact .inl h
      · exact .inr ⟨e', List.mem_cons_of_mem _ he', hb⟩
  rcases key _ _ h with h | ⟨e, he, hb⟩
  · simp at h
  · exact ⟨e, by simpa using he, hb⟩
def Closed (ops : Array Oper) (listed : Nat → Bool) : Prop := ∀ j oj, ops[j]? = some oj → listed j = true → ∀ e ∈ oj.after, Region.binds .any e = true → listed e.on = true
theorem allBits_spec {listed : Nat → Bool} (hc : Closed ops listed) : ∀ (l : List Oper) (acc : Array Nat), (∀ j, l[j]? = ops[acc.size + j]?) →
    (∀ i, i < acc.size → ∀ j, (acc.getD i 0).testBit j = true → ∀ o, ops[i]? = some o → (∀ e ∈ o.after, Region.binds .any e = true → listed e.on = true) → listed j = true) →
    ∀ i j, ((allBits l acc).getD i 0).testBit j = true → ∀ o, ops[i]? = some o → (∀ e ∈ o.after, Region.binds .any e = true → listed e.on = true) → listed j = true := by
  intro l
  induction l with
  | nil =>
    intro acc _ hacc i j hb o ho hd
    by_cases hi : i < acc.size
    · exact hacc i hi j hb o ho hd
    · simp [allBits, Array.getElem?_eq_none (Nat.le_of_not_lt hi)] at hb
  | cons o l ih =>
    intro acc hl hacc
    have h0 : ops[acc.size]? = some o := by simpa using (hl 0).symm
    refine ih (acc.push (rowBits o acc)) (fun j => by have := hl (j + 1); simpa [Nat.add_assoc, Nat.add_comm 1 j] using this) ?_
    intro i hi j hb oi hoi hd
    simp only [Array.size_push] at hi
    by_cases hlt : i < acc.size
    · have e : (acc.push (rowBits o acc)).getD i 0 = acc.getD i 0 := by
        simp [Array.getElem?_push, Nat.ne_of_lt hlt]
      rw [e] at hb
      exact hacc i hlt j hb oi hoi hd
    · obtain rfl : i = acc.size := by omega
      have e : (acc.push (rowBits o acc)).getD acc.size 0 = rowBits o acc := by simp
      rw [e] at hb
      obtain rfl : o = oi := Option.some.inj (h0.symm.trans hoi)
      obtain ⟨e, he, hbind, hj | hj⟩ := rowBits_spec o acc j hb
      · rw [hj]; exact hd e he hbind
      · by_cases hlt2 : e.on < acc.size
        · have hon := hd e he hbind
          obtain ⟨oe, hoe⟩ : ∃ oe, ops[e.on]? = some oe := by
            have : acc.size < ops.size := (Array.getElem?_eq_some_iff.1 h0).1
            exact ⟨ops[e.on]'(by omega), Array.getElem?_eq_getElem (by omega)⟩
          exact hacc e.on hlt2 j hj oe hoe (fun e' he' hb' => hc e.on oe hoe hon e' he' hb')
        · simp [Array.getElem?_eq_none (Nat.le_of_not_lt hlt2)] at hj
theorem bef_spec {listed : Nat → Bool} (hc : Closed ops listed) {i j : Nat} (hb : bef ops i j = true) {o : Oper} (ho : ops[i]? = some o) (hd : ∀ e ∈ o.after, Region.binds .any e = true → listed e.on = true) : listed j = true :=
  allBits_spec hc ops.toList #[] (by simp) (fun i hi => absurd hi (by simp)) i j hb o ho hd
def noSelectB (o : Oper) : Bool := match o.op with | .select .. => false | _ => true
theorem noSelectB_spec {o : Oper} (h : noSelectB o = true) : ∀ cs b, o.op ≠ .select cs b := by
  intro cs b e; simp [noSelectB, e] at h
def Region.okX (ops : Array Oper) (n size : Nat) : Bool :=
  ops.toList.all noSelectB &&
  (List.range n).all fun i =>
    (match dstAt ops i with | some d => decide (d < size) && (List.range n).all (fun j => decide (i = j) || dstAt ops j != some d) | none => true) &&
    (match ops[i]? with
     | some o => (o.looksAt ops).all fun t => (List.range n).all fun j => dstAt ops j != some t || (decide (j < i) && bef ops i j) || (decide (i < j) && bef ops j i)
     | none => true)
structure OkX (ops : Array Oper) (n size : Nat) : Prop where
  sel : ∀ (j : Nat) (o : Oper), ops[j]? = some o → ∀ cs b, o.op ≠ .select cs b
  lt : ∀ i d, i < n → dstAt ops i = some d → d < size
  uniq : ∀ i j d, i < n → j < n → dstAt ops i = some d → dstAt ops j = some d → i = j
  look : ∀ i o t j, i < n → ops[i]? = some o → t ∈ o.looksAt ops → j < n → dstAt ops j = some t → (j < i ∧ bef ops i j = true) ∨ (i < j ∧ bef ops j i = true)
theorem Region.okX_spec {n size : Nat} (h : Region.okX ops n size = true) : OkX ops n size := by
  simp only [Region.okX, Bool.and_eq_true, List.all_eq_true, List.mem_range] at h
  obtain ⟨h1, h2⟩ := h
  refine ⟨fun j o ho => noSelectB_spec (h1 o ?_), fun i d hi hd => ?_, fun i j d hi hj hd hd' => ?_, fun i o t j hi ho ht hj hd => ?_⟩
  · have := Array.mem_of_getElem? ho
    simpa using this
  · have := (h2 i hi).1
    rw [hd] at this
    simp only [Bool.and_eq_true, decide_eq_true_eq] at this
    exact this.1
  · have := (h2 i hi).1
    rw [hd] at this
    simp only [Bool.and_eq_true, decide_eq_true_eq, List.all_eq_true, List.mem_range, Bool.or_eq_true] at this
    rcases this.2 j hj with h | h
    · exact h
    · rw [hd'] at h; simp at h
  · have := (h2 i hi).2
    rw [ho] at this
    simp only [List.all_eq_true, List.mem_range, Bool.or_eq_true, Bool.and_eq_true, decide_eq_true_eq] at this
    rcases this t ht j hj with (h | h) | h
    · rw [hd] at h; simp at h
    · exact .inl h
    · exact .inr h
end
def headListed (n size : Nat) : Array Bool := ((List.range size).map fun j => decide (j < n)).toArray
def Region.okAll (ops : Array Oper) (n size : Nat) : Bool :=
  decide (n ≤ ops.size) && Region.okX ops n size && (decide (n = ops.size) || (Region.sinkB .any ops n && Region.chainB .any ops n)) && Region.seqB .any ops (ops.size - n) n (headListed n ops.size) &&
  (List.range ops.size).all fun i => match ops[i]? with | some o => o.after.all fun e => !Region.binds .any e || decide (e.on < i) | none => true
end Go.Proofs.YtmbepikkgkcgkaaGreatDoor
namespace Go.Proofs.YtmbepikkgkcgkaaGreatDoor
open Go.RowKit
def lateOps (ops : Array Oper) (n i0 : Nat) : Array Oper :=
  match ops[n]? with
  | none => ops
  | some o => ops.setIfInBounds n { o with after := o.after.push ⟨i0, .data⟩ }
def lateCheck (ops : Array Oper) (n i0 : Nat) : Bool :=
  match ops[i0]?, ops[n]? with
  | some oi, some on =>
    decide (i0 ≠ n) && Region.noSelect ops && (match oi.op with | .extract .. => true | _ => false) && oi.guard.isNone &&
    oi.after.all (fun e => !Region.binds .any e || on.after.any fun e' => Region.binds .any e' && e'.on == e.on) &&
    (List.range ops.size).all (fun j => j == i0 || oi.after.any (fun e => Region.binds .any e && e.on == j) || match ops[j]? with
      | some oj => oj.after.any (fun e => Region.binds .any e && e.on == i0) || oi.apart ops oj
      | none => true)
  | _, _ => false
structure LateOk (ops : Array Oper) (n i0 : Nat) (oi on : Oper) : Prop where
  hi : ops[i0]? = some oi
  hn : ops[n]? = some on
  ne : i0 ≠ n
  sel : Region.noSelect ops = true
  ext : ∃ x k, oi.op = .extract x k
  guard : oi.guard = none
  sub : ∀ e ∈ oi.after, Region.binds .any e = true → ∃ e' ∈ on.after, Region.binds .any e' = true ∧ e'.on = e.on
  free : ∀ j oj, ops[j]? = some oj → j ≠ i0 → (∀ e ∈ oi.after, Region.binds .any e = true → e.on ≠ j) → (∀ e ∈ oj.after, Region.binds .any e = true → e.on ≠ i0) → oi.apart ops oj = true
section
variable {P : Program} {ops : Array Oper} {n i0 : Nat} {oi on : Oper}
theorem lateCheck_spec (h : lateCheck ops n i0 = true) : ∃ oi on, LateOk ops n i0 oi on := by
  unfold lateCheck at h
  split at h
  · rename_i oi on h1 h2
    simp only [Bool.and_eq_true, decide_eq_true_eq, Option.isNone_iff_eq_none] at h
    obtain ⟨⟨⟨⟨⟨a1, a2⟩, a3⟩, a4⟩, a5⟩, a6⟩ := h
    refine ⟨oi, on, h1, h2, a1, a2, ?_, a4, fun e he hb => ?_, fun j oj hj hji hd hu => ?_⟩
    · split at a3
      · rename_i x k e; exact ⟨x, k, e⟩
      · cases a3
    · have := Array.all_eq_true_iff_forall_mem.1 a5 e he
      simp only [hb, Bool.not_true, Bool.false_or] at this
      obtain ⟨e', he', h'⟩ := Array.any_eq_true'.1 this
      simp only [Bool.and_eq_true, beq_iff_eq] at h'
      exact ⟨e', he', h'.1, h'.2⟩
    · have := List.all_eq_true.1 a6 j (List.mem_range.2 (Array.getElem?_eq_some_iff.1 hj).1)
      simp only [hj, Bool.or_eq_true, beq_iff_eq] at this
      rcases this with (h3 | h3) | h3 | h3
      · exact absurd h3 hji
      · obtain ⟨e, he, h'⟩ := Array.any_eq_true'.1 h3
        simp only [Bool.and_eq_true, beq_iff_eq] at h'
        exact absurd h'.2 (hd e he h'.1)
      · obtain ⟨e, he, h'⟩ := Array.any_eq_true'.1 h3
        simp only [Bool.and_eq_true, beq_iff_eq] at h'
        exact absurd h'.2 (hu e he h'.1)
      · exact h3
  · cases h
theorem late_size (ops : Array Oper) (n i0 : Nat) : (lateOps ops n i0).size = ops.size := by
  unfold lateOps
  split <;> simp
theorem late_ne {j : Nat} (h : j ≠ n) : (lateOps ops n i0)[j]? = ops[j]? := by
  unfold lateOps
  split
  · rfl
  · exact Array.getElem?_setIfInBounds_ne (Ne.symm h)
theorem late_at (h : ops[n]? = some on) : (lateOps ops n i0)[n]? = some { on with after := on.after.push ⟨i0, .data⟩ } := by
  have hlt : n < ops.size := (Array.getElem?_eq_some_iff.1 h).1
  unfold lateOps
  rw [h]
  simp [hlt]
theorem late_dst (j : Nat) : ((lateOps ops n i0)[j]?).bind (·.dst) = (ops[j]?).bind (·.dst) := by
  by_cases h : j = n
  · subst h
    cases ho : ops[j]? with
    | none => unfold lateOps; rw [ho]; simp [ho]
    | some o => rw [late_at ho]; rfl
  · rw [late_ne h]
theorem late_yielded (tmps : Array Value) : yielded (lateOps ops n i0) tmps = yielded ops tmps := by
  funext j
  unfold yielded
  rw [late_dst]
theorem wpOp_late {Q : Exit → Act → World → Prop} {i : Nat} {K : Act → World → Prop} {a : Act} {w : World} : wpOp P (lateOps ops n i0) Q i K a w = wpOp P ops Q i K a w := by
  unfold wpOp
  rw [late_yielded]
  by_cases h : i = n
  · subst h
    cases ho : ops[i]? with
    | none => unfold lateOps; rw [ho]; simp [ho]
    | some o => rw [late_at ho]; rfl
  · rw [late_ne h]
def nrm (Q : Exit → Act → World → Prop) (e : Exit) (a : Act) (w : World) : Prop := e = .normal ∧ Q .normal a w
theorem extract_yields {Q : Exit → Act → World → Prop} {i : Nat} {o : Oper} {K : Act → World → Prop} {a : Act} {w : World} (hi : ops[i]? = some o) (hop : ∃ x k, o.op = .extract x k) (hg : o.guard = none) (h : wpOp P ops (nrm Q) i K a w) :
    ∃ v, Yields P ops o v a ∧ K (a.put o.dst v) w := by
  obtain ⟨x, k, hop⟩ := hop
  have hw : Region.wanted o (yielded ops a.tmps) = true := by unfold Region.wanted; rw [hg]
  unfold wpOp at h
  simp only [hi, hw, if_true] at h
  rcases h with h | ⟨_, _, _, h, _⟩
  · unfold Oper.wp at h
    have he : execOp a.eval o = (do pure (Next.value (← Instr.extract (a.eval x) k)) : Sem Next) := by unfold execOp; rw [hop]
    rw [he] at h
    cases hx : a.eval x with
    | tuple vs =>
      rw [hx] at h
      cases hv : vs[k]? with
      | none => simp only [Instr.extract, hv] at h; exact h.elim
      | some v =>
        simp only [Instr.extract, hv] at h
        refine ⟨v, .inl ⟨hw, fun w' => ?_⟩, h⟩
        rw [he, hx]
        simp only [Instr.extract, hv]
        rfl
    | _ => rw [hx] at h; exact h.elim
  · cases h
theorem late_sub {listed : Array Bool} (hl : LateOk ops n i0 oi on) {j : Nat} (h : j ∈ Region.ready .any (lateOps ops n i0) listed) : j ∈ Region.ready .any ops listed := by
  obtain ⟨h0, o, ho, hall⟩ := mem_ready.1 h
  by_cases hj : j = n
  · subst hj
    rw [late_at hl.hn] at ho
    cases ho
    exact mem_ready.2 ⟨h0, on, hl.hn, fun e he hb => hall e (Array.mem_push_of_mem _ he) hb⟩
  · rw [late_ne hj] at ho
    exact mem_ready.2 ⟨h0, o, ho, hall⟩
theorem late_or {listed : Array Bool} (hs : listed.size = ops.size) (hl : LateOk ops n i0 oi on) {j : Nat} (h : j ∈ Region.ready .any ops listed) : j ∈ Region.ready .any (lateOps ops n i0) listed ∨ i0 ∈ Region.ready .any (lateOps ops n i0) listed := by
  obtain ⟨h0, o, ho, hall⟩ := mem_ready.1 h
  by_cases hj : j = n
  · subst hj
    rw [hl.hn] at ho
    cases ho
    cases hb0 : listed.getD i0 false with
    | true =>
      refine .inl (mem_ready.2 ⟨h0, _, late_at hl.hn, fun e he hb => ?_⟩)
      rcases Array.mem_push.1 he with he | rfl
      · exact hall e he hb
      · exact hb0
    | false =>
      refine .inr (mem_ready.2 ⟨?_, oi, by rw [late_ne hl.ne]; exact hl.hi, fun e he hb => ?_⟩)
      · have hlt : i0 < listed.size := by rw [hs]; exact (Array.getElem?_eq_some_iff.1 hl.hi).1
        simp [hlt] at hb0 ⊢
        exact hb0
      · obtain ⟨e', he', hb', hon⟩ := hl.sub e he hb
        rw [← hon]; exact hall e' he' hb'
  · exact .inl (mem_ready.2 ⟨h0, o, by rw [late_ne hj]; exact ho, hall⟩)
theorem late_any {Q : Exit → Act → World → Prop} (hl : LateOk ops n i0 oi on) : ∀ (f : Nat) (listed : Array Bool) (a : Act) (w : World), listed.size = ops.size → wpAny P .any (lateOps ops n i0) (nrm Q) f listed a w → wpAny P .any ops (nrm Q) f listed a w := by
  have nil : ∀ listed : Array Bool, listed.size = ops.size → Region.ready .any (lateOps ops n i0) listed = [] → Region.ready .any ops listed = [] := fun listed hs h => by
    cases hr : Region.ready .any ops listed with
    | nil => rfl
    | cons x l =>
      have hx : x ∈ Region.ready .any ops listed := by rw [hr]; exact List.mem_cons_self
      rcases late_or hs hl hx with h' | h' <;> (rw [h] at h'; cases h')
  have lin : ∀ listed : Array Bool, Region.ready .any ops listed = [] → Region.ready .any (lateOps ops n i0) listed = [] := fun listed h => by
    cases hr : Region.ready .any (lateOps ops n i0) listed with
    | nil => rfl
    | cons x l =>
      have hx : x ∈ Region.ready .any (lateOps ops n i0) listed := by rw [hr]; exact List.mem_cons_self
      have := late_sub hl hx
      rw [h] at this; cases this
  intro f
  induction f with
  | zero => intro listed a w hs h; exact ⟨nil listed hs h.1, h.2⟩
  | succ f ih =>
    intro listed a w hs h
    by_cases hr : i0 ∈ Region.ready .any (lateOps ops n i0) listed
    · have h1 := h.2 i0 hr
      rw [wpOp_late] at h1
      obtain ⟨v, hy, hk⟩ := extract_yields hl.hi hl.ext hl.guard h1
      have hr' := late_sub hl hr
      refine wpAny_first hl.hi (Region.noSelect_spec hl.sel) (fun c a w h => by cases h.1) f listed a w (fun j oj hj hji hun hno => hl.free j oj hj hji (fun e he hb hon => ?_) hno) hr' hy (ih _ _ _ (by simpa using hs) hk)
      obtain ⟨_, o, ho, hall⟩ := mem_ready.1 hr'
      rw [hl.hi] at ho
      cases ho
      have h3 := hall e he hb
      rw [hon] at h3
      have hlt : j < listed.size := by rw [hs]; exact (Array.getElem?_eq_some_iff.1 hj).1
      simp [hlt] at h3 hun
      rw [h3] at hun; cases hun
    · refine ⟨fun h0 => h.1 (lin listed h0), fun i hi => ?_⟩
      rcases late_or hs hl hi with h' | h'
      · have h1 := h.2 i h'
        rw [wpOp_late] at h1
        exact wpOp_mono (fun a w hk => ih _ _ _ (by simpa using hs) hk) h1
      · exact absurd h' hr
end
end Go.Proofs.YtmbepikkgkcgkaaGreatDoor
namespace Go.Proofs.YtmbepikkgkcgkaaGreatDoor
open Go.RowKit
structure St where
  n : Nat
  t : Nat → AV
  m : Mem
def upd (t : Nat → AV) (d : Nat) (v : AV) : Nat → AV := fun i => if i = d then v else t i
theorem upd_eq (t : Nat → AV) (d : Nat) (v : AV) : upd t d v d = v := if_pos rfl
theorem upd_ne (t : Nat → AV) {d i : Nat} (v : AV) (h : i ≠ d) : upd t d v i = t i := if_neg h
def putT (t : Nat → AV) (d : Option Tmp) (v : AV) : Nat → AV := match d with | none => t | some d => upd t d v
def dstOk (n : Nat) : Option Tmp → Bool
  | none => true
  | some d => decide (d < n)
def evWanted (ops : Array Oper) (t : Nat → AV) (o : Oper) : Option Bool :=
  match o.guard with
  | none => some true
  | some (j, want) => match (ops[j]?).bind (·.dst) with
    | some d => match t d with
      | .c (.val (.bool b)) => some (b == want)
      | .c (.val (.tuple _)) => some false
      | _ => none
    | none => none
abbrev noV : AV := .c (.val undef)
def noT : Nat → AV := fun _ => .c .any
def keepT : List Nat → List AV → Nat → AV
  | x :: ks, v :: vs => upd (keepT ks vs) x v
  | _, _ => noT
def clean (k : Nat) (keep : List Nat) (s : St) : Option St :=
  match canon k (keep.map s.t) s.m with
  | some (vs, m, _) => some ⟨s.n, keepT keep vs, m⟩
  | none => none
def backRows (bs : List Nat) (mc : Mem) (ρ : Nat → Option Nat) : Nat → Mem → Mem
  | _, [] => []
  | i, .row true x :: l => (match idx i bs 0 with | some j => (mc.getD j .dead).ren ρ | none => .row true x) :: backRows bs mc ρ (i + 1) l
  | i, r :: l => r :: backRows bs mc ρ (i + 1) l
def backRen (bs : List Nat) (n : Nat) (i : Nat) : Option Nat := if i < bs.length then bs[i]? else some (i - bs.length + n)
def linkOut (bs : List Nat) (m : Mem) (v : AV) (mc : Mem) : AV × Mem :=
  (v.ren (backRen bs m.length), backRows bs mc (backRen bs m.length) 0 m ++ (mc.drop bs.length).map (Row.ren (backRen bs m.length)))
def argT (args : List AV) (i : Nat) : AV := args.getD i (.c .any)
def resOne (P : Program) (s : St) : ResultVar → Option AV
  | .tmp t => match s.t t with
    | .tup _ => none
    | v => some v
  | .cell a ty => match s.t a with
    | .c (.ptr b o) => match s.m[b]? with
      | some (.row _ x) => partA P ty x o
      | _ => none
    | _ => none
def resList (P : Program) (s : St) : List ResultVar → Option (List AV)
  | [] => some []
  | r :: l => match resOne P s r, resList P s l with
    | some v, some vs => some (v :: vs)
    | _, _ => none
def resV : List AV → AV
  | [v] => v
  | vs => .tup vs
structure ExtIs (P : Program) (f : FuncId) (e : Array Value → Sem Value) : Prop where
  h : ∃ fn, P.funcs[f]? = some fn ∧ (fn.name == "runtime.NumGoroutine") = false ∧ fn.body.isNone = true ∧ Extern.findNext fn = none ∧ Extern.find fn = some e
def roRow : Row → Row
  | .row _ x => .row false x
  | .dead => .dead
def roMem (m : Mem) : Mem := m.map roRow
def isStore (o : Oper) : Bool := match o.op with | .store .. => true | _ => false
def deadMem (n : Nat) : Mem := List.replicate n .dead
def Region.okStores (ops : Array Oper) (size : Nat) : Bool :=
  Region.okX ops ops.size size && (List.range ops.size).all fun i => match ops[i]? with
    | some o => o.guard.isNone && (!isStore o || (o.dst.isNone && (List.range ops.size).all fun j => match ops[j]? with | some o' => !isStore o' || !decide (i < j) || bef ops j i | none => true)) && o.after.all fun e => !Region.binds .any e || decide (e.on < i)
    | none => true
def early (ops : Array Oper) (i : Nat) : Bool := (List.range ops.size).all fun j => match ops[j]? with | some o' => !isStore o' || bef ops j i | none => true
def noRen : Nat → Option Nat := fun _ => none
inductive WeakC (ρ : Nat → Option Nat) : Cell → Cell → Prop
  | same {x : Cell} (h : x.ren noRen = x) : WeakC ρ x x
  | ptr {b b' o : Nat} (h : ρ b' = some b) : WeakC ρ (.ptr b o) (.ptr b' o)
  | sl {b b' o len cap sz : Nat} (h : ρ b' = some b) : WeakC ρ (.sl b o len cap sz) (.sl b' o len cap sz)
  | nil {b' sz : Nat} : WeakC ρ .nsl (.sl b' 0 0 0 sz)
  | emp {b' sz : Nat} : WeakC ρ .esl (.sl b' 0 0 0 sz)
inductive WeakL (ρ : Nat → Option Nat) : List AV → List AV → Prop
  | nil : WeakL ρ [] []
  | c {x y : Cell} {l m : List AV} (h : WeakC ρ x y) (hl : WeakL ρ l m) : WeakL ρ (.c x :: l) (.c y :: m)
  | agg {x : Arr} {l m : List AV} (h : x.ren noRen = x) (hl : WeakL ρ l m) : WeakL ρ (.agg x :: l) (.agg x :: m)
def viewRen (ρ : Nat → Option Nat) (n m j : Nat) : Option Nat := if j < n then ρ j else some (j - n + m)
inductive Ex where
  | normal
  | exit (id : Nat)
  | ret
inductive Task where
  | op (o : Op) (e : Operand → AV) (m : Mem)
  | ops (k : Nat) (ops : Array Oper) (l : List Oper) (s : St)
  | code (k : Nat) (c : Code) (s : St)
  | call (f : FuncId) (args : List AV) (m : Mem)
inductive Res where
  | val (v : AV) (m : Mem)
  | out (e : Ex) (s : St)
def Ex.block (id : Nat) : Ex → Ex
  | .exit i => if i = id then .normal else .exit i
  | e => e
def addC (x y c : BitVec 64) : BitVec 64 := BitVec.ofNat 64 ((x.toNat + y.toNat + c.toNat) / 18446744073709551616)
def subC (x y c : BitVec 64) : BitVec 64 := if x.toNat < y.toNat + c.toNat then 1#64 else 0#64
def ev64 (f : BitVec 64 → BitVec 64 → BitVec 64 → AV) : List AV → Option AV
  | [.c (.val a), .c (.val b), .c (.val c)] => match w64? a, w64? b, w64? c with
    | some x, some y, some z => if z.toNat ≤ 1 then some (f x y z) else none
    | _, _, _ => none
  | _ => none
def addAV (x y c : BitVec 64) : AV := .tup [.c (.val (U64 (x + y + c))), .c (.val (U64 (addC x y c)))]
def subAV (x y c : BitVec 64) : AV := .tup [.c (.val (U64 (x - y - c))), .c (.val (U64 (subC x y c)))]
def sub64Entry : Array Value → Sem Value := fun args => do
  let (x, y, b) ← Extern.MathBitsCarry.three "Sub64" args
  pure (Extern.MathBitsCarry.pair ((x + Extern.MathBitsCarry.m64 - y - b) % Extern.MathBitsCarry.m64) (if x < y + b then 1 else 0))
structure FRel (ι : Emb) (s : St) (a : Act) : Prop where
  size : a.tmps.size = s.n
  rel : ∀ t, (s.t t).rel ι (a.tmps.getD t undef)
theorem FRel.mono {ι ι' : Emb} {s : St} {a : Act} (h : FRel ι s a) (hle : ι.le ι') (m : Mem) : FRel ι' ⟨s.n, s.t, m⟩ a := ⟨h.size, fun t => AV.rel_mono hle (h.rel t)⟩
theorem getD_put (a : Act) (d t : Nat) (v : Value) (hd : d < a.tmps.size) : (a.put (some d) v).tmps.getD t undef = if t = d then v else a.tmps.getD t undef := by
  simp only [Act.put, Array.getD_eq_getD_getElem?, Array.getElem?_setIfInBounds]
  by_cases e : d = t
  · subst e; simp [hd]
  · rw [if_neg e, if_neg (fun h => e h.symm)]
theorem FRel.put {ι : Emb} {s : St} {a : Act} (h : FRel ι s a) {d : Option Tmp} {v : AV} {u : Value} (hd : dstOk s.n d = true) (hv : v.rel ι u) (m : Mem) : FRel ι ⟨s.n, putT s.t d v, m⟩ (a.put d u) := by
  cases d with
  | none => exact ⟨h.size, h.rel⟩
  | some d =>
    simp only [dstOk, decide_eq_true_eq] at hd
    refine ⟨by simp [Act.put, h.size], fun t => ?_⟩
    rw [getD_put a d t u (by rw [h.size]; exact hd)]
    show (upd s.t d v t).rel ι _
    by_cases e : t = d
    · subst e; rw [upd_eq, if_pos rfl]; exact hv
    · rw [upd_ne _ _ e, if_neg e]; exact h.rel t
theorem opnd_rel {ι : Emb} {s : St} {a : Act} (h : FRel ι s a) (x : Operand) : (opnd s.t x).rel ι (a.eval x) := by
  cases x with
  | tmp t => exact h.rel t
  | const v => exact AV.rel_of0 (absV_rel ι v)
  | global g => trivial
  | func f => rfl
theorem wanted_rel {ι : Emb} {t : Nat → AV} {a : Act} {ops : Array Oper} {o : Oper} {b : Bool} (h : ∀ d, (∃ g, o.guard = some g ∧ (ops[g.1]?).bind (·.dst) = some d) → (t d).rel ι (a.tmps.getD d undef)) (hw : evWanted ops t o = some b) : Region.wanted o (yielded ops a.tmps) = b := by
  unfold evWanted at hw
  unfold Region.wanted
  split at hw
  · rename_i hg; rw [hg]; cases hw; rfl
  · rename_i j want hg
    rw [hg]
    split at hw
    · rename_i d hd
      split at hw
      · rename_i x hx
        cases hw
        have := h d ⟨_, hg, hd⟩
        rw [hx] at this
        have hv : a.tmps.getD d undef = .bool x := this
        have hs : a.tmps[d]? = some (.bool x) := by
          rw [Array.getD_eq_getD_getElem?] at hv
          cases he : a.tmps[d]? with
          | none => rw [he] at hv; simp [undef] at hv
          | some y => rw [he] at hv; simp at hv; rw [hv]
        unfold yielded
        simp only [hd, Option.bind_some, hs]
        cases x <;> cases want <;> rfl
      · rename_i y hy
        cases hw
        have := h d ⟨_, hg, hd⟩
        rw [hy] at this
        have hv : a.tmps.getD d undef = .tuple y := this
        unfold yielded
        simp only [hd, Option.bind_some]
        rw [Array.getD_eq_getD_getElem?] at hv
        cases he : a.tmps[d]? with
        | none => rfl
        | some z => rw [he] at hv; simp at hv; subst hv; rfl
      · cases hw
    · cases hw
def OpGood (P : Program) (ρ : Operand → Value) (O : Oper) (ι : Emb) (m : Mem) (w : World) (v : AV) (m' : Mem) : Prop :=
  OpOk P ι m w v m' (execOp ρ O) ∨ ∃ f args, (execOp ρ O).run P w = .ok (.enter f args) w ∧ Calls P f args w fun e w' => ∃ u ι', e = .returned u ∧ v.rel ι' u ∧ Step m.length ι m w ι' m' w'
def Ex.out : Ex → Exit
  | .normal => .normal
  | .exit id => .exit id
  | .ret => .ret
def ArgsRel (ι : Emb) : List AV → List Value → Prop
  | [], [] => True
  | a :: l, v :: m => a.rel ι v ∧ ArgsRel ι l m
  | _, _ => False
def LoopAt (P : Program) (c : Code) (Q : Exit → Act → World → Prop) (a : Act) (w : World) : Prop :=
  ∀ (b : Frame) (k : List Item) (cs : List Frame), ∃ e a' w', Q e a' w' ∧ Arrives P (lone (b.at a (.code c :: .inLoop c :: k)) cs w) b k cs e a' w'
def wpC (P : Program) (c : Code) (Q : Exit → Act → World → Prop) (a : Act) (w : World) : Prop :=
  match c with
  | .loop c => LoopAt P c Q a w
  | c => c.wp P Q a w
theorem wpC_wp {P : Program} {c : Code} {Q : Exit → Act → World → Prop} {a : Act} {w : World} (h : wpC P c Q a w) : c.wp P Q a w := by
  cases c with
  | loop c => intro b k cs; obtain ⟨e, a', w', q, r⟩ := h b k cs; exact ⟨e, a', w', q, .of_steps (.one step_loop) r⟩
  | _ => exact h
theorem loopAt_next {P : Program} {c : Code} {Q : Exit → Act → World → Prop} {a : Act} {w : World} (h : c.wp P (Exit.then (LoopAt P c Q) Q) a w) : LoopAt P c Q a w := by
  intro b k cs
  obtain ⟨e, a₁, w₁, hq, harr⟩ := h b (.inLoop c :: k) cs
  cases e with
  | normal =>
    obtain ⟨e₂, a₂, w₂, hq₂, harr₂⟩ := hq b k cs
    exact ⟨e₂, a₂, w₂, hq₂, .of_steps (Steps.trans harr (.one step_inLoop)) harr₂⟩
  | exit id => exact ⟨_, a₁, w₁, hq, .pass (x := .inLoop c) rfl (fun _ _ => .inl (by simp)) harr⟩
  | goto l => exact ⟨_, a₁, w₁, hq, .pass (x := .inLoop c) rfl (fun _ _ => .inl (by simp)) harr⟩
  | ret => exact ⟨_, a₁, w₁, hq, .pass (x := .inLoop c) rfl (fun _ _ => .inl (by simp)) harr⟩
  | panic ch => exact ⟨_, a₁, w₁, hq, .pass (x := .inLoop c) rfl (fun _ _ => .inl (by simp)) harr⟩
  | outgrown => exact ⟨_, a₁, w₁, hq, .pass (x := .inLoop c) rfl (fun _ _ => .inl (by simp)) harr⟩
def Sound (P : Program) : Task → Res → Prop
  | .op o e m, .val v m' => ∀ (O : Oper) (ι : Emb) (w : World) (ρ : Operand → Value), O.op = o → R ι m w → (∀ x ∈ o.operands, (e x).rel ι (ρ x)) → OpGood P ρ O ι m w v m'
  | .ops k ops l s, .out e s' => e = .normal → ∀ (ι : Emb) (w : World) (a : Act), k ≤ s.m.length → R ι s.m w → FRel ι s a → ∀ Q : Exit → Act → World → Prop,
      (∀ ι' a' w', FRel ι' s' a' → a'.defers = a.defers → Step k ι s.m w ι' s'.m w' → Q .normal a' w') → wpList P ops Q l a w
  | .code k c s, .out e s' => ∀ (ι : Emb) (w : World) (a : Act), k ≤ s.m.length → R ι s.m w → FRel ι s a → ∀ Q : Exit → Act → World → Prop,
      (∀ ι' a' w', FRel ι' s' a' → a'.defers = a.defers → Step k ι s.m w ι' s'.m w' → Q e.out a' w') → wpC P c Q a w
  | .call f args m, .val v m' => ∀ (ι : Emb) (w : World) (vs : Array Value), R ι m w → ArgsRel ι args vs.toList → Calls P f vs w fun e w' => ∃ u ι', e = .returned u ∧ v.rel ι' u ∧ Step m.length ι m w ι' m' w'
  | _, _ => True
inductive Ev (P : Program) : Task → Res → Prop
  | val {o e m v} (h : evVal P e m o = some v) : Ev P (.op o e m) (.val v m)
  | mem {o e m v m'} (h : evMem P e m o = some (v, m')) : Ev P (.op o e m) (.val v m')
  | fn {c : Call} {e m args mc bs v mc'} (f : FuncId) (hc : c.callee = .value (.func f)) (he : e (.func f) = .c (.val (.func (.func f) #[] #[]))) (hf : (P.funcs[f]?).any (fun fn => fn.body.isSome && !(fn.name == "runtime.NumGoroutine")) = true) (hin : canon 0 (c.args.toList.map e) m = some (args, mc, bs))
      (h : Ev P (.call f args mc) (.val v mc')) : Ev P (.op (.call c) e m) (.val (linkOut bs m v mc').1 (linkOut bs m v mc').2)
  | add64 {c : Call} {e m v} (f : FuncId) (hc : c.callee = .value (.func f)) (he : e (.func f) = .c (.val (.func (.func f) #[] #[]))) (hf : ExtIs P f add64Entry) (h : ev64 addAV (c.args.toList.map e) = some v) : Ev P (.op (.call c) e m) (.val v m)
  | sub64 {c : Call} {e m v} (f : FuncId) (hc : c.callee = .value (.func f)) (he : e (.func f) = .c (.val (.func (.func f) #[] #[]))) (hf : ExtIs P f sub64Entry) (h : ev64 subAV (c.args.toList.map e) = some v) : Ev P (.op (.call c) e m) (.val v m)
  | ro {o e m v N} (h : Ev P (.op o e (roMem m)) (.val v (roMem m ++ N))) : Ev P (.op o e m) (.val v (m ++ N))
  | nil {k ops s} : Ev P (.ops k ops [] s) (.out .normal s)
  | cons {k ops o l s v m' r} (hw : evWanted ops s.t o = some true) (hd : dstOk s.n o.dst = true) (h : Ev P (.op o.op (opnd s.t) s.m) (.val v m')) (hk : Ev P (.ops k ops l ⟨s.n, putT s.t o.dst v, m'⟩) (.out .normal r)) : Ev P (.ops k ops (o :: l) s) (.out .normal r)
  | skip {k ops o l s r} (hw : evWanted ops s.t o = some false) (hd : dstOk s.n o.dst = true) (hk : Ev P (.ops k ops l ⟨s.n, putT s.t o.dst noV, s.m⟩) (.out .normal r)) : Ev P (.ops k ops (o :: l) s) (.out .normal r)
  | region {k id ops s r} (h : Ev P (.ops k ops ops.toList s) (.out .normal r)) : Ev P (.code k (.region id ops false) s) (.out .normal r)
  | draw {k id ops s r} (n : Nat) (A : Nat → St) (W : Nat → Bool) (V : Nat → AV) (N : Nat → Mem) (hm : P.follows .mixedOrders = true) (hok : Region.okAll ops n s.n = true) (hA : A 0 = s)
      (hW : ∀ i o, i < n → ops[i]? = some o → evWanted ops (A i).t o = some (W i))
      (hV : ∀ i o, i < n → ops[i]? = some o → W i = true → Ev P (.op o.op (opnd (A i).t) (roMem (A i).m)) (.val (V i) (roMem (A i).m ++ N i)))
      (hS : ∀ i o, i < n → ops[i]? = some o → A (i + 1) = if W i = true then ⟨s.n, putT (A i).t o.dst (V i), (A i).m ++ N i⟩ else ⟨s.n, putT (A i).t o.dst noV, (A i).m⟩)
      (hk : Ev P (.ops k ops (ops.toList.drop n) (A n)) (.out .normal r)) : Ev P (.code k (.region id ops true) s) (.out .normal r)
  | late {k id ops s r} (n i0 : Nat) (A : Nat → St) (W : Nat → Bool) (V : Nat → AV) (N : Nat → Mem) (hm : P.follows .mixedOrders = true) (hc : lateCheck ops n i0 = true) (hok : Region.okAll (lateOps ops n i0) n s.n = true) (hA : A 0 = s)
      (hW : ∀ i o, i < n → (lateOps ops n i0)[i]? = some o → evWanted (lateOps ops n i0) (A i).t o = some (W i))
      (hV : ∀ i o, i < n → (lateOps ops n i0)[i]? = some o → W i = true → Ev P (.op o.op (opnd (A i).t) (roMem (A i).m)) (.val (V i) (roMem (A i).m ++ N i)))
      (hS : ∀ i o, i < n → (lateOps ops n i0)[i]? = some o → A (i + 1) = if W i = true then ⟨s.n, putT (A i).t o.dst (V i), (A i).m ++ N i⟩ else ⟨s.n, putT (A i).t o.dst noV, (A i).m⟩)
      (hk : Ev P (.ops k (lateOps ops n i0) ((lateOps ops n i0).toList.drop n) (A n)) (.out .normal r)) : Ev P (.code k (.region id ops true) s) (.out .normal r)
  | stores {k id ops s} (A : Nat → St) (V : Nat → AV) (hm : P.follows .mixedOrders = true) (hok : Region.okStores ops s.n = true) (hA : A 0 = s)
      (hP : ∀ i o, ops[i]? = some o → isStore o = false → evVal P (opnd (A i).t) (deadMem s.m.length) o.op = some (V i) ∧ A (i + 1) = ⟨s.n, putT (A i).t o.dst (V i), (A i).m⟩)
      (hS : ∀ i o, ops[i]? = some o → isStore o = true → ∃ v m', evMem P (opnd (A i).t) (A i).m o.op = some (v, m') ∧ m'.length = (A i).m.length ∧ A (i + 1) = ⟨s.n, (A i).t, m'⟩) : Ev P (.code k (.region id ops true) s) (.out .normal (A ops.size))
  | stores2 {k id ops s} (A : Nat → St) (V : Nat → AV) (E : Nat → Bool) (hm : P.follows .mixedOrders = true) (hok : Region.okStores ops s.n = true) (hA : A 0 = s)
      (hP : ∀ i o, ops[i]? = some o → isStore o = false → E i = false → ∃ Mk : Mem, (∀ c, c ≤ ops.size → ∀ (ι : Emb) (w : World), R ι (A c).m w → R ι Mk w) ∧ evVal P (opnd (A i).t) Mk o.op = some (V i))
      (hE : ∀ i o, ops[i]? = some o → isStore o = false → E i = true → Ev P (.op o.op (opnd (A i).t) s.m) (.val (V i) s.m))
      (hE2 : ∀ i o, ops[i]? = some o → isStore o = false → (E i = true → early ops i = true) ∧ A (i + 1) = ⟨s.n, putT (A i).t o.dst (V i), (A i).m⟩)
      (hS : ∀ i o, ops[i]? = some o → isStore o = true → ∃ v m', evMem P (opnd (A i).t) (A i).m o.op = some (v, m') ∧ m'.length = (A i).m.length ∧ A (i + 1) = ⟨s.n, (A i).t, m'⟩) : Ev P (.code k (.region id ops true) s) (.out .normal (A ops.size))
  | clean {k c s s1 r} (keep : List Nat) (hc : clean k keep s = some s1) (h : Ev P (.code k c s1) r) : Ev P (.code k c s) r
  | tidy {k c s e s1 s2} (keep : List Nat) (h : Ev P (.code k c s) (.out e s1)) (hc : clean k keep s1 = some s2) : Ev P (.code k c s) (.out e s2)
  | cskip {k s} : Ev P (.code k .skip s) (.out .normal s)
  | label {k s l} : Ev P (.code k (.label l) s) (.out .normal s)
  | seq {k a b s s1 r} (h1 : Ev P (.code k a s) (.out .normal s1)) (h2 : Ev P (.code k b s1) r) : Ev P (.code k (.seq a b) s) r
  | seqx {k a b s s1 e} (h1 : Ev P (.code k a s) (.out e s1)) (he : e ≠ .normal) : Ev P (.code k (.seq a b) s) (.out e s1)
  | cond {k c a b s r} (t : Bool) (hc : opnd s.t c = .c (.val (.bool t))) (h : Ev P (.code k (if t then a else b) s) r) : Ev P (.code k (.cond c a b) s) r
  | block {k id c s s1 e} (h : Ev P (.code k c s) (.out e s1)) : Ev P (.code k (.block id c) s) (.out (e.block id) s1)
  | loop {k c s s1 r} (h1 : Ev P (.code k c s) (.out .normal s1)) (h2 : Ev P (.code k (.loop c) s1) r) : Ev P (.code k (.loop c) s) r
  | loopx {k c s s1 e} (h1 : Ev P (.code k c s) (.out e s1)) (he : e ≠ .normal) : Ev P (.code k (.loop c) s) (.out e s1)
  | exit {k id s} : Ev P (.code k (.exit id) s) (.out (.exit id) s)
  | ret {k s} : Ev P (.code k .ret s) (.out .ret s)
  | scope {k c s s1 e} (h : Ev P (.code k c s) (.out e s1)) : Ev P (.code k (.scope c) s) (.out e s1)
  | view {f args m args' m' v N} (ρ : Nat → Option Nat) (hρ : ∀ j i, ρ j = some i → j < m'.length ∧ ∃ own x, m[i]? = some (.row own x) ∧ m'[j]? = some (.row false x) ∧ x.ren noRen = x) (ha : WeakL ρ args args')
      (h : Ev P (.call f args' m') (.val v (m' ++ N))) : Ev P (.call f args m) (.val (v.ren (viewRen ρ m'.length m.length)) (m ++ N.map (Row.ren (viewRen ρ m'.length m.length))))
  | call {f fn c args m e s' vs v m' ids} (hf : P.funcs[f]? = some fn) (hb : fn.body = some c) (hn : args.length ≤ fn.ntmps) (h : Ev P (.code m.length c ⟨fn.ntmps, argT args, m⟩) (.out e s')) (he : e = .normal ∨ e = .ret)
      (hres : resList P s' fn.results.toList = some vs) (hcan : canon m.length [resV vs] s'.m = some ([v], m', ids)) : Ev P (.call f args m) (.val v m')
  | snd {k c s e s1} (h : Sound P (.code k c s) (.out e s1)) : Ev P (.code k c s) (.out e s1)
  | weak {k c s s1 r} (hw : ∀ (ι : Emb) (w : World) (a : Act), k ≤ s.m.length → R ι s.m w → FRel ι s a → ∃ ι', FRel ι' s1 a ∧ Step k ι s.m w ι' s1.m w) (h : Ev P (.code k c s1) r) : Ev P (.code k c s) r
  | sem {o e m v m'} (h : ∀ (O : Oper) (ι : Emb) (w : World) (ρ : Operand → Value), O.op = o → R ι m w → (∀ x ∈ o.operands, (e x).rel ι (ρ x)) → OpGood P ρ O ι m w v m') : Ev P (.op o e m) (.val v m')
  | semF {f args m v m'} (h : ∀ (ι : Emb) (w : World) (vs : Array Value), R ι m w → ArgsRel ι args vs.toList → Calls P f vs w fun e w' => ∃ u ι', e = .returned u ∧ v.rel ι' u ∧ Step m.length ι m w ι' m' w') : Ev P (.call f args m) (.val v m')
theorem OpGood.wp {P : Program} {ρ : Operand → Value} {O : Oper} {ι : Emb} {m m' : Mem} {w : World} {v : AV} {a : Act} (ha : ρ = a.eval) (h : OpGood P ρ O ι m w v m') {K : Act → World → Prop} {Q : Exit → Act → World → Prop}
    (hK : ∀ u w' ι', v.rel ι' u → Step m.length ι m w ι' m' w' → K (a.put O.dst u) w') : O.wp P a w K Q := by
  subst ha
  unfold Oper.wp
  rcases h with ⟨u, w', ι', hr, hv, hs⟩ | ⟨f, args, hr, hc⟩
  · rcases hr with hr | ⟨hr, rfl⟩
    · rw [hr]; exact hK u w' ι' hv hs
    · rw [hr]; exact hK undef w' ι' hv hs
  · rw [hr]
    refine hc.mono fun e w' he => ?_
    obtain ⟨u, ι', rfl, hv, hs⟩ := he
    exact hK u w' ι' hv hs
end Go.Proofs.YtmbepikkgkcgkaaGreatDoor
namespace Go.Proofs.YtmbepikkgkcgkaaGreatDoor
open Go.RowKit
theorem backRows_length (bs : List Nat) (mc : Mem) (ρ : Nat → Option Nat) : ∀ (m : Mem) (i : Nat), (backRows bs mc ρ i m).length = m.length
  | [], _ => rfl
  | .dead :: l, i => by simp [backRows, backRows_length bs mc ρ l (i + 1)]
  | .row true x :: l, i => by simp [backRows, backRows_length bs mc ρ l (i + 1)]
  | .row false x :: l, i => by simp [backRows, backRows_length bs mc ρ l (i + 1)]
theorem backRows_get (bs : List Nat) (mc : Mem) (ρ : Nat → Option Nat) : ∀ (m : Mem) (i b : Nat), (backRows bs mc ρ i m)[b]? = (m[b]?).map fun r => match r with
    | .row true x => (match idx (i + b) bs 0 with | some j => (mc.getD j .dead).ren ρ | none => .row true x)
    | r => r
  | [], i, b => by simp [backRows]
  | r :: l, i, b => by
    cases b with
    | zero => cases r with
      | dead => simp [backRows]
      | row own x =>
        cases own
        · simp [backRows]
        · simp only [backRows, List.getElem?_cons_zero, Option.map_some, Nat.add_zero]
          all_goals (cases idx i bs 0 <;> rfl)
    | succ b =>
      have ih := backRows_get bs mc ρ l (i + 1) b
      rw [show i + (b + 1) = i + 1 + b by omega]
      cases r with
      | dead => simp only [backRows, List.getElem?_cons_succ]; exact ih
      | row own x => cases own <;> (simp only [backRows, List.getElem?_cons_succ]; exact ih)
theorem row_ren {r : Row} {ρ : Nat → Option Nat} {own : Bool} {x : Arr} (h : r.ren ρ = .row own x) : ∃ y, r = .row own y ∧ x = y.ren ρ := by
  cases r with
  | dead => cases h
  | row o y => cases h; exact ⟨y, rfl, rfl⟩
theorem getD_row {m : Mem} {b : Nat} {own : Bool} {x : Arr} (h : m.getD b .dead = .row own x) : m[b]? = some (.row own x) := by
  rw [List.getD_eq_getElem?_getD] at h
  cases hm : m[b]? with
  | none => rw [hm] at h; cases h
  | some r => rw [hm] at h; simp at h; rw [h]
def linkEmb (n k : Nat) (ι ιc : Emb) : Emb := ⟨fun b => if b < n then ι b else ιc (b - n + k), ιc.tx⟩
theorem link_sound {m : Mem} {bs : List Nat} (hok : canOk 0 m bs = true) {ι : Emb} {w : World} (hR : R ι m w) {ιc' : Emb} {mc' : Mem} {w' : World}
    (h : Step bs.length (canEmb 0 bs ι) (canMem 0 m bs) w ιc' mc' w') {v : AV} {u : Value} (hv : v.rel ιc' u) :
    (linkOut bs m v mc').1.rel (linkEmb m.length bs.length ι ιc') u ∧ Step m.length ι m w (linkEmb m.length bs.length ι ιc') (linkOut bs m v mc').2 w' := by
  have hok' := hok
  simp only [canOk, Bool.and_eq_true, decide_eq_true_eq, List.all_eq_true] at hok'
  obtain ⟨⟨⟨_, hd⟩, hlt⟩, _⟩ := hok'
  have hblt : ∀ i b, bs[i]? = some b → b < m.length := fun i b hb => (hlt b (List.mem_of_getElem? hb)).2
  have hcl : (canMem 0 m bs).length = bs.length := by simp [canMem]
  -- names
  have emb0 : ∀ i b, bs[i]? = some b → canEmb 0 bs ι i = ι b := fun i b hb => by unfold canEmb; dsimp only; rw [if_neg (by omega), Nat.sub_zero, hb]
  have lnew : ∀ b, m.length ≤ b → linkEmb m.length bs.length ι ιc' b = ιc' (b - m.length + bs.length) := fun b hb => by unfold linkEmb; dsimp only; rw [if_neg (by omega)]
  have lold : ∀ b, b < m.length → linkEmb m.length bs.length ι ιc' b = ι b := fun b hb => if_pos hb
  have same : Same (backRen bs m.length) ιc' (linkEmb m.length bs.length ι ιc') := by
    refine ⟨fun i b hb => ?_, fun _ _ _ h => h⟩
    unfold backRen at hb
    by_cases hi : i < bs.length
    · rw [if_pos hi] at hb
      rw [h.ext i hi, emb0 i b hb, lold b (hblt i b hb)]
    · rw [if_neg hi] at hb
      cases hb
      rw [lnew _ (by omega)]
      congr 1
      omega
  have hle : ι.le (linkEmb m.length bs.length ι ιc') := by
    refine ⟨fun b l hb => ?_, h.tx⟩
    have : b < m.length := by
      rcases Nat.lt_or_ge b m.length with h | h
      · exact h
      · rw [hR.dom b h] at hb; cases hb
    rw [lold b this]; exact hb
  have pick : ∀ {b : Nat} {own : Bool} {x : Arr}, (linkOut bs m v mc').2[b]? = some (.row own x) →
      (b < m.length ∧ m[b]? = some (.row own x) ∧ (own = true → b ∉ bs)) ∨
      (b < m.length ∧ ∃ (j : Nat) (x0 y : Arr), bs[j]? = some b ∧ m[b]? = some (.row true x0) ∧ mc'[j]? = some (.row own y) ∧ x = y.ren (backRen bs m.length)) ∨
      (m.length ≤ b ∧ ∃ y : Arr, mc'[b - m.length + bs.length]? = some (.row own y) ∧ x = y.ren (backRen bs m.length)) := by
    intro b own x hb
    simp only [linkOut] at hb
    by_cases hbm : b < m.length
    · rw [List.getElem?_append_left (by rw [backRows_length]; exact hbm), backRows_get, Nat.zero_add] at hb
      obtain ⟨r, hr, e⟩ := Option.map_eq_some_iff.1 hb
      split at e
      · rename_i x0
        split at e
        · rename_i j hj
          obtain ⟨_, hj2⟩ := idx_some hj
          rw [Nat.sub_zero] at hj2
          obtain ⟨y, hy, hx⟩ := row_ren e
          exact .inr (.inl ⟨hbm, j, x0, y, hj2, hr, getD_row hy, hx⟩)
        · rename_i hj
          cases e
          refine .inl ⟨hbm, hr, fun _ hmem => ?_⟩
          have none_mem : ∀ (l : List Nat) (i : Nat), idx b l i = none → b ∉ l := by
            intro l
            induction l with
            | nil => intro i _ h; cases h
            | cons y l ih =>
              intro i hi hm
              unfold idx at hi
              split at hi
              · cases hi
              · rename_i hne
                rcases List.mem_cons.1 hm with e | e
                · exact hne e.symm
                · exact ih _ hi e
          exact none_mem bs 0 hj hmem
      · cases e
        rename_i hne
        refine .inl ⟨hbm, hr, fun ho => ?_⟩
        subst ho
        exact absurd rfl (hne x)
    · rw [List.getElem?_append_right (by rw [backRows_length]; omega), backRows_length, List.getElem?_map, List.getElem?_drop] at hb
      obtain ⟨r, hr, e⟩ := Option.map_eq_some_iff.1 hb
      obtain ⟨y, rfl, hx⟩ := row_ren e
      refine .inr (.inr ⟨by omega, y, ?_, hx⟩)
      rw [Nat.add_comm]; exact hr
  -- what the callee may write
  have callee : ∀ c, Owned (canEmb 0 bs ι) (canMem 0 m bs) c → ∃ (b : Nat) (l : Loc) (x : Arr), b ∈ bs ∧ ι b = some l ∧ m[b]? = some (.row true x) ∧ l.c = c := by
    rintro c ⟨j, l, x, hj, hm, rfl⟩
    obtain ⟨b, y, hy, _, hb⟩ := canMem_row (Nat.zero_le _) hm
    rcases hb with ⟨hb, _⟩ | ⟨_, hb⟩
    · omega
    · rw [Nat.sub_zero] at hb
      rw [emb0 j b hb] at hj
      exact ⟨b, l, y, List.mem_of_getElem? hb, hj, hy, rfl⟩
  have calleeOwned : ∀ c, Owned (canEmb 0 bs ι) (canMem 0 m bs) c → Owned ι m c := fun c hc => by
    obtain ⟨b, l, x, _, hb, hm, rfl⟩ := callee c hc
    exact ⟨b, l, x, hb, hm, rfl⟩
  have apart : ∀ {b : Nat} {l : Loc} {own : Bool} {x : Arr}, ι b = some l → m[b]? = some (.row own x) → (own = true → b ∉ bs) → ¬ Owned (canEmb 0 bs ι) (canMem 0 m bs) l.c := by
    intro b l own x hb hm ho hc
    obtain ⟨b2, l2, x2, hmem, hb2, hm2, e⟩ := callee _ hc
    by_cases hbb : b2 = b
    · subst hbb
      rw [hm] at hm2
      cases hm2
      exact ho rfl hmem
    · exact hR.inj b2 b l2 l true own x2 x hbb hb2 hb hm2 hm (.inl rfl) e
  have news : ∀ {i : Nat} {l : Loc} {own : Bool} {y : Arr}, bs.length ≤ i → ιc' i = some l → mc'[i]? = some (.row own y) → w.heap.size ≤ l.c ∨ Owned (canEmb 0 bs ι) (canMem 0 m bs) l.c := by
    intro i l own y hi h1 h2
    rcases h.news i l own y hi h1 h2 with h3 | h3 | ⟨b0, l0, o0, x0, hb0, _, h5, _⟩
    · exact .inl h3
    · exact .inr h3
    · exact (no_row (by rw [hcl]; exact hb0) h5).elim
  have fromB : ∀ {b j : Nat} {l : Loc}, b < m.length → bs[j]? = some b → linkEmb m.length bs.length ι ιc' b = some l → ι b = some l ∧ ιc' j = some l := by
    intro b j l hb hj h1
    rw [lold b hb] at h1
    have hj' : j < bs.length := (List.getElem?_eq_some_iff.1 hj).1
    exact ⟨h1, by rw [h.ext j hj', emb0 j b hj]; exact h1⟩
  refine ⟨AV.ren_rel same hv, ⟨fun b hb => ?_, fun b l own x h1 h2 => ?_, fun b b' l l' own own' x x' hne h1 h1' h2 h2' ho => ?_, fun c Φ hc => ⟨(h.r.stay c Φ (hc.to ιc')).1, fun b l x h1 h2 e => ?_⟩⟩, ⟨h.trans.os, h.trans.tape, h.trans.output, h.trans.size, fun c hc hn => h.trans.keep c hc (fun hq => hn (calleeOwned c hq)), fun c hc => ?_⟩,
    h.tx, fun c o v hc => (h.txn c o v hc).imp id (.imp id (calleeOwned c)), fun b hb => lold b hb, by simp [linkOut, backRows_length], fun b x hb hm => ?_, fun b own x hb hm => ?_, fun b l own x hb h1 h2 => ?_⟩
  · have hl := h.len
    simp only [linkOut, List.length_append, backRows_length, List.length_map, List.length_drop] at hb
    rw [lnew b (by omega)]
    exact h.r.dom _ (by omega)
  · rcases pick h2 with ⟨hb, hm, ho⟩ | ⟨hb, j, x0, y, hj, hm, hy, rfl⟩ | ⟨hb, y, hy, rfl⟩
    · rw [lold b hb] at h1
      exact (hR.rows b l own x h1 hm).heap (h.trans.keep l.c (hR.lt h1 hm) (apart h1 hm ho)) hle
    · obtain ⟨h3, h4⟩ := fromB hb hj h1
      exact (h.r.rows j l own y h4 hy).ren same
    · rw [lnew b hb] at h1
      exact (h.r.rows _ l own y h1 hy).ren same
  · rcases pick h2 with ⟨hb, hm, hq⟩ | ⟨hb, j, x0, y, hj, hm, hy, _⟩ | ⟨hb, y, hy, _⟩ <;> rcases pick h2' with ⟨hb', hm', hq'⟩ | ⟨hb', j', x0', y', hj', hm', hy', _⟩ | ⟨hb', y', hy', _⟩
    · rw [lold b hb] at h1; rw [lold b' hb'] at h1'
      exact hR.inj b b' l l' own own' x x' hne h1 h1' hm hm' ho
    · rw [lold b hb] at h1; rw [lold b' hb'] at h1'
      exact hR.inj b b' l l' own true x x0' hne h1 h1' hm hm' (.inr rfl)
    · rw [lold b hb] at h1; rw [lnew b' hb'] at h1'
      rcases news (by omega) h1' hy' with h3 | h3
      · have := hR.lt h1 hm; omega
      · exact fun e => apart h1 hm hq (by rw [e]; exact h3)
    · rw [lold b hb] at h1; rw [lold b' hb'] at h1'
      exact hR.inj b b' l l' true own' x0 x' hne h1 h1' hm hm' (.inl rfl)
    · rw [lold b hb] at h1; rw [lold b' hb'] at h1'
      exact hR.inj b b' l l' true true x0 x0' hne h1 h1' hm hm' (.inl rfl)
    · obtain ⟨_, h4⟩ := fromB hb hj h1
      rw [lnew b' hb'] at h1'
      have hj2 : j < bs.length := (List.getElem?_eq_some_iff.1 hj).1
      exact h.r.inj j _ l l' own own' y y' (by omega) h4 h1' hy hy' ho
    · rw [lnew b hb] at h1; rw [lold b' hb'] at h1'
      rcases news (by omega) h1 hy with h3 | h3
      · have := hR.lt h1' hm'; omega
      · exact fun e => apart h1' hm' hq' (by rw [← e]; exact h3)
    · obtain ⟨_, h4⟩ := fromB hb' hj' h1'
      rw [lnew b hb] at h1
      have hj2 : j' < bs.length := (List.getElem?_eq_some_iff.1 hj').1
      exact h.r.inj _ j' l l' own own' y y' (by omega) h1 h4 hy hy' ho
    · rw [lnew b hb] at h1; rw [lnew b' hb'] at h1'
      exact h.r.inj _ _ l l' own own' y y' (by omega) h1 h1' hy hy' ho
  · rcases pick h2 with ⟨hb, hm, hq⟩ | ⟨hb, j, x0, y, hj, hm, hy, _⟩ | ⟨hb, y, hy, _⟩
    · rw [lold b hb] at h1
      rcases h.stayn (hc.to ιc') with h3 | h3 | h3
      · exact (hR.stay c Φ (h3.to ι)).2 b l x h1 hm e
      · have := hR.lt h1 hm; omega
      · exact apart h1 hm hq (by rw [e]; exact h3)
    · obtain ⟨_, h4⟩ := fromB hb hj h1
      exact (h.r.stay c Φ (hc.to ιc')).2 j l y h4 hy e
    · rw [lnew b hb] at h1
      exact (h.r.stay c Φ (hc.to ιc')).2 _ l y h1 hy e
  · obtain ⟨b, l, x, h1, h2, rfl⟩ := hc
    rcases pick h2 with ⟨hb, hm, hq⟩ | ⟨hb, j, x0, y, hj, hm, hy, _⟩ | ⟨hb, y, hy, _⟩
    · rw [lold b hb] at h1; exact .inr ⟨b, l, x, h1, hm, rfl⟩
    · rw [lold b hb] at h1; exact .inr ⟨b, l, x0, h1, hm, rfl⟩
    · rw [lnew b hb] at h1
      rcases h.trans.fresh l.c ⟨_, l, y, h1, hy, rfl⟩ with h3 | h3
      · exact .inl h3
      · exact .inr (calleeOwned _ h3)
  · simp only [linkOut]
    rw [List.getElem?_append_left (by rw [backRows_length]; exact hb), backRows_get, hm]
    rfl
  · rcases pick hm with ⟨_, hm, _⟩ | ⟨_, j, x0, y, hj, hm, hy, _⟩ | ⟨hb', _⟩
    · exact ⟨x, hm⟩
    · obtain ⟨x1, hx1⟩ := h.old j own y (List.getElem?_eq_some_iff.1 hj).1 hy
      obtain ⟨b2, y2, hy2, _, hb2⟩ := canMem_row (Nat.zero_le _) hx1
      rcases hb2 with ⟨hb2, _⟩ | ⟨_, hb2⟩
      · omega
      · rw [Nat.sub_zero, hj] at hb2
        cases hb2
        exact ⟨y2, hy2⟩
    · omega
  · rcases pick h2 with ⟨hb', _⟩ | ⟨hb', _⟩ | ⟨_, y, hy, _⟩
    · omega
    · omega
    · rw [lnew b hb] at h1
      rcases news (by omega) h1 hy with h3 | h3
      · exact .inl h3
      · exact .inr (.inl (calleeOwned _ h3))
end Go.Proofs.YtmbepikkgkcgkaaGreatDoor
namespace Go.Proofs.YtmbepikkgkcgkaaGreatDoor
open Go.RowKit
def Emb.upto (c : Nat) (ι : Emb) : Emb := ⟨fun b => if b < c then ι b else none, ι.tx⟩
theorem upto_le (c : Nat) (ι : Emb) : (ι.upto c).le ι := by
  refine ⟨fun b l h => ?_, fun _ _ _ h => h⟩
  unfold Emb.upto at h
  dsimp only at h
  split at h
  · exact h
  · cases h
theorem upto_mono {c : Nat} {ι ι' : Emb} (h : ι.le ι') : (ι.upto c).le (ι'.upto c) := by
  refine ⟨fun b l hb => ?_, h.tx⟩
  unfold Emb.upto at hb ⊢
  dsimp only at hb ⊢
  split at hb
  · rename_i hc; rw [if_pos hc]; exact h.f b l hb
  · cases hb
theorem upto_up {c c' : Nat} (ι : Emb) (h : c ≤ c') : (ι.upto c).le (ι.upto c') := by
  refine ⟨fun b l hb => ?_, fun _ _ _ h => h⟩
  unfold Emb.upto at hb ⊢
  dsimp only at hb ⊢
  split at hb
  · rw [if_pos (by omega)]; exact hb
  · cases hb
theorem roMem_row {m : Mem} {b : Nat} {own : Bool} {x : Arr} (h : (roMem m)[b]? = some (.row own x)) : own = false ∧ ∃ o, m[b]? = some (.row o x) := by
  unfold roMem at h
  rw [List.getElem?_map] at h
  obtain ⟨r, hr, e⟩ := Option.map_eq_some_iff.1 h
  cases r with
  | dead => cases e
  | row o y => cases e; exact ⟨rfl, o, hr⟩
theorem roMem_length (m : Mem) : (roMem m).length = m.length := by simp [roMem]
structure Line (ops : Array Oper) (n : Nat) (A : Nat → St) (W : Nat → Bool) (V : Nat → AV) (N : Nat → Mem) (N0 : Nat) : Prop where
  hn : n ≤ ops.size
  h0 : (A 0).n = N0
  step : ∀ i o, i < n → ops[i]? = some o → A (i + 1) = if W i = true then ⟨N0, putT (A i).t o.dst (V i), (A i).m ++ N i⟩ else ⟨N0, putT (A i).t o.dst noV, (A i).m⟩
section
variable {ops : Array Oper} {n : Nat} {A : Nat → St} {W : Nat → Bool} {V : Nat → AV} {N : Nat → Mem} {N0 : Nat}
theorem Line.at (h : Line ops n A W V N N0) {i : Nat} (hi : i < n) : ∃ o, ops[i]? = some o := ⟨ops[i]'(by have := h.hn; omega), Array.getElem?_eq_getElem _⟩
theorem Line.mem1 (h : Line ops n A W V N N0) {i : Nat} (hi : i < n) : (A i).m.length ≤ (A (i + 1)).m.length ∧ ∀ b, b < (A i).m.length → (A (i + 1)).m[b]? = (A i).m[b]? := by
  obtain ⟨o, ho⟩ := h.at hi
  rw [h.step i o hi ho]
  split
  · exact ⟨by simp, fun b hb => List.getElem?_append_left hb⟩
  · exact ⟨Nat.le_refl _, fun b _ => rfl⟩
theorem Line.mem (h : Line ops n A W V N N0) {i : Nat} : ∀ d, i + d ≤ n → (A i).m.length ≤ (A (i + d)).m.length ∧ ∀ b, b < (A i).m.length → (A (i + d)).m[b]? = (A i).m[b]?
  | 0, _ => ⟨Nat.le_refl _, fun _ _ => rfl⟩
  | d + 1, hd => by
    obtain ⟨h1, h2⟩ := Line.mem h (i := i) d (by omega)
    obtain ⟨h3, h4⟩ := h.mem1 (i := i + d) (by omega)
    exact ⟨Nat.le_trans h1 h3, fun b hb => by rw [show i + (d + 1) = i + d + 1 by omega, h4 b (by omega), h2 b hb]⟩
theorem Line.len (h : Line ops n A W V N N0) {i j : Nat} (hij : i ≤ j) (hj : j ≤ n) : (A i).m.length ≤ (A j).m.length := by
  have := (h.mem (i := i) (j - i) (by omega)).1
  rwa [show i + (j - i) = j by omega] at this
theorem Line.row (h : Line ops n A W V N N0) {i j b : Nat} (hij : i ≤ j) (hj : j ≤ n) (hb : b < (A i).m.length) : (A j).m[b]? = (A i).m[b]? := by
  have := (h.mem (i := i) (j - i) (by omega)).2 b hb
  rwa [show i + (j - i) = j by omega] at this
theorem Line.tmp1 (h : Line ops n A W V N N0) {i : Nat} (hi : i < n) {t : Nat} (ht : dstAt ops i ≠ some t) : (A (i + 1)).t t = (A i).t t := by
  obtain ⟨o, ho⟩ := h.at hi
  have hd : dstAt ops i = o.dst := by simp [dstAt, ho]
  rw [hd] at ht
  rw [h.step i o hi ho]
  have key : ∀ v, putT (A i).t o.dst v t = (A i).t t := by
    intro v
    cases hdd : o.dst with
    | none => rfl
    | some d =>
      rw [hdd] at ht
      exact upd_ne _ _ (fun e => ht (by rw [e]))
  split
  · exact key _
  · exact key _
theorem Line.tmp (h : Line ops n A W V N N0) {i t : Nat} : ∀ d, i + d ≤ n → (∀ j, i ≤ j → j < i + d → dstAt ops j ≠ some t) → (A (i + d)).t t = (A i).t t
  | 0, _, _ => rfl
  | d + 1, hd, hno => by
    rw [show i + (d + 1) = i + d + 1 by omega, h.tmp1 (by omega) (hno _ (by omega) (by omega)), Line.tmp h d (by omega) fun j h1 h2 => hno j h1 (by omega)]
theorem Line.slot (h : Line ops n A W V N N0) {i j t : Nat} (hij : i ≤ j) (hj : j ≤ n) (hno : ∀ l, i ≤ l → l < j → dstAt ops l ≠ some t) : (A j).t t = (A i).t t := by
  have := h.tmp (i := i) (t := t) (j - i) (by omega) (fun l h1 h2 => hno l h1 (by omega))
  rwa [show i + (j - i) = j by omega] at this
def CellsUp (n : Nat) (A : Nat → St) (ι : Emb) (w : World) : Prop := ∀ i b l own x, i ≤ n → b < (A i).m.length → ι b = some l → (A n).m[b]? = some (.row own x) → Holds (ι.upto (A i).m.length) w own x l
structure InvD (ops : Array Oper) (n : Nat) (A : Nat → St) (ι0 : Emb) (w0 : World) (a0 : Act) (listed : Array Bool) (ι : Emb) (a : Act) (w : World) : Prop where
  low : ∀ b, b < (A 0).m.length → ι b = ι0 b
  seg : ∀ b l, ι b = some l → b < (A 0).m.length ∨ ∃ j, j < n ∧ listed.getD j false = true ∧ (A j).m.length ≤ b ∧ b < (A (j + 1)).m.length
  r : R ι (A n).m w
  hit : ∀ j, j < n → listed.getD j false = true → ∀ d, dstAt ops j = some d → ((A (j + 1)).t d).rel (ι.upto (A (j + 1)).m.length) (a.tmps.getD d undef)
  miss : ∀ t, (∀ j, j < n → listed.getD j false = true → dstAt ops j ≠ some t) → a.tmps.getD t undef = a0.tmps.getD t undef
  size : a.tmps.size = a0.tmps.size
  defers : a.defers = a0.defers
  head : HeadInv .any ops n listed
  ext : Below w0.heap.size w0 w
  fresh : ∀ b l own x, (A 0).m.length ≤ b → ι b = some l → (A n).m[b]? = some (.row own x) → w0.heap.size ≤ l.c
  cells : CellsUp n A ι w
  tx : ∀ c o v, ι0.tx c o v → ι.tx c o v
  txn : ∀ c o v, ι.tx c o v → ι0.tx c o v ∨ w0.heap.size ≤ c
theorem InvD.next (hl : Line ops n A W V N N0) {ι0 : Emb} {w0 : World} {a0 : Act} (hok : OkX ops n a0.tmps.size) {listed : Array Bool} {ι : Emb} {a : Act} {w : World} (h : InvD ops n A ι0 w0 a0 listed ι a w)
    {i : Nat} (hi : i ∈ Region.ready .any ops listed) (hin : i < n) {o : Oper} (ho : ops[i]? = some o) {ι' : Emb} {u : Value} {w' : World} (hle : ι.le ι')
    (hseg : ∀ b, ¬ ((A i).m.length ≤ b ∧ b < (A (i + 1)).m.length) → ι' b = ι b) (hr : R ι' (A n).m w') (hu : ∀ d, o.dst = some d → ((A (i + 1)).t d).rel (ι'.upto (A (i + 1)).m.length) u) (hext : Below w.heap.size w w')
    (hfr : ∀ b l own x, (A i).m.length ≤ b → b < (A (i + 1)).m.length → ι' b = some l → (A n).m[b]? = some (.row own x) → w.heap.size ≤ l.c)
    (hce : ∀ b l own x, (A i).m.length ≤ b → b < (A (i + 1)).m.length → ι' b = some l → (A n).m[b]? = some (.row own x) → Holds (ι'.upto (A (i + 1)).m.length) w' own x l) (htx : ∀ c o v, ι'.tx c o v → ι.tx c o v ∨ w.heap.size ≤ c) :
    InvD ops n A ι0 w0 a0 (listed.setIfInBounds i true) ι' (a.put o.dst u) w' := by
  have hrd := mem_ready.1 hi
  have hun : listed.getD i false = false := getD_both hrd.1
  have his : i < listed.size := by rw [h.head.size]; exact (Array.getElem?_eq_some_iff.1 ho).1
  have hd : dstAt ops i = o.dst := by simp [dstAt, ho]
  have hset : ∀ j, (listed.setIfInBounds i true).getD j false = true → j = i ∨ listed.getD j false = true := fun j hj => by
    by_cases hji : i = j
    · exact .inl hji.symm
    · rw [getD_set_ne false hji] at hj; exact .inr hj
  have hseti : (listed.setIfInBounds i true).getD i false = true := by simp [his]
  have h0i := hl.len (Nat.zero_le i) (Nat.le_of_lt hin)
  refine ⟨fun b hb => by rw [hseg b (by omega), h.low b hb], fun b l hb => ?_, hr, fun j hj hlj d hdj => ?_, fun t ht => ?_, by rw [show (a.put o.dst u).tmps.size = a.tmps.size by cases o.dst <;> simp [Act.put]]; exact h.size, by rw [show (a.put o.dst u).defers = a.defers by cases o.dst <;> rfl]; exact h.defers, h.head.set hi hin, h.ext.trans (Below.mono hext h.ext.size), fun b l own x hb h1 h2 => ?_, fun j b l own x hj hb h1 h2 => ?_, fun c o v hc => hle.tx c o v (h.tx c o v hc), fun c o v hc => ?_⟩
  · by_cases hs : (A i).m.length ≤ b ∧ b < (A (i + 1)).m.length
    · exact .inr ⟨i, hin, hseti, hs⟩
    · rw [hseg b hs] at hb
      rcases h.seg b l hb with h1 | ⟨j, h1, h2, h3⟩
      · exact .inl h1
      · exact .inr ⟨j, h1, getD_set_true h2, h3⟩
  · by_cases hji : j = i
    · subst hji
      rw [hd] at hdj
      rw [hdj, getD_put a d d u (by rw [h.size]; exact hok.lt j d hj (by rw [hd]; exact hdj)), if_pos rfl]
      exact hu d hdj
    · have hlj' := (hset j hlj).resolve_left hji
      have hne : o.dst ≠ some d := fun e => hji (hok.uniq j i d hj hin hdj (by rw [hd]; exact e))
      have hg : (a.put o.dst u).tmps.getD d undef = a.tmps.getD d undef := by
        cases hod : o.dst with
        | none => rfl
        | some d' =>
          rw [hod] at hne
          simp only [Act.put, Array.getD_eq_getD_getElem?]
          rw [Array.getElem?_setIfInBounds_ne (fun e => hne (by rw [e]))]
      rw [hg]
      exact AV.rel_mono (upto_mono hle) (h.hit j hj hlj' d hdj)
  · have h1 : o.dst ≠ some t := by rw [← hd]; exact ht i hin hseti
    have hg : (a.put o.dst u).tmps.getD t undef = a.tmps.getD t undef := by
      cases hod : o.dst with
      | none => rfl
      | some d' =>
        rw [hod] at h1
        simp only [Act.put, Array.getD_eq_getD_getElem?]
        rw [Array.getElem?_setIfInBounds_ne (fun e => h1 (by rw [e]))]
    rw [hg]
    exact h.miss t fun j hj hlj => ht j hj (getD_set_true hlj)
  · by_cases hs : (A i).m.length ≤ b ∧ b < (A (i + 1)).m.length
    · exact Nat.le_trans h.ext.size (hfr b l own x hs.1 hs.2 h1 h2)
    · rw [hseg b hs] at h1
      exact h.fresh b l own x hb h1 h2
  · by_cases hs : (A i).m.length ≤ b ∧ b < (A (i + 1)).m.length
    · have hij : i + 1 ≤ j := by
        rcases Nat.lt_or_ge i j with h' | h'
        · exact h'
        · have := hl.len h' (Nat.le_of_lt hin); omega
      exact (hce b l own x hs.1 hs.2 h1 h2).mono (upto_up ι' (hl.len hij hj))
    · rw [hseg b hs] at h1
      have hlt := h.r.lt h1 h2
      exact (h.cells j b l own x hj hb h1 h2).heap (hext.block l.c hlt) (upto_mono hle)
  · rcases htx c o v hc with h1 | h1
    · exact h.txn c o v h1
    · exact .inr (Nat.le_trans h.ext.size h1)
theorem upto_ro (hl : Line ops n A W V N N0) {ι : Emb} {w : World} (hR : R ι (A n).m w) (hc : CellsUp n A ι w) {i : Nat} (hi : i ≤ n) : R (ι.upto (A i).m.length) (roMem (A i).m) w := by
  refine ⟨fun b hb => if_neg (by rw [roMem_length] at hb; omega), fun b l own x h1 h2 => ?_, fun b b' l l' own own' x x' hne h1 h2 k1 k2 ho => ?_, fun c Φ hc => ⟨(hR.stay c Φ (hc.to _)).1, fun b l x _ hm _ => by obtain ⟨h, _⟩ := roMem_row hm; cases h⟩⟩
  · obtain ⟨rfl, o, hm⟩ := roMem_row h2
    have hb : b < (A i).m.length := (List.getElem?_eq_some_iff.1 hm).1
    have h1' : ι b = some l := (upto_le _ _).f b l h1
    have hm' : (A n).m[b]? = some (.row o x) := by rw [hl.row hi (Nat.le_refl _) hb]; exact hm
    exact (hc i b l o x hi hb h1' hm').ro
  · obtain ⟨rfl, _⟩ := roMem_row k1
    obtain ⟨rfl, _⟩ := roMem_row k2
    rcases ho with h | h <;> cases h
theorem ro_owned {ι : Emb} {m : Mem} {c : Nat} (h : Owned ι (roMem m) c) : False := by
  obtain ⟨b, l, x, _, hm, _⟩ := h
  obtain ⟨h, _⟩ := roMem_row hm
  cases h
theorem ro_R {ι : Emb} {m : Mem} {w : World} (h : R ι m w) : R ι (roMem m) w := by
  refine ⟨fun b hb => h.dom b (by rw [roMem_length] at hb; exact hb), fun b l own x h1 h2 => ?_, fun b b' l l' own own' x x' _ _ _ k1 k2 ho => ?_, fun c Φ hc => ⟨(h.stay c Φ (hc.to _)).1, fun b l x _ hm _ => by obtain ⟨h, _⟩ := roMem_row hm; cases h⟩⟩
  · obtain ⟨rfl, o, hm⟩ := roMem_row h2
    exact (h.rows b l o x h1 hm).ro
  · obtain ⟨rfl, _⟩ := roMem_row k1
    obtain ⟨rfl, _⟩ := roMem_row k2
    rcases ho with h | h <;> cases h
theorem ro_step {ι ι' : Emb} {m N : Mem} {w w' : World} (hR : R ι m w) (h : Step m.length ι (roMem m) w ι' (roMem m ++ N) w') : Step m.length ι m w ι' (m ++ N) w' := by
  have hle : ι.le ι' := by
    refine ⟨fun b l hb => ?_, h.tx⟩
    have : b < m.length := by
      rcases Nat.lt_or_ge b m.length with h' | h'
      · exact h'
      · rw [hR.dom b h'] at hb; cases hb
    rw [h.ext b this]; exact hb
  have new : ∀ {b own x}, m.length ≤ b → (m ++ N)[b]? = some (.row own x) → (roMem m ++ N)[b]? = some (.row own x) := fun {b own x} hb hm => by
    rw [List.getElem?_append_right hb] at hm
    rw [List.getElem?_append_right (by rw [roMem_length]; exact hb), roMem_length]; exact hm
  have old : ∀ {b own x}, b < m.length → (m ++ N)[b]? = some (.row own x) → m[b]? = some (.row own x) := fun {b own x} hb hm => by rw [List.getElem?_append_left hb] at hm; exact hm
  have far : ∀ {b l own x}, m.length ≤ b → ι' b = some l → (m ++ N)[b]? = some (.row own x) → w.heap.size ≤ l.c := fun {b l own x} hb hl hm => by
    rcases h.news b l own x hb hl (new hb hm) with h3 | h3 | ⟨b0, l0, o0, x0, h4, h5, h6, _⟩
    · exact h3
    · exact (ro_owned h3).elim
    · exact (no_row (by rw [roMem_length]; exact h4) h6).elim
  refine ⟨⟨fun b hb => h.r.dom b (by simpa [roMem_length] using hb), fun b l own x hb hm => ?_, fun b b' l l' own own' x x' hne hb hb' hm hm' hoo => ?_, fun c Φ hc => ⟨(h.r.stay c Φ (hc.to _)).1, fun b l x hb hm e => ?_⟩⟩, ⟨h.trans.os, h.trans.tape, h.trans.output, h.trans.size, fun c hc _ => h.trans.keep c hc ro_owned, fun c hc => ?_⟩, h.tx, fun c o v hc => (h.txn c o v hc).imp id (.imp id fun h => (ro_owned h).elim), h.ext, by simp, fun b x hb hm => by rw [List.getElem?_append_left hb]; exact hm, fun b own x hb hm => ⟨x, old hb hm⟩, fun b l own x hb h1 h2 => .inl (far hb h1 h2)⟩
  · rcases Nat.lt_or_ge b m.length with hs | hs
    · rw [h.ext b hs] at hb
      exact (hR.rows b l own x hb (old hs hm)).heap (h.trans.keep l.c (hR.lt hb (old hs hm)) ro_owned) hle
    · exact h.r.rows b l own x hb (new hs hm)
  · rcases Nat.lt_or_ge b m.length with hs | hs <;> rcases Nat.lt_or_ge b' m.length with hs' | hs'
    · rw [h.ext b hs] at hb
      rw [h.ext b' hs'] at hb'
      exact hR.inj b b' l l' own own' x x' hne hb hb' (old hs hm) (old hs' hm') hoo
    · rw [h.ext b hs] at hb
      have h1 := hR.lt hb (old hs hm)
      have h2 := far hs' hb' hm'
      omega
    · rw [h.ext b' hs'] at hb'
      have h1 := hR.lt hb' (old hs' hm')
      have h2 := far hs hb hm
      omega
    · exact h.r.inj b b' l l' own own' x x' hne hb hb' (new hs hm) (new hs' hm') hoo
  · rcases Nat.lt_or_ge b m.length with hs | hs
    · rw [h.ext b hs] at hb
      rcases h.stayn (hc.to _) with h3 | h3 | h3
      · exact (hR.stay c Φ (h3.to _)).2 b l x hb (old hs hm) e
      · have := hR.lt hb (old hs hm); omega
      · exact ro_owned h3
    · exact (h.r.stay c Φ (hc.to _)).2 b l x hb (new hs hm) e
  · obtain ⟨b, l, x, hb, hm, rfl⟩ := hc
    rcases Nat.lt_or_ge b m.length with hs | hs
    · rw [h.ext b hs] at hb
      exact .inr ⟨b, l, x, hb, old hs hm, rfl⟩
    · exact .inl (far hs hb hm)
theorem InvD.agree (hl : Line ops n A W V N N0) {ι0 : Emb} {w0 : World} {a0 : Act} (hok : OkX ops n a0.tmps.size) (hf : FRel ι0 (A 0) a0) (hR0 : R ι0 (A 0).m w0) {listed : Array Bool} {ι : Emb} {a : Act} {w : World} (h : InvD ops n A ι0 w0 a0 listed ι a w)
    {i : Nat} (hin : i < n) {o : Oper} (ho : ops[i]? = some o) (hb : ∀ j, bef ops i j = true → listed.getD j false = true) (hun : listed.getD i false = false) :
    ∀ t ∈ o.looksAt ops, ((A i).t t).rel (ι.upto (A i).m.length) (a.tmps.getD t undef) := by
  intro t ht
  have hlow : ι0.le (ι.upto (A i).m.length) := by
    refine ⟨fun b l hbl => ?_, h.tx⟩
    have hb0 : b < (A 0).m.length := by
      rcases Nat.lt_or_ge b (A 0).m.length with h' | h'
      · exact h'
      · rw [hR0.dom b h'] at hbl; cases hbl
    have := hl.len (Nat.zero_le i) (Nat.le_of_lt hin)
    unfold Emb.upto
    dsimp only
    rw [if_pos (by omega), h.low b hb0]; exact hbl
  by_cases hex : ∃ j, j < n ∧ dstAt ops j = some t
  · obtain ⟨j, hj, hd⟩ := hex
    rcases hok.look i o t j hin ho ht hj hd with ⟨hji, hbij⟩ | ⟨hij, hbji⟩
    · have hlj := hb j hbij
      rw [hl.slot (i := j + 1) (by omega) (Nat.le_of_lt hin) (fun l h1 h2 hd' => by have := hok.uniq l j t (by omega) hj hd' hd; omega)]
      exact AV.rel_mono (upto_up ι (hl.len (show j + 1 ≤ i by omega) (Nat.le_of_lt hin))) (h.hit j hj hlj t hd)
    · have hnl : listed.getD j false ≠ true := fun hlt => by
        have hjs : j < ops.size := by have := hl.hn; omega
        have := bef_spec h.head.closed hbji (Array.getElem?_eq_getElem hjs) (h.head.closed j _ (Array.getElem?_eq_getElem hjs) hlt)
        rw [hun] at this; cases this
      rw [h.miss t (fun j' hj' hl' hd' => hnl (by rw [← hok.uniq j' j t hj' hj hd' hd]; exact hl')), hl.slot (i := 0) (Nat.zero_le i) (Nat.le_of_lt hin) (fun l _ h2 hd' => by have := hok.uniq l j t (by omega) hj hd' hd; omega)]
      exact AV.rel_mono hlow (hf.rel t)
  · have hno : ∀ j, j < n → dstAt ops j ≠ some t := fun j hj hd => hex ⟨j, hj, hd⟩
    rw [h.miss t (fun j hj _ => hno j hj), hl.slot (i := 0) (Nat.zero_le i) (Nat.le_of_lt hin) (fun l _ h2 => hno l (by omega))]
    exact AV.rel_mono hlow (hf.rel t)
theorem InvD.run {P : Program} {Q' : Exit → Act → World → Prop} (hl : Line ops n A W V N N0) (hW : ∀ i o, i < n → ops[i]? = some o → evWanted ops (A i).t o = some (W i))
    (hV : ∀ i o, i < n → ops[i]? = some o → W i = true → Sound P (.op o.op (opnd (A i).t) (roMem (A i).m)) (.val (V i) (roMem (A i).m ++ N i)))
    {ι0 : Emb} {w0 : World} {a0 : Act} (hok : OkX ops n a0.tmps.size) (hf : FRel ι0 (A 0) a0) (hR0 : R ι0 (A 0).m w0) {listed : Array Bool} {ι : Emb} {a : Act} {w : World} (h : InvD ops n A ι0 w0 a0 listed ι a w)
    {i : Nat} (hi : i ∈ Region.ready .any ops listed) (hin : i < n) {K : Act → World → Prop} (hK : ∀ ι' a' w', InvD ops n A ι0 w0 a0 (listed.setIfInBounds i true) ι' a' w' → K a' w') : wpOp P ops Q' i K a w := by
  have hr := mem_ready.1 hi
  have hun : listed.getD i false = false := getD_both hr.1
  obtain ⟨_, o, ho, hall⟩ := hr
  have hdeps : ∀ j, bef ops i j = true → listed.getD j false = true := fun j hb => bef_spec h.head.closed hb ho hall
  have hag := h.agree hl hok hf hR0 hin ho hdeps hun
  have hwant : Region.wanted o (yielded ops a.tmps) = W i := by
    refine wanted_rel (ι := ι.upto (A i).m.length) (fun d ⟨g, hg, hd⟩ => hag d ?_) (hW i o hin ho)
    obtain ⟨g1, g2⟩ := g
    simp [Oper.looksAt, hg]
    exact .inr (by simpa using hd)
  have hRi := upto_ro hl h.r h.cells (Nat.le_of_lt hin)
  have hopnd : ∀ x ∈ o.op.operands, (opnd (A i).t x).rel (ι.upto (A i).m.length) (a.eval x) := by
    intro x hx
    cases x with
    | tmp t =>
      exact hag t (List.mem_append_left _ (List.mem_filterMap.2 ⟨.tmp t, by simpa using hx, rfl⟩))
    | const v => exact AV.rel_of0 (absV_rel _ v)
    | global g => trivial
    | func f => rfl
  have hstep := hl.step i o hin ho
  unfold wpOp
  simp only [ho]
  rw [hwant]
  by_cases hw : W i = true
  · rw [hw, if_pos rfl]
    rw [if_pos hw] at hstep
    refine .inl ?_
    have hgood := hV i o hin ho hw o (ι.upto (A i).m.length) w a.eval rfl hRi hopnd
    refine hgood.wp rfl fun u w' ι1 hv hst => ?_
    have hlenA : (A (i + 1)).m.length = (roMem (A i).m ++ N i).length := by rw [hstep]; simp [roMem_length]
    have hlo : (A i).m.length ≤ (A (i + 1)).m.length := (hl.mem1 hin).1
    have hhi : (A (i + 1)).m.length ≤ (A n).m.length := hl.len (by omega) (Nat.le_refl _)
    rw [roMem_length] at hst
    -- the places of all that has been made
    have hle1 : ∀ b l, ι1 b = some l → b < (A (i + 1)).m.length := fun b l hb => by
      rcases Nat.lt_or_ge b (A (i + 1)).m.length with h' | h'
      · exact h'
      · rw [hst.r.dom b (by rw [← hlenA]; exact h')] at hb; cases hb
    have segnone : ∀ b, (A i).m.length ≤ b → b < (A (i + 1)).m.length → ι b = none := fun b h1 h2 => by
      cases hb : ι b with
      | none => rfl
      | some l =>
        rcases h.seg b l hb with h3 | ⟨j, h3, h4, h5, h6⟩
        · have := hl.len (Nat.zero_le i) (Nat.le_of_lt hin); omega
        · have hij : j ≠ i := fun e => by rw [e, hun] at h4; cases h4
          rcases Nat.lt_or_ge j i with h7 | h7
          · have := hl.len (show j + 1 ≤ i by omega) (Nat.le_of_lt hin); omega
          · have := hl.len (show i + 1 ≤ j by omega) (Nat.le_of_lt h3); omega
    let ι2 : Emb := ⟨fun b => if (A i).m.length ≤ b ∧ b < (A (i + 1)).m.length then ι1 b else ι b, ι1.tx⟩
    have i2in : ∀ b, (A i).m.length ≤ b → b < (A (i + 1)).m.length → ι2 b = ι1 b := fun b h1 h2 => if_pos ⟨h1, h2⟩
    have i2out : ∀ b, ¬ ((A i).m.length ≤ b ∧ b < (A (i + 1)).m.length) → ι2 b = ι b := fun b hb => if_neg hb
    have hle : ι.le ι2 := by
      refine ⟨fun b l hb => ?_, hst.tx⟩
      by_cases hs : (A i).m.length ≤ b ∧ b < (A (i + 1)).m.length
      · rw [segnone b hs.1 hs.2] at hb; cases hb
      · rw [i2out b hs]; exact hb
    have h12 : ι1.le (ι2.upto (A (i + 1)).m.length) := by
      refine ⟨fun b l hb => ?_, fun _ _ _ h => h⟩
      have hlt := hle1 b l hb
      unfold Emb.upto
      dsimp only
      rw [if_pos hlt]
      by_cases hs : (A i).m.length ≤ b
      · rw [i2in b hs hlt]; exact hb
      · rw [i2out b (by omega)]
        have := hst.ext b (by omega)
        rw [this] at hb
        exact (upto_le _ _).f b l hb
    have newrow : ∀ {b own x}, (A i).m.length ≤ b → b < (A (i + 1)).m.length → (A n).m[b]? = some (.row own x) → (roMem (A i).m ++ N i)[b]? = some (.row own x) := by
      intro b own x h1 h2 hm
      rw [hl.row (show i + 1 ≤ n by omega) (Nat.le_refl _) h2, hstep] at hm
      rw [List.getElem?_append_right (by omega)] at hm
      rw [List.getElem?_append_right (by rw [roMem_length]; omega), roMem_length]; exact hm
    have hext : Below w.heap.size w w' := ⟨hst.trans.os, hst.trans.tape, hst.trans.output, hst.trans.size, fun c hc => hst.trans.keep c hc ro_owned⟩
    have hfr : ∀ b l own x, (A i).m.length ≤ b → b < (A (i + 1)).m.length → ι2 b = some l → (A n).m[b]? = some (.row own x) → w.heap.size ≤ l.c := by
      intro b l own x h1 h2 hb hm
      rw [i2in b h1 h2] at hb
      rcases hst.news b l own x h1 hb (newrow h1 h2 hm) with h3 | h3 | ⟨b0, l0, o0, x0, h4, h5, h6, _⟩
      · exact h3
      · exact (ro_owned h3).elim
      · exact (no_row (by rw [roMem_length]; exact h4) h6).elim
    have hR2 : R ι2 (A n).m w' := by
      refine ⟨fun b hb => ?_, fun b l own x hb hm => ?_, fun b b' l l' own own' x x' hne hb hb' hm hm' hoo => ?_, fun c Φ hc => ⟨(hst.r.stay c Φ (hc.to _)).1, fun b l x hb hm e => ?_⟩⟩
      · rw [i2out b (by omega)]; exact h.r.dom b hb
      · by_cases hs : (A i).m.length ≤ b ∧ b < (A (i + 1)).m.length
        · rw [i2in b hs.1 hs.2] at hb
          exact ((hst.r.rows b l own x hb (newrow hs.1 hs.2 hm)).mono h12).mono (upto_le _ _)
        · rw [i2out b hs] at hb
          exact (h.r.rows b l own x hb hm).heap (hext.block l.c (h.r.lt hb hm)) hle
      · by_cases hs : (A i).m.length ≤ b ∧ b < (A (i + 1)).m.length <;> by_cases hs' : (A i).m.length ≤ b' ∧ b' < (A (i + 1)).m.length
        · rw [i2in b hs.1 hs.2] at hb
          rw [i2in b' hs'.1 hs'.2] at hb'
          exact hst.r.inj b b' l l' own own' x x' hne hb hb' (newrow hs.1 hs.2 hm) (newrow hs'.1 hs'.2 hm') hoo
        · have h1 := hfr b l own x hs.1 hs.2 hb hm
          rw [i2out b' hs'] at hb'
          have h2 := h.r.lt hb' hm'
          omega
        · have h1 := hfr b' l' own' x' hs'.1 hs'.2 hb' hm'
          rw [i2out b hs] at hb
          have h2 := h.r.lt hb hm
          omega
        · rw [i2out b hs] at hb
          rw [i2out b' hs'] at hb'
          exact h.r.inj b b' l l' own own' x x' hne hb hb' hm hm' hoo
      · by_cases hs : (A i).m.length ≤ b ∧ b < (A (i + 1)).m.length
        · rw [i2in b hs.1 hs.2] at hb
          exact (hst.r.stay c Φ (hc.to _)).2 b l x hb (newrow hs.1 hs.2 hm) e
        · rw [i2out b hs] at hb
          rcases hst.stayn (hc.to _) with h3 | h3 | h3
          · exact (h.r.stay c Φ (h3.to _)).2 b l x hb hm e
          · have := h.r.lt hb hm; omega
          · exact ro_owned h3
    refine hK ι2 _ _ (h.next hl hok hi hin ho hle i2out hR2 (fun d hd => ?_) hext hfr (fun b l own x h1 h2 hb hm => ?_) (fun c o v hc => (hst.txn c o v hc).imp id fun h => h.elim id fun h => (ro_owned h).elim))
    · rw [hstep]
      show (putT (A i).t o.dst (V i) d).rel _ _
      rw [hd]
      show (upd (A i).t d (V i) d).rel _ _
      rw [upd_eq]
      have := AV.rel_mono h12 hv
      rw [hstep] at this
      exact this
    · rw [i2in b h1 h2] at hb
      exact (hst.r.rows b l own x hb (newrow h1 h2 hm)).mono h12
  · have hw' : W i = false := by cases hc : W i <;> simp_all
    rw [hw']
    rw [if_neg hw] at hstep
    have hm : (A (i + 1)).m = (A i).m := by rw [hstep]
    refine hK ι _ _ (h.next hl hok hi hin ho (.refl _) (fun _ _ => rfl) h.r (fun d hd => ?_) (Below.refl _ _) (fun b l own x h1 h2 => by rw [hm] at h2; omega) (fun b l own x h1 h2 => by rw [hm] at h2; omega) (fun _ _ _ h => .inl h))
    rw [hstep]
    show (putT (A i).t o.dst noV d).rel _ _
    rw [hd]
    show (upd (A i).t d noV d).rel _ _
    rw [upd_eq]
    rfl
theorem InvD.any {P : Program} {Q' : Exit → Act → World → Prop} {k : Nat} (hl : Line ops n A W V N N0) (hW : ∀ i o, i < n → ops[i]? = some o → evWanted ops (A i).t o = some (W i))
    (hV : ∀ i o, i < n → ops[i]? = some o → W i = true → Sound P (.op o.op (opnd (A i).t) (roMem (A i).m)) (.val (V i) (roMem (A i).m ++ N i)))
    {ι0 : Emb} {w0 : World} {a0 : Act} (hall : Region.okAll ops n a0.tmps.size = true) (hf : FRel ι0 (A 0) a0) (hR0 : R ι0 (A 0).m w0) (hk : k ≤ (A 0).m.length)
    (hQ : ∀ ι' a' w', FRel ι' (A n) a' → a'.defers = a0.defers → Step k ι0 (A 0).m w0 ι' (A n).m w' → wpList P ops Q' (ops.toList.drop n) a' w') :
    ∀ (f : Nat) (un : List Nat) (listed : Array Bool) (ι : Emb) (a : Act) (w : World), un.length = f → un.Nodup → (∀ j, j ∈ un ↔ j < n ∧ listed.getD j false = false) → InvD ops n A ι0 w0 a0 listed ι a w →
      wpAny P .any ops Q' (f + (ops.size - n)) listed a w := by
  simp only [Region.okAll, Bool.and_eq_true, Bool.or_eq_true, decide_eq_true_eq] at hall
  obtain ⟨⟨⟨⟨hn, hok0⟩, htail⟩, hseq⟩, hback⟩ := hall
  have hok := Region.okX_spec hok0
  intro f
  induction f with
  | zero =>
    intro un listed ι a w hlu _ hun h
    obtain rfl : un = [] := List.length_eq_zero_iff.1 hlu
    have hdone : ∀ j, j < n → listed.getD j false = true := fun j hj => by
      cases hb : listed.getD j false with
      | true => rfl
      | false => have := (hun j).2 ⟨hj, hb⟩; simp at this
    have hlisted : listed = headListed n ops.size := by
      apply Array.ext_getElem?
      intro j
      by_cases hj : j < ops.size
      · have hjl : j < listed.size := by rw [h.head.size]; exact hj
        have e : (headListed n ops.size)[j]? = some (decide (j < n)) := by simp [headListed, hj]
        rw [e, Array.getElem?_eq_getElem hjl]
        congr 1
        by_cases hjn : j < n
        · have := hdone j hjn; simpa [hjl, hjn] using this
        · have := h.head.tail j (by omega) hj; simpa [hjl, hjn] using this
      · rw [Array.getElem?_eq_none (by rw [h.head.size]; omega), Array.getElem?_eq_none (by simp [headListed]; omega)]
    have h0n := hl.len (Nat.zero_le n) (Nat.le_refl n)
    have hlow : ι0.le ι := by
      refine ⟨fun b l hbl => ?_, h.tx⟩
      have hb0 : b < (A 0).m.length := by
        rcases Nat.lt_or_ge b (A 0).m.length with h' | h'
        · exact h'
        · rw [hR0.dom b h'] at hbl; cases hbl
      rw [h.low b hb0]; exact hbl
    have hnn : ∀ i, (A i).n = N0 ∨ i = 0 ∨ n < i := fun i => by
      rcases Nat.eq_zero_or_pos i with h0 | h0
      · exact .inr (.inl h0)
      · rcases Nat.lt_or_ge n i with h1 | h1
        · exact .inr (.inr h1)
        · obtain ⟨o, ho⟩ := hl.at (show i - 1 < n by omega)
          have := hl.step (i - 1) o (by omega) ho
          rw [show i - 1 + 1 = i by omega] at this
          rw [this]; left; split <;> rfl
    have hq := hQ ι a w ⟨?_, fun t => ?_⟩ h.defers ⟨h.r, ⟨h.ext.os, h.ext.tape, h.ext.output, h.ext.size, fun c hc _ => h.ext.block c hc, fun c hc => ?_⟩, h.tx, fun c o v hc => (h.txn c o v hc).imp id .inl, fun b hb => h.low b (by omega), by omega, fun b x hb hm => ?_, fun b own x hb hm => ?_, fun b l own x hb h1 h2 => ?_⟩
    · have hdl : (ops.toList.drop n).length = ops.size - n := by simp
      have := wpAny_of_seq (md := .any) (Q' := Q') (ops.toList.drop n) n listed a w (fun j => by simp [List.getElem?_drop]) (by rw [hdl, hlisted]; exact hseq) hq
      rw [hdl] at this
      rw [Nat.zero_add]
      exact this
    · rw [h.size, hf.size, hl.h0]
      rcases hnn n with h0 | h0 | h0
      · exact h0.symm
      · rw [h0]; exact hl.h0.symm
      · omega
    · by_cases hex : ∃ j, j < n ∧ dstAt ops j = some t
      · obtain ⟨j, hj, hd⟩ := hex
        rw [hl.slot (i := j + 1) (by omega) (Nat.le_refl n) (fun l h1 h2 hd' => by have := hok.uniq l j t (by omega) hj hd' hd; omega)]
        exact AV.rel_mono (upto_le _ _) (h.hit j hj (hdone j hj) t hd)
      · have hno : ∀ j, j < n → dstAt ops j ≠ some t := fun j hj hd => hex ⟨j, hj, hd⟩
        rw [h.miss t (fun j hj _ => hno j hj), hl.slot (i := 0) (Nat.zero_le n) (Nat.le_refl n) (fun l _ h2 => hno l (by omega))]
        exact AV.rel_mono hlow (hf.rel t)
    · obtain ⟨b, l, x, h1, h2, rfl⟩ := hc
      rcases Nat.lt_or_ge b (A 0).m.length with h3 | h3
      · rw [h.low b h3] at h1
        rw [hl.row (Nat.zero_le n) (Nat.le_refl n) h3] at h2
        exact .inr ⟨b, l, x, h1, h2, rfl⟩
      · exact .inl (h.fresh b l true x h3 h1 h2)
    · rw [hl.row (Nat.zero_le n) (Nat.le_refl n) (by omega)]; exact hm
    · rw [hl.row (Nat.zero_le n) (Nat.le_refl n) (by omega)] at hm; exact ⟨x, hm⟩
    · rcases Nat.lt_or_ge b (A 0).m.length with h3 | h3
      · rw [h.low b h3] at h1
        rw [hl.row (Nat.zero_le n) (Nat.le_refl n) h3] at h2
        exact .inr (.inr ⟨b, l, own, x, hb, h1, h2, rfl⟩)
      · exact .inl (h.fresh b l own x h3 h1 h2)
  | succ f ih =>
    intro un listed ι a w hlu hnd hun h
    obtain ⟨i0, hi0⟩ : ∃ i0, i0 ∈ un := by cases un with | nil => simp at hlu | cons x _ => exact ⟨x, List.mem_cons_self⟩
    have least : ∀ m i, i ≤ m → i ∈ un → ∃ j, j ∈ Region.ready .any ops listed := by
      intro m
      induction m with
      | zero =>
        intro i him hiu
        obtain ⟨hin, hb⟩ := (hun i).1 hiu
        have his : i < listed.size := by rw [h.head.size]; omega
        refine ⟨i, mem_ready.2 ⟨getD_in his hb, ops[i]'(by omega), Array.getElem?_eq_getElem (by omega), fun e he hbind => ?_⟩⟩
        have := List.all_eq_true.1 hback i (List.mem_range.2 (by omega))
        rw [Array.getElem?_eq_getElem (show i < ops.size by omega)] at this
        have := Array.all_eq_true_iff_forall_mem.1 this e he
        simp only [hbind, Bool.not_true, Bool.false_or, decide_eq_true_eq] at this
        omega
      | succ m ihm =>
        intro i him hiu
        obtain ⟨hin, hb⟩ := (hun i).1 hiu
        have his : i < listed.size := by rw [h.head.size]; omega
        by_cases hall : ∀ e ∈ (ops[i]'(by omega)).after, Region.binds .any e = true → listed.getD e.on false = true
        · exact ⟨i, mem_ready.2 ⟨getD_in his hb, _, Array.getElem?_eq_getElem (by omega), hall⟩⟩
        · have : ∃ e ∈ (ops[i]'(by omega)).after, Region.binds .any e = true ∧ listed.getD e.on false = false := by
            apply Classical.byContradiction
            intro hc
            apply hall
            intro e he hbind
            cases hlb : listed.getD e.on false with
            | true => rfl
            | false => exact absurd ⟨e, he, hbind, hlb⟩ hc
          obtain ⟨e, he, hbind, hlb⟩ := this
          have hlt := List.all_eq_true.1 hback i (List.mem_range.2 (by omega))
          rw [Array.getElem?_eq_getElem (show i < ops.size by omega)] at hlt
          have hlt := Array.all_eq_true_iff_forall_mem.1 hlt e he
          simp only [hbind, Bool.not_true, Bool.false_or, decide_eq_true_eq] at hlt
          exact ihm e.on (by omega) ((hun e.on).2 ⟨by omega, hlb⟩)
    rw [show f + 1 + (ops.size - n) = (f + (ops.size - n)) + 1 by omega]
    refine ⟨fun hnil => ?_, fun i hi => ?_⟩
    · obtain ⟨j, hj⟩ := least i0 i0 (Nat.le_refl _) hi0
      rw [hnil] at hj; cases hj
    · have hun0 := (mem_ready.1 hi).1
      have hin : i < n := by
        rcases Nat.lt_or_ge i n with hlt | hge
        · exact hlt
        · obtain ⟨_, o, ho, _⟩ := mem_ready.1 hi
          have his : i < ops.size := (Array.getElem?_eq_some_iff.1 ho).1
          rcases htail with he | ⟨hs, hc⟩
          · omega
          · obtain ⟨hi0n, hb0⟩ := (hun i0).1 hi0
            exact absurd hi (tail_waits hs hc (by omega) h.head _ i0 rfl hi0n (getD_in (by rw [h.head.size]; omega) hb0) i hge)
      refine h.run hl hW hV hok hf hR0 hi hin fun ι' a' w' h' => ?_
      have himem : i ∈ un := (hun i).2 ⟨hin, getD_both hun0⟩
      refine ih (un.erase i) _ ι' a' w' (by rw [List.length_erase_of_mem himem, hlu]; rfl) (hnd.erase i) (fun j => ?_) h'
      rw [hnd.mem_erase_iff, hun j]
      by_cases hji : j = i
      · subst hji
        have his : j < listed.size := by rw [h.head.size]; omega
        simp [his]
      · rw [getD_set_ne false (fun e => hji e.symm)]
        simp [hji]
theorem draw_any {P : Program} {Q : Exit → Act → World → Prop} {k : Nat} (hl : Line ops n A W V N (A 0).n) (hW : ∀ i o, i < n → ops[i]? = some o → evWanted ops (A i).t o = some (W i))
    (hV : ∀ i o, i < n → ops[i]? = some o → W i = true → Sound P (.op o.op (opnd (A i).t) (roMem (A i).m)) (.val (V i) (roMem (A i).m ++ N i)))
    (hall : Region.okAll ops n (A 0).n = true) {ι : Emb} {w : World} {a : Act} (hf : FRel ι (A 0) a) (hR : R ι (A 0).m w) (hk : k ≤ (A 0).m.length)
    (hQ : ∀ ι' a' w', FRel ι' (A n) a' → a'.defers = a.defers → Step k ι (A 0).m w ι' (A n).m w' → wpList P ops Q (ops.toList.drop n) a' w') : wpAny P .any ops Q ops.size (Array.replicate ops.size false) a w.drew := by
  have hn := hl.hn
  have hRd : R ι (A 0).m w.drew := ⟨hR.dom, hR.rows, hR.inj, hR.stay⟩
  have h0n := hl.len (Nat.zero_le n) (Nat.le_refl n)
  have hinv : InvD ops n A ι w.drew a (Array.replicate ops.size false) ι a w.drew := by
    refine ⟨fun _ _ => rfl, fun b l hb => .inl ?_, ⟨fun b hb => hR.dom b (by omega), fun b l own x hb hm => ?_, fun b b' l l' o o' x x' hne hb hb' hm hm' ho => ?_, fun c Φ hc => ⟨(hRd.stay c Φ (hc.to _)).1, fun b l x hb hm e => ?_⟩⟩, fun j _ hl => (by rw [getD_replicate_false] at hl; cases hl), fun _ _ => rfl, rfl, rfl,
      ⟨by simp, fun j oj _ hl => (by rw [getD_replicate_false] at hl; cases hl), fun t _ ht => getD_in (by simpa using ht) (getD_replicate_false _ _)⟩, Below.refl _ _, fun b l own x hb h1 h2 => ?_, fun i b l own x hi hb h1 h2 => ?_, fun _ _ _ h => h, fun _ _ _ h => .inl h⟩
    all_goals
      have inlow : ∀ b l, ι b = some l → b < (A 0).m.length := fun b l hb => by
        rcases Nat.lt_or_ge b (A 0).m.length with h' | h'
        · exact h'
        · rw [hR.dom b h'] at hb; cases hb
    · exact inlow b l hb
    · rw [hl.row (Nat.zero_le n) (Nat.le_refl n) (inlow b l hb)] at hm
      exact hRd.rows b l own x hb hm
    · rw [hl.row (Nat.zero_le n) (Nat.le_refl n) (inlow b l hb)] at hm
      rw [hl.row (Nat.zero_le n) (Nat.le_refl n) (inlow b' l' hb')] at hm'
      exact hRd.inj b b' l l' o o' x x' hne hb hb' hm hm' ho
    · rw [hl.row (Nat.zero_le n) (Nat.le_refl n) (inlow b l hb)] at hm
      exact (hRd.stay c Φ (hc.to _)).2 b l x hb hm e
    · have := inlow b l h1; omega
    · rw [hl.row (Nat.zero_le n) (Nat.le_refl n) (inlow b l h1)] at h2
      refine (hRd.rows b l own x h1 h2).mono ⟨fun b l hb => ?_, fun _ _ _ h => h⟩
      have h3 := inlow b l hb
      have h4 := hl.len (Nat.zero_le i) hi
      unfold Emb.upto
      dsimp only
      rw [if_pos (by omega)]; exact hb
  have := InvD.any (Q' := Q) hl hW hV (by rw [hf.size]; exact hall) hf hRd hk (fun ι' a' w' h1 h2 h3 => hQ ι' a' w' h1 h2 ⟨h3.r, ⟨h3.trans.os, h3.trans.tape, h3.trans.output, h3.trans.size, h3.trans.keep, h3.trans.fresh⟩, h3.tx, h3.txn, h3.ext, h3.len, h3.ro, h3.old, h3.news⟩) n (List.range n) _ _ _ _ (by simp) List.nodup_range (fun j => by rw [getD_replicate_false]; simp) hinv
  have e : n + (ops.size - n) = ops.size := by omega
  rw [e] at this
  exact this
theorem draw_sound {P : Program} {Q : Exit → Act → World → Prop} {id k : Nat} (hm : P.follows .mixedOrders = true) (hl : Line ops n A W V N (A 0).n) (hW : ∀ i o, i < n → ops[i]? = some o → evWanted ops (A i).t o = some (W i))
    (hV : ∀ i o, i < n → ops[i]? = some o → W i = true → Sound P (.op o.op (opnd (A i).t) (roMem (A i).m)) (.val (V i) (roMem (A i).m ++ N i)))
    (hall : Region.okAll ops n (A 0).n = true) {ι : Emb} {w : World} {a : Act} (hf : FRel ι (A 0) a) (hR : R ι (A 0).m w) (hk : k ≤ (A 0).m.length)
    (hQ : ∀ ι' a' w', FRel ι' (A n) a' → a'.defers = a.defers → Step k ι (A 0).m w ι' (A n).m w' → wpList P ops Q (ops.toList.drop n) a' w') : (Code.region id ops true).wp P Q a w := wp_region_any hm (draw_any hl hW hV hall hf hR hk hQ)
theorem late_sound {P : Program} {Q : Exit → Act → World → Prop} {id k i0 : Nat} (hm : P.follows .mixedOrders = true) (hc : lateCheck ops n i0 = true) (hl : Line (lateOps ops n i0) n A W V N (A 0).n) (hW : ∀ i o, i < n → (lateOps ops n i0)[i]? = some o → evWanted (lateOps ops n i0) (A i).t o = some (W i))
    (hV : ∀ i o, i < n → (lateOps ops n i0)[i]? = some o → W i = true → Sound P (.op o.op (opnd (A i).t) (roMem (A i).m)) (.val (V i) (roMem (A i).m ++ N i)))
    (hall : Region.okAll (lateOps ops n i0) n (A 0).n = true) {ι : Emb} {w : World} {a : Act} (hf : FRel ι (A 0) a) (hR : R ι (A 0).m w) (hk : k ≤ (A 0).m.length)
    (hQ : ∀ ι' a' w', FRel ι' (A n) a' → a'.defers = a.defers → Step k ι (A 0).m w ι' (A n).m w' → wpList P (lateOps ops n i0) (nrm Q) ((lateOps ops n i0).toList.drop n) a' w') : (Code.region id ops true).wp P Q a w := by
  obtain ⟨oi, on, hlo⟩ := lateCheck_spec hc
  have h1 := draw_any hl hW hV hall hf hR hk hQ
  rw [late_size] at h1
  have h2 := late_any hlo _ _ _ _ (by simp) h1
  exact wp_mono (wp_region_any hm h2) fun e a w h => by obtain ⟨rfl, h⟩ := h; exact h
end
end Go.Proofs.YtmbepikkgkcgkaaGreatDoor
namespace Go.Proofs.YtmbepikkgkcgkaaGreatDoor
open Go.RowKit
structure OkS (ops : Array Oper) (size : Nat) : Prop where
  ok : OkX ops ops.size size
  guard : ∀ (i : Nat) (o : Oper), ops[i]? = some o → o.guard = none
  dst : ∀ (i : Nat) (o : Oper), ops[i]? = some o → isStore o = true → o.dst = none
  chain : ∀ (i j : Nat) (o o' : Oper), i < j → ops[i]? = some o → ops[j]? = some o' → isStore o = true → isStore o' = true → bef ops j i = true
  back : ∀ (i : Nat) (o : Oper) (e : Edge), ops[i]? = some o → e ∈ o.after → Region.binds .any e = true → e.on < i
theorem Region.okStores_spec {ops : Array Oper} {size : Nat} (h : Region.okStores ops size = true) : OkS ops size := by
  simp only [Region.okStores, Bool.and_eq_true, List.all_eq_true, List.mem_range] at h
  obtain ⟨h1, h2⟩ := h
  have lt : ∀ {i : Nat} {o : Oper}, ops[i]? = some o → i < ops.size := fun ho => (Array.getElem?_eq_some_iff.1 ho).1
  refine ⟨Region.okX_spec h1, fun i o ho => ?_, fun i o ho hs => ?_, fun i j o o' hij ho ho' hs hs' => ?_, fun i o e ho he hb => ?_⟩
  · have := h2 i (lt ho)
    rw [ho] at this
    simp only [Bool.and_eq_true, Option.isNone_iff_eq_none] at this
    exact this.1.1
  · have := h2 i (lt ho)
    rw [ho] at this
    simp only [Bool.and_eq_true, Bool.or_eq_true, hs, Bool.not_true, Bool.false_eq_true, false_or, Option.isNone_iff_eq_none] at this
    exact this.1.2.1
  · have := h2 i (lt ho)
    rw [ho] at this
    simp only [Bool.and_eq_true, Bool.or_eq_true, hs, Bool.not_true, Bool.false_eq_true, false_or, List.all_eq_true, List.mem_range] at this
    have := this.1.2.2 j (lt ho')
    rw [ho'] at this
    simpa [hs', hij] using this
  · have := h2 i (lt ho)
    rw [ho] at this
    simp only [Bool.and_eq_true] at this
    have := Array.all_eq_true_iff_forall_mem.1 this.2 e he
    simpa [hb] using this
structure LineS (P : Program) (ops : Array Oper) (A : Nat → St) (V : Nat → AV) (N0 : Nat) : Prop where
  h0 : (A 0).n = N0
  pure : ∀ (i : Nat) (o : Oper), ops[i]? = some o → isStore o = false → (evVal P (opnd (A i).t) (deadMem (A 0).m.length) o.op = some (V i) ∨ (early ops i = true ∧ Sound P (.op o.op (opnd (A i).t) (A 0).m) (.val (V i) (A 0).m)) ∨ ∃ Mk : Mem, (∀ c, c ≤ ops.size → ∀ (ι : Emb) (w : World), R ι (A c).m w → R ι Mk w) ∧ evVal P (opnd (A i).t) Mk o.op = some (V i)) ∧ A (i + 1) = ⟨N0, putT (A i).t o.dst (V i), (A i).m⟩
  store : ∀ (i : Nat) (o : Oper), ops[i]? = some o → isStore o = true → ∃ v m', evMem P (opnd (A i).t) (A i).m o.op = some (v, m') ∧ m'.length = (A i).m.length ∧ A (i + 1) = ⟨N0, (A i).t, m'⟩
section
variable {P : Program} {ops : Array Oper} {A : Nat → St} {V : Nat → AV} {N0 : Nat}
theorem LineS.tmp1 (h : LineS P ops A V N0) {i : Nat} (hi : i < ops.size) {t : Nat} (ht : dstAt ops i ≠ some t) : (A (i + 1)).t t = (A i).t t := by
  have ho : ops[i]? = some (ops[i]'hi) := Array.getElem?_eq_getElem hi
  have hd : dstAt ops i = (ops[i]'hi).dst := by simp [dstAt, ho]
  rw [hd] at ht
  cases hs : isStore (ops[i]'hi) with
  | true => obtain ⟨v, m', _, _, e⟩ := h.store i _ ho hs; rw [e]
  | false =>
    obtain ⟨_, e⟩ := h.pure i _ ho hs
    rw [e]
    show putT (A i).t (ops[i]'hi).dst (V i) t = _
    cases hdd : (ops[i]'hi).dst with
    | none => rfl
    | some d => rw [hdd] at ht; exact upd_ne _ _ (fun e => ht (by rw [e]))
theorem LineS.len1 (h : LineS P ops A V N0) {i : Nat} (hi : i < ops.size) : (A (i + 1)).m.length = (A i).m.length := by
  have ho : ops[i]? = some (ops[i]'hi) := Array.getElem?_eq_getElem hi
  cases hs : isStore (ops[i]'hi) with
  | true => obtain ⟨v, m', _, hl, e⟩ := h.store i _ ho hs; rw [e]; exact hl
  | false => obtain ⟨_, e⟩ := h.pure i _ ho hs; rw [e]
theorem LineS.len (h : LineS P ops A V N0) : ∀ i, i ≤ ops.size → (A i).m.length = (A 0).m.length
  | 0, _ => rfl
  | i + 1, hi => by rw [h.len1 (by omega), LineS.len h i (by omega)]
theorem LineS.slot (h : LineS P ops A V N0) {i t : Nat} : ∀ d, i + d ≤ ops.size → (∀ j, i ≤ j → j < i + d → dstAt ops j ≠ some t) → (A (i + d)).t t = (A i).t t
  | 0, _, _ => rfl
  | d + 1, hd, hno => by
    rw [show i + (d + 1) = i + d + 1 by omega, h.tmp1 (by omega) (hno _ (by omega) (by omega)), LineS.slot h d (by omega) fun j h1 h2 => hno j h1 (by omega)]
theorem LineS.slot' (h : LineS P ops A V N0) {i j t : Nat} (hij : i ≤ j) (hj : j ≤ ops.size) (hno : ∀ l, i ≤ l → l < j → dstAt ops l ≠ some t) : (A j).t t = (A i).t t := by
  have := h.slot (i := i) (t := t) (j - i) (by omega) (fun l h1 h2 => hno l h1 (by omega))
  rwa [show i + (j - i) = j by omega] at this
theorem LineS.mem (h : LineS P ops A V N0) {i : Nat} : ∀ d, i + d ≤ ops.size → (∀ j o, i ≤ j → j < i + d → ops[j]? = some o → isStore o = false) → (A (i + d)).m = (A i).m
  | 0, _, _ => rfl
  | d + 1, hd, hno => by
    have hlt : i + d < ops.size := by omega
    have ho : ops[i + d]? = some (ops[i + d]'hlt) := Array.getElem?_eq_getElem hlt
    obtain ⟨_, e⟩ := h.pure (i + d) _ ho (hno _ _ (by omega) (by omega) ho)
    rw [show i + (d + 1) = i + d + 1 by omega, e]
    exact LineS.mem h d (by omega) fun j o h1 h2 => hno j o h1 (by omega)
theorem LineS.mem' (h : LineS P ops A V N0) {i j : Nat} (hij : i ≤ j) (hj : j ≤ ops.size) (hno : ∀ l o, i ≤ l → l < j → ops[l]? = some o → isStore o = false) : (A j).m = (A i).m := by
  have := h.mem (i := i) (j - i) (by omega) (fun l o h1 h2 => hno l o h1 (by omega))
  rwa [show i + (j - i) = j by omega] at this
structure InvS (ops : Array Oper) (A : Nat → St) (k : Nat) (ι0 : Emb) (w0 : World) (a0 : Act) (listed : Array Bool) (ι : Emb) (a : Act) (w : World) : Prop where
  cut : ∃ j, j ≤ ops.size ∧ (∀ i o, ops[i]? = some o → isStore o = true → (listed.getD i false = true ↔ i < j)) ∧ Step k ι0 (A 0).m w0 ι (A j).m w
  le : ι0.le ι
  hit : ∀ j, j < ops.size → listed.getD j false = true → ∀ d, dstAt ops j = some d → ((A (j + 1)).t d).rel ι (a.tmps.getD d undef)
  miss : ∀ t, (∀ j, j < ops.size → listed.getD j false = true → dstAt ops j ≠ some t) → a.tmps.getD t undef = a0.tmps.getD t undef
  size : a.tmps.size = a0.tmps.size
  defers : a.defers = a0.defers
  head : HeadInv .any ops ops.size listed
theorem put_other (a : Act) {d : Option Tmp} {t : Nat} (u : Value) (h : d ≠ some t) : (a.put d u).tmps.getD t undef = a.tmps.getD t undef := by
  cases d with
  | none => rfl
  | some d =>
    simp only [Act.put, Array.getD_eq_getD_getElem?]
    rw [Array.getElem?_setIfInBounds_ne (fun e => h (by rw [e]))]
theorem InvS.agree (hl : LineS P ops A V N0) {k : Nat} {ι0 : Emb} {w0 : World} {a0 : Act} (hok : OkX ops ops.size a0.tmps.size) (hf : FRel ι0 (A 0) a0) {listed : Array Bool} {ι : Emb} {a : Act} {w : World} (h : InvS ops A k ι0 w0 a0 listed ι a w)
    {i : Nat} (hin : i < ops.size) {o : Oper} (ho : ops[i]? = some o) (hb : ∀ j, bef ops i j = true → listed.getD j false = true) (hun : listed.getD i false = false) :
    ∀ t ∈ o.looksAt ops, ((A i).t t).rel ι (a.tmps.getD t undef) := by
  intro t ht
  by_cases hex : ∃ j, j < ops.size ∧ dstAt ops j = some t
  · obtain ⟨j, hj, hd⟩ := hex
    rcases hok.look i o t j hin ho ht hj hd with ⟨hji, hbij⟩ | ⟨hij, hbji⟩
    · have hlj := hb j hbij
      rw [hl.slot' (i := j + 1) (by omega) (Nat.le_of_lt hin) (fun l h1 h2 hd' => by have := hok.uniq l j t (by omega) hj hd' hd; omega)]
      exact h.hit j hj hlj t hd
    · have hnl : listed.getD j false ≠ true := fun hlt => by
        have := bef_spec h.head.closed hbji (Array.getElem?_eq_getElem hj) (h.head.closed j _ (Array.getElem?_eq_getElem hj) hlt)
        rw [hun] at this; cases this
      rw [h.miss t (fun j' hj' hl' hd' => hnl (by rw [← hok.uniq j' j t hj' hj hd' hd]; exact hl')), hl.slot' (i := 0) (Nat.zero_le i) (Nat.le_of_lt hin) (fun l _ h2 hd' => by have := hok.uniq l j t (by omega) hj hd' hd; omega)]
      exact AV.rel_mono h.le (hf.rel t)
  · have hno : ∀ j, j < ops.size → dstAt ops j ≠ some t := fun j hj hd => hex ⟨j, hj, hd⟩
    rw [h.miss t (fun j hj _ => hno j hj), hl.slot' (i := 0) (Nat.zero_le i) (Nat.le_of_lt hin) (fun l _ h2 => hno l (by omega))]
    exact AV.rel_mono h.le (hf.rel t)
theorem InvS.next {k : Nat} {ι0 : Emb} {w0 : World} {a0 : Act} (hok : OkX ops ops.size a0.tmps.size) {listed : Array Bool} {ι ι' : Emb} {a : Act} {w : World} (h : InvS ops A k ι0 w0 a0 listed ι a w) (hle : ι.le ι')
    {i : Nat} (hi : i ∈ Region.ready .any ops listed) {o : Oper} (ho : ops[i]? = some o) {u : Value} {w' : World}
    (hcut : ∃ j, j ≤ ops.size ∧ (∀ i' o, ops[i']? = some o → isStore o = true → ((listed.setIfInBounds i true).getD i' false = true ↔ i' < j)) ∧ Step k ι0 (A 0).m w0 ι' (A j).m w')
    (hu : ∀ d, o.dst = some d → ((A (i + 1)).t d).rel ι' u) : InvS ops A k ι0 w0 a0 (listed.setIfInBounds i true) ι' (a.put o.dst u) w' := by
  have hin : i < ops.size := (Array.getElem?_eq_some_iff.1 ho).1
  have his : i < listed.size := by rw [h.head.size]; exact hin
  have hd : dstAt ops i = o.dst := by simp [dstAt, ho]
  have hset : ∀ j, (listed.setIfInBounds i true).getD j false = true → j = i ∨ listed.getD j false = true := fun j hj => by
    by_cases hji : i = j
    · exact .inl hji.symm
    · rw [getD_set_ne false hji] at hj; exact .inr hj
  have hseti : (listed.setIfInBounds i true).getD i false = true := by simp [his]
  refine ⟨hcut, ⟨fun b l hb => hle.f b l (h.le.f b l hb), fun c o v hc => hle.tx c o v (h.le.tx c o v hc)⟩, fun j hj hlj d hdj => ?_, fun t ht => ?_, by rw [show (a.put o.dst u).tmps.size = a.tmps.size by cases o.dst <;> simp [Act.put]]; exact h.size, by rw [show (a.put o.dst u).defers = a.defers by cases o.dst <;> rfl]; exact h.defers, h.head.set hi hin⟩
  · by_cases hji : j = i
    · subst hji
      rw [hd] at hdj
      rw [hdj, getD_put a d d u (by rw [h.size]; exact hok.lt j d hj (by rw [hd]; exact hdj)), if_pos rfl]
      exact hu d hdj
    · have hlj' := (hset j hlj).resolve_left hji
      have hne : o.dst ≠ some d := fun e => hji (hok.uniq j i d hj hin hdj (by rw [hd]; exact e))
      rw [put_other a u hne]
      exact AV.rel_mono hle (h.hit j hj hlj' d hdj)
  · have h1 : o.dst ≠ some t := by rw [← hd]; exact ht i hin hseti
    rw [put_other a u h1]
    exact h.miss t fun j hj hlj => ht j hj (getD_set_true hlj)
theorem dead_R {ι : Emb} {n : Nat} {w : World} (h : ∀ b, n ≤ b → ι b = none) (ht : ∀ c Φ, Stays ι c Φ → ∃ ob, w.heap[c]? = some ob ∧ Φ ob) : R ι (deadMem n) w := by
  have no : ∀ (b : Nat) (own : Bool) (x : Arr), (deadMem n)[b]? = some (.row own x) → False := fun b own x hb => by
    unfold deadMem at hb
    rw [List.getElem?_replicate] at hb
    split at hb <;> cases hb
  exact ⟨fun b hb => h b (by simpa [deadMem] using hb), fun b l own x _ hm => (no _ _ _ hm).elim, fun b b' l l' own own' x x' _ _ _ hm _ _ => (no _ _ _ hm).elim, fun c Φ hc => ⟨ht c Φ hc, fun b l x _ hm _ => (no _ _ _ hm).elim⟩⟩
theorem InvS.run {Q' : Exit → Act → World → Prop} (hl : LineS P ops A V N0) {k : Nat} {ι0 : Emb} {w0 : World} {a0 : Act} (hS : OkS ops a0.tmps.size) (hf : FRel ι0 (A 0) a0) (_hR0 : R ι0 (A 0).m w0) (hk : k ≤ (A 0).m.length) {listed : Array Bool} {ι : Emb} {a : Act} {w : World} (h : InvS ops A k ι0 w0 a0 listed ι a w)
    {i : Nat} (hi : i ∈ Region.ready .any ops listed) {K : Act → World → Prop} (hK : ∀ ι' a' w', InvS ops A k ι0 w0 a0 (listed.setIfInBounds i true) ι' a' w' → K a' w') : wpOp P ops Q' i K a w := by
  have hok := hS.ok
  have hr := mem_ready.1 hi
  have hun : listed.getD i false = false := getD_both hr.1
  obtain ⟨_, o, ho, hall⟩ := hr
  have hin : i < ops.size := (Array.getElem?_eq_some_iff.1 ho).1
  have hdeps : ∀ j, bef ops i j = true → listed.getD j false = true := fun j hb => bef_spec h.head.closed hb ho hall
  have hag := h.agree hl hok hf hin ho hdeps hun
  have hopnd : ∀ x ∈ o.op.operands, (opnd (A i).t x).rel ι (a.eval x) := by
    intro x hx
    cases x with
    | tmp t => exact hag t (List.mem_append_left _ (List.mem_filterMap.2 ⟨.tmp t, by simpa using hx, rfl⟩))
    | const v => exact AV.rel_of0 (absV_rel _ v)
    | global g => trivial
    | func f => rfl
  obtain ⟨c, hc, hcl, hst⟩ := h.cut
  have his : i < listed.size := by rw [h.head.size]; exact hin
  unfold wpOp
  simp only [ho]
  rw [show Region.wanted o (yielded ops a.tmps) = true by unfold Region.wanted; rw [hS.guard i o ho], if_pos rfl]
  refine .inl ?_
  cases hs : isStore o with
  | false =>
    obtain ⟨hv, hstep⟩ := hl.pure i o ho hs
    have hv : (∃ Mk : Mem, R ι Mk w ∧ evVal P (opnd (A i).t) Mk o.op = some (V i)) ∨ (early ops i = true ∧ Sound P (.op o.op (opnd (A i).t) (A 0).m) (.val (V i) (A 0).m)) := by
      rcases hv with hv | hv | ⟨Mk, h1, h2⟩
      · exact .inl ⟨_, dead_R (fun b hb => hst.r.dom b (by rw [hl.len c hc]; exact hb)) (fun c Φ hc => (hst.r.stay c Φ (hc.to _)).1), hv⟩
      · exact .inr hv
      · exact .inl ⟨Mk, h1 c hc _ _ hst.r, h2⟩
    rcases hv with ⟨Mk, hRk, hv⟩ | ⟨he, hsound⟩
    rotate_left
    · have hno : ∀ l o', l < c → ops[l]? = some o' → isStore o' = false := fun l o' h2 ho' => by
        cases hs' : isStore o' with
        | false => rfl
        | true =>
          have hll := (hcl l o' ho' hs').2 h2
          have hln : l < ops.size := (Array.getElem?_eq_some_iff.1 ho').1
          simp only [early, List.all_eq_true, List.mem_range] at he
          have hb := he l hln
          simp only [ho', hs', Bool.not_true, Bool.false_or] at hb
          have := bef_spec h.head.closed hb ho' (h.head.closed l o' ho' hll)
          rw [hun] at this; cases this
      have hm : (A c).m = (A 0).m := hl.mem' (Nat.zero_le c) hc fun l o' _ h2 ho' => hno l o' h2 ho'
      have hst' := hst
      rw [hm] at hst'
      refine (hsound o ι w a.eval rfl hst'.r hopnd).wp rfl fun u w' ι1 hv hst2 => ?_
      have hst3 : Step k ι0 (A 0).m w0 ι1 (A c).m w' := by rw [hm]; exact hst'.comp (hst2.low hk)
      refine hK ι1 _ _ (h.next hok (hst2.le hst'.r) hi ho ⟨c, hc, fun i' o' ho' hs' => ?_, hst3⟩ fun d hd => ?_)
      · have hne : i ≠ i' := fun e => by subst e; rw [ho] at ho'; cases ho'; rw [hs] at hs'; cases hs'
        rw [getD_set_ne false hne]
        exact hcl i' o' ho' hs'
      · rw [hstep]
        show (putT (A i).t o.dst (V i) d).rel _ _
        rw [hd]
        show (upd (A i).t d (V i) d).rel _ _
        rw [upd_eq]
        exact hv
    unfold Oper.wp
    obtain ⟨u, hu, hrel⟩ := evVal_sound hv hRk hopnd
    rw [hu]
    refine hK ι _ _ (h.next hok (.refl _) hi ho ⟨c, hc, fun i' o' ho' hs' => ?_, hst⟩ fun d hd => ?_)
    · have hne : i ≠ i' := fun e => by subst e; rw [ho] at ho'; cases ho'; rw [hs] at hs'; cases hs'
      rw [getD_set_ne false hne]
      exact hcl i' o' ho' hs'
    · rw [hstep]
      show (putT (A i).t o.dst (V i) d).rel _ _
      rw [hd]
      show (upd (A i).t d (V i) d).rel _ _
      rw [upd_eq]
      exact hrel
  | true =>
    unfold Oper.wp
    obtain ⟨v, m', hv, hlen, hstep⟩ := hl.store i o ho hs
    have hci : c ≤ i := by
      have := (hcl i o ho hs).2
      rcases Nat.lt_or_ge i c with h' | h'
      · rw [this h'] at hun; cases hun
      · exact h'
    have hm : (A i).m = (A c).m := by
      refine hl.mem' hci (Nat.le_of_lt hin) fun l o' h1 h2 ho' => ?_
      cases hs' : isStore o' with
      | false => rfl
      | true =>
        have := (hcl l o' ho' hs').1 (hdeps l (hS.chain l i o' o h2 ho' ho hs' hs))
        omega
    rw [← hm] at hst
    obtain ⟨u, w', ι', hrun, hrel, hst2⟩ := evMem_sound hv hst.r hopnd
    have hst3 : Step k ι0 (A 0).m w0 ι' (A (i + 1)).m w' := by
      rw [hstep]
      exact hst.comp (hst2.low (by rw [hl.len i (Nat.le_of_lt hin)]; exact hk))
    have fin : ∀ u : Value, K (a.put o.dst u) w' := fun u => by
      refine hK ι' _ _ (h.next hok (hst2.le hst.r) hi ho ⟨i + 1, hin, fun i' o' ho' hs' => ?_, hst3⟩ fun d hd => ?_)
      · by_cases hne : i = i'
        · subst hne; simp [his]
        · rw [getD_set_ne false hne]
          constructor
          · intro hli
            rcases Nat.lt_or_ge i' (i + 1) with h' | h'
            · exact h'
            · have := bef_spec h.head.closed (hS.chain i i' o o' (by omega) ho ho' hs hs') ho' (h.head.closed i' o' ho' hli)
              rw [hun] at this; cases this
          · intro hlt
            exact hdeps i' (hS.chain i' i o' o (by omega) ho' ho hs' hs)
      · rw [hS.dst i o ho hs] at hd; cases hd
    rcases hrun with hrun | ⟨hrun, rfl⟩
    · rw [hrun]; exact fin u
    · rw [hrun]; exact fin undef
theorem InvS.any {Q' : Exit → Act → World → Prop} (hl : LineS P ops A V N0) {k : Nat} {ι0 : Emb} {w0 : World} {a0 : Act} (hS : OkS ops a0.tmps.size) (hf : FRel ι0 (A 0) a0) (hR0 : R ι0 (A 0).m w0) (hk : k ≤ (A 0).m.length)
    (hQ : ∀ ι' a' w', FRel ι' (A ops.size) a' → a'.defers = a0.defers → Step k ι0 (A 0).m w0 ι' (A ops.size).m w' → Q' .normal a' w') :
    ∀ (f : Nat) (un : List Nat) (listed : Array Bool) (ι : Emb) (a : Act) (w : World), un.length = f → un.Nodup → (∀ j, j ∈ un ↔ j < ops.size ∧ listed.getD j false = false) → InvS ops A k ι0 w0 a0 listed ι a w → wpAny P .any ops Q' f listed a w := by
  have hok := hS.ok
  intro f
  induction f with
  | zero =>
    intro un listed ι a w hlu _ hun h
    obtain rfl : un = [] := List.length_eq_zero_iff.1 hlu
    have hdone : ∀ j, j < ops.size → listed.getD j false = true := fun j hj => by
      cases hb : listed.getD j false with
      | true => rfl
      | false => have := (hun j).2 ⟨hj, hb⟩; simp at this
    have hnil : Region.ready .any ops listed = [] := by
      cases hr : Region.ready .any ops listed with
      | nil => rfl
      | cons x xs =>
        have hx : x ∈ Region.ready .any ops listed := by rw [hr]; exact List.mem_cons_self
        obtain ⟨h1, o, ho, _⟩ := mem_ready.1 hx
        have := hdone x (Array.getElem?_eq_some_iff.1 ho).1
        rw [getD_both h1] at this; cases this
    refine ⟨hnil, ?_⟩
    obtain ⟨c, hc, hcl, hst⟩ := h.cut
    have hm : (A ops.size).m = (A c).m := by
      refine hl.mem' hc (Nat.le_refl _) fun l o' h1 h2 ho' => ?_
      cases hs' : isStore o' with
      | false => rfl
      | true => have := (hcl l o' ho' hs').1 (hdone l h2); omega
    rw [← hm] at hst
    have hnn : (A ops.size).n = N0 := by
      cases hz : ops.size with
      | zero => exact hl.h0
      | succ z =>
        have hlt : z < ops.size := by omega
        have ho : ops[z]? = some (ops[z]'hlt) := Array.getElem?_eq_getElem hlt
        cases hs : isStore (ops[z]'hlt) with
        | true => obtain ⟨v, m', _, _, e⟩ := hl.store z _ ho hs; rw [e]
        | false => obtain ⟨_, e⟩ := hl.pure z _ ho hs; rw [e]
    refine hQ ι a w ⟨by rw [h.size, hf.size, hl.h0, hnn], fun t => ?_⟩ h.defers hst
    by_cases hex : ∃ j, j < ops.size ∧ dstAt ops j = some t
    · obtain ⟨j, hj, hd⟩ := hex
      rw [hl.slot' (i := j + 1) (by omega) (Nat.le_refl _) (fun l h1 h2 hd' => by have := hok.uniq l j t (by omega) hj hd' hd; omega)]
      exact h.hit j hj (hdone j hj) t hd
    · have hno : ∀ j, j < ops.size → dstAt ops j ≠ some t := fun j hj hd => hex ⟨j, hj, hd⟩
      rw [h.miss t (fun j hj _ => hno j hj), hl.slot' (i := 0) (Nat.zero_le _) (Nat.le_refl _) (fun l _ h2 => hno l (by omega))]
      exact AV.rel_mono h.le (hf.rel t)
  | succ f ih =>
    intro un listed ι a w hlu hnd hun h
    refine ⟨fun hnil => ?_, fun i hi => ?_⟩
    · obtain ⟨i0, hi0⟩ : ∃ i0, i0 ∈ un := by cases un with | nil => simp at hlu | cons x _ => exact ⟨x, List.mem_cons_self⟩
      have least : ∀ m i, i ≤ m → i ∈ un → ∃ j, j ∈ Region.ready .any ops listed := by
        intro m
        induction m with
        | zero =>
          intro i him hiu
          obtain ⟨hin, hb⟩ := (hun i).1 hiu
          refine ⟨i, mem_ready.2 ⟨getD_in (by rw [h.head.size]; exact hin) hb, ops[i]'hin, Array.getElem?_eq_getElem hin, fun e he hbind => ?_⟩⟩
          have := hS.back i _ e (Array.getElem?_eq_getElem hin) he hbind
          omega
        | succ m ihm =>
          intro i him hiu
          obtain ⟨hin, hb⟩ := (hun i).1 hiu
          by_cases hall : ∀ e ∈ (ops[i]'hin).after, Region.binds .any e = true → listed.getD e.on false = true
          · exact ⟨i, mem_ready.2 ⟨getD_in (by rw [h.head.size]; exact hin) hb, _, Array.getElem?_eq_getElem hin, hall⟩⟩
          · have : ∃ e ∈ (ops[i]'hin).after, Region.binds .any e = true ∧ listed.getD e.on false = false := by
              apply Classical.byContradiction
              intro hc
              apply hall
              intro e he hbind
              cases hlb : listed.getD e.on false with
              | true => rfl
              | false => exact absurd ⟨e, he, hbind, hlb⟩ hc
            obtain ⟨e, he, hbind, hlb⟩ := this
            have hlt := hS.back i _ e (Array.getElem?_eq_getElem hin) he hbind
            exact ihm e.on (by omega) ((hun e.on).2 ⟨by omega, hlb⟩)
      obtain ⟨j, hj⟩ := least i0 i0 (Nat.le_refl _) hi0
      rw [hnil] at hj; cases hj
    · obtain ⟨hun0, o, ho, _⟩ := mem_ready.1 hi
      have hin : i < ops.size := (Array.getElem?_eq_some_iff.1 ho).1
      refine h.run hl hS hf hR0 hk hi fun ι' a' w' h' => ?_
      have himem : i ∈ un := (hun i).2 ⟨hin, getD_both hun0⟩
      refine ih (un.erase i) _ ι' a' w' (by rw [List.length_erase_of_mem himem, hlu]; rfl) (hnd.erase i) (fun j => ?_) h'
      rw [hnd.mem_erase_iff, hun j]
      by_cases hji : j = i
      · subst hji
        have his : j < listed.size := by rw [h.head.size]; exact hin
        simp [his]
      · rw [getD_set_ne false (fun e => hji e.symm)]
        simp [hji]
theorem stores_sound {Q : Exit → Act → World → Prop} {id k : Nat} (hm : P.follows .mixedOrders = true) (hl : LineS P ops A V (A 0).n) (hall : Region.okStores ops (A 0).n = true) {ι : Emb} {w : World} {a : Act} (hf : FRel ι (A 0) a) (hR : R ι (A 0).m w) (hk : k ≤ (A 0).m.length)
    (hQ : ∀ ι' a' w', FRel ι' (A ops.size) a' → a'.defers = a.defers → Step k ι (A 0).m w ι' (A ops.size).m w' → Q .normal a' w') : (Code.region id ops true).wp P Q a w := by
  refine wp_region_any hm ?_
  have hRd : R ι (A 0).m w.drew := ⟨hR.dom, hR.rows, hR.inj, hR.stay⟩
  have hinv : InvS ops A k ι w.drew a (Array.replicate ops.size false) ι a w.drew :=
    ⟨⟨0, Nat.zero_le _, fun i o _ _ => by rw [getD_replicate_false]; simp, Step.refl hRd hk⟩, .refl _, fun j _ hl => (by rw [getD_replicate_false] at hl; cases hl), fun _ _ => rfl, rfl, rfl,
      ⟨by simp, fun j oj _ hl => (by rw [getD_replicate_false] at hl; cases hl), fun t ht ht' => by omega⟩⟩
  exact InvS.any (Q' := Q) hl (Region.okStores_spec (by rw [hf.size]; exact hall)) hf hRd hk
    (fun ι' a' w' h1 h2 h3 => hQ ι' a' w' h1 h2 ⟨h3.r, ⟨h3.trans.os, h3.trans.tape, h3.trans.output, h3.trans.size, h3.trans.keep, h3.trans.fresh⟩, h3.tx, h3.txn, h3.ext, h3.len, h3.ro, h3.old, h3.news⟩) ops.size (List.range ops.size) _ _ _ _ (by simp) List.nodup_range (fun j => by rw [getD_replicate_false]; simp) hinv
end
end Go.Proofs.YtmbepikkgkcgkaaGreatDoor
namespace Go.Proofs.YtmbepikkgkcgkaaGreatDoor
open Go.RowKit
theorem noRen_same (ι ι' : Emb) (ht : ∀ c o v, ι.tx c o v → ι'.tx c o v) : Same noRen ι ι' := ⟨fun _ _ h => by (cases h), ht⟩
theorem WeakC.rel {ρ : Nat → Option Nat} {ι ι' : Emb} (ht : ∀ c o v, ι.tx c o v → ι'.tx c o v) (hs : ∀ j i, ρ j = some i → ι' j = ι i) {x y : Cell} (h : WeakC ρ x y) {v : Value} (hr : x.rel ι v) : y.rel ι' v := by
  cases h with
  | same h => rw [← h]; exact Cell.ren_rel (noRen_same ι ι' ht) hr
  | ptr h => obtain ⟨l, hl, rfl⟩ := hr; exact ⟨l, by rw [hs _ _ h]; exact hl, rfl⟩
  | sl h =>
    obtain ⟨p, cap', rfl, h1, h2, h3⟩ := hr
    refine ⟨p, cap', rfl, h1, h2, h3.imp id ?_⟩
    rintro ⟨l, hl, r⟩
    exact ⟨l, by rw [hs _ _ h]; exact hl, r⟩
  | nil => simp only [Cell.rel] at hr; subst hr; exact ⟨none, 0, rfl, Nat.le_refl _, Nat.le_refl _, .inl rfl⟩
  | emp => obtain ⟨p, rfl⟩ := hr; exact ⟨p, 0, rfl, Nat.le_refl _, Nat.le_refl _, .inl rfl⟩
theorem WeakL.rel {ρ : Nat → Option Nat} {ι ι' : Emb} (ht : ∀ c o v, ι.tx c o v → ι'.tx c o v) (hs : ∀ j i, ρ j = some i → ι' j = ι i) {l m : List AV} (h : WeakL ρ l m) : ∀ {vs : List Value}, ArgsRel ι l vs → ArgsRel ι' m vs := by
  induction h with
  | nil => intro vs hr; cases vs with
    | nil => trivial
    | cons v vs => exact hr.elim
  | c h _ ih => intro vs hr; cases vs with
    | nil => exact hr.elim
    | cons v vs => exact ⟨h.rel ht hs hr.1, ih hr.2⟩
  | @agg x l m h _ ih => intro vs hr; cases vs with
    | nil => exact hr.elim
    | cons v vs =>
      refine ⟨?_, ih hr.2⟩
      have := AV.ren_rel (noRen_same ι ι' ht) hr.1
      rwa [show AV.ren noRen (.agg x) = .agg x from congrArg AV.agg h] at this
section
variable {ρ : Nat → Option Nat} {m m' N : Mem} {ι : Emb} {w : World}
def viewEmb (ρ : Nat → Option Nat) (ι : Emb) : Emb := ⟨fun j => (ρ j).bind ι, ι.tx⟩
theorem view_R (hρ : ∀ j i, ρ j = some i → j < m'.length ∧ ∃ own x, m[i]? = some (.row own x) ∧ m'[j]? = some (.row false x) ∧ x.ren noRen = x) (hR : R ι m w) : R (viewEmb ρ ι) m' w := by
  have at_ : ∀ b l, viewEmb ρ ι b = some l → ∃ i, ρ b = some i ∧ ι i = some l := fun b l h => Option.bind_eq_some_iff.1 h
  refine ⟨fun b hb => ?_, fun b l own x h1 h2 => ?_, fun b b' l l' own own' x x' _ h1 h1' h2 h2' ho => ?_, fun c Φ hc => ⟨(hR.stay c Φ (hc.to ι)).1, fun b l x h1 h2 _ => ?_⟩⟩
  · cases hv : viewEmb ρ ι b with
    | none => rfl
    | some l => obtain ⟨i, hi, _⟩ := at_ b l hv; have := (hρ b i hi).1; omega
  · obtain ⟨i, hi, hl⟩ := at_ b l h1
    obtain ⟨_, o, y, g1, g2, g3⟩ := hρ b i hi
    rw [g2] at h2; cases h2
    have := (hR.rows i l o _ hl g1).ro.ren (noRen_same ι (viewEmb ρ ι) fun _ _ _ h => h)
    rwa [g3] at this
  · obtain ⟨i, hi, _⟩ := at_ b l h1
    obtain ⟨i', hi', _⟩ := at_ b' l' h1'
    obtain ⟨_, _, _, _, g2, _⟩ := hρ b i hi
    obtain ⟨_, _, _, _, g2', _⟩ := hρ b' i' hi'
    rw [g2] at h2; cases h2
    rw [g2'] at h2'; cases h2'
    rcases ho with h | h <;> cases h
  · obtain ⟨i, hi, _⟩ := at_ b l h1
    obtain ⟨_, _, _, _, g2, _⟩ := hρ b i hi
    rw [g2] at h2; cases h2
theorem view_step (hρ : ∀ j i, ρ j = some i → j < m'.length ∧ ∃ own x, m[i]? = some (.row own x) ∧ m'[j]? = some (.row false x) ∧ x.ren noRen = x) (hR : R ι m w) {ι1 : Emb} {w' : World} (h : Step m'.length (viewEmb ρ ι) m' w ι1 (m' ++ N) w') :
    ∃ ι2 : Emb, Same (viewRen ρ m'.length m.length) ι1 ι2 ∧ Step m.length ι m w ι2 (m ++ N.map (Row.ren (viewRen ρ m'.length m.length))) w' := by
  have unown : ∀ c, Owned (viewEmb ρ ι) m' c → False := by
    rintro c ⟨b, l, x, h1, h2, _⟩
    obtain ⟨i, hi, _⟩ := Option.bind_eq_some_iff.1 h1
    obtain ⟨_, _, _, _, g2, _⟩ := hρ b i hi
    rw [g2] at h2; cases h2
  let ι2 : Emb := ⟨fun b => if b < m.length then ι b else ι1 (b - m.length + m'.length), ι1.tx⟩
  have lo : ∀ {b}, b < m.length → ι2 b = ι b := fun hb => if_pos hb
  have hi : ∀ {b}, m.length ≤ b → ι2 b = ι1 (b - m.length + m'.length) := fun hb => if_neg (by omega)
  have hle : ι.le ι2 := by
    refine ⟨fun b l hb => ?_, h.tx⟩
    have : b < m.length := by
      rcases Nat.lt_or_ge b m.length with h' | h'
      · exact h'
      · rw [hR.dom b h'] at hb; cases hb
    rw [lo this]; exact hb
  have same : Same (viewRen ρ m'.length m.length) ι1 ι2 := by
    refine ⟨fun j i hj => ?_, fun _ _ _ h => h⟩
    unfold viewRen at hj
    split at hj
    · rename_i hlt
      obtain ⟨_, o, x, g1, _, _⟩ := hρ j i hj
      rw [lo (List.getElem?_eq_some_iff.1 g1).1, h.ext j hlt]
      unfold viewEmb
      dsimp only
      rw [hj]; rfl
    · rename_i hge
      cases hj
      rw [hi (by omega)]
      congr 1
      omega
  have old : ∀ {b own x}, b < m.length → (m ++ N.map (Row.ren (viewRen ρ m'.length m.length)))[b]? = some (.row own x) → m[b]? = some (.row own x) := fun {b own x} hb hm => by rw [List.getElem?_append_left hb] at hm; exact hm
  have new : ∀ {b own x}, m.length ≤ b → (m ++ N.map (Row.ren (viewRen ρ m'.length m.length)))[b]? = some (.row own x) → ∃ y, (m' ++ N)[b - m.length + m'.length]? = some (.row own y) ∧ x = y.ren (viewRen ρ m'.length m.length) := fun {b own x} hb hm => by
    rw [List.getElem?_append_right hb, List.getElem?_map] at hm
    obtain ⟨r, hr, e⟩ := Option.map_eq_some_iff.1 hm
    obtain ⟨y, rfl, hy⟩ := row_ren e
    refine ⟨y, ?_, hy⟩
    rw [List.getElem?_append_right (by omega), show b - m.length + m'.length - m'.length = b - m.length by omega]
    exact hr
  have far : ∀ {b l own x}, m.length ≤ b → ι2 b = some l → (m ++ N.map (Row.ren (viewRen ρ m'.length m.length)))[b]? = some (.row own x) → w.heap.size ≤ l.c := fun {b l own x} hb hl hm => by
    obtain ⟨y, hy, _⟩ := new hb hm
    rw [hi hb] at hl
    rcases h.news _ l own y (by omega) hl hy with h3 | h3 | ⟨b0, l0, o0, x0, h4, h5, h6, _⟩
    · exact h3
    · exact (unown _ h3).elim
    · exact (no_row h4 h6).elim
  refine ⟨ι2, same, ⟨⟨fun b hb => ?_, fun b l own x hb hm => ?_, fun b b' l l' own own' x x' hne hb hb' hm hm' hoo => ?_, fun c Φ hc => ⟨(h.r.stay c Φ (hc.to ι1)).1, fun b l x hb hm e => ?_⟩⟩, ⟨h.trans.os, h.trans.tape, h.trans.output, h.trans.size, fun c hc _ => h.trans.keep c hc (unown c), fun c hc => ?_⟩, h.tx, fun c o v hc => (h.txn c o v hc).imp id (.imp id fun h => (unown _ h).elim), fun b hb => lo hb, by simp, fun b x hb hm => by rw [List.getElem?_append_left hb]; exact hm, fun b own x hb hm => ⟨x, old hb hm⟩, fun b l own x hb h1 h2 => .inl (far hb h1 h2)⟩⟩
  · rw [List.length_append, List.length_map] at hb
    rw [hi (by omega)]
    exact h.r.dom _ (by rw [List.length_append]; omega)
  · rcases Nat.lt_or_ge b m.length with hs | hs
    · rw [lo hs] at hb
      exact (hR.rows b l own x hb (old hs hm)).heap (h.trans.keep l.c (hR.lt hb (old hs hm)) (unown _)) hle
    · obtain ⟨y, hy, rfl⟩ := new hs hm
      rw [hi hs] at hb
      exact (h.r.rows _ l own y hb hy).ren same
  · rcases Nat.lt_or_ge b m.length with hs | hs <;> rcases Nat.lt_or_ge b' m.length with hs' | hs'
    · rw [lo hs] at hb
      rw [lo hs'] at hb'
      exact hR.inj b b' l l' own own' x x' hne hb hb' (old hs hm) (old hs' hm') hoo
    · rw [lo hs] at hb
      have h1 := hR.lt hb (old hs hm)
      have h2 := far hs' hb' hm'
      omega
    · rw [lo hs'] at hb'
      have h1 := hR.lt hb' (old hs' hm')
      have h2 := far hs hb hm
      omega
    · obtain ⟨y, hy, _⟩ := new hs hm
      obtain ⟨y', hy', _⟩ := new hs' hm'
      rw [hi hs] at hb
      rw [hi hs'] at hb'
      exact h.r.inj _ _ l l' own own' y y' (by omega) hb hb' hy hy' hoo
  · rcases Nat.lt_or_ge b m.length with hs | hs
    · rw [lo hs] at hb
      rcases h.stayn (hc.to ι1) with h3 | h3 | h3
      · exact (hR.stay c Φ (h3.to ι)).2 b l x hb (old hs hm) e
      · have := hR.lt hb (old hs hm); omega
      · exact unown _ h3
    · obtain ⟨y, hy, _⟩ := new hs hm
      rw [hi hs] at hb
      exact (h.r.stay c Φ (hc.to ι1)).2 _ l y hb hy e
  · obtain ⟨b, l, x, hb, hm, rfl⟩ := hc
    rcases Nat.lt_or_ge b m.length with hs | hs
    · rw [lo hs] at hb
      exact .inr ⟨b, l, x, hb, old hs hm, rfl⟩
    · exact .inl (far hs hb hm)
end
end Go.Proofs.YtmbepikkgkcgkaaGreatDoor
namespace Go.Proofs.YtmbepikkgkcgkaaGreatDoor
open Go.RowKit
theorem ev64_spec {f : BitVec 64 → BitVec 64 → BitVec 64 → AV} {l : List AV} {v : AV} (h : ev64 f l = some v) : ∃ x y z : BitVec 64, l = [.c (.val (U64 x)), .c (.val (U64 y)), .c (.val (U64 z))] ∧ z.toNat ≤ 1 ∧ v = f x y z := by
  unfold ev64 at h
  split at h
  · rename_i a b c
    split at h
    · rename_i x y z hx hy hz
      split at h
      · rename_i hc
        cases h
        rw [w64?_some hx, w64?_some hy, w64?_some hz]
        exact ⟨x, y, z, rfl, hc, rfl⟩
      · cases h
    · cases h
  · cases h
theorem run_addE (P : Program) (x y c : BitVec 64) (hc : c.toNat ≤ 1) (w : World) : (add64Entry #[U64 x, U64 y, U64 c]).run P w = .ok (.tuple #[U64 (x + y + c), U64 (addC x y c)]) w := by
  have hx := x.isLt; have hy := y.isLt
  have h := run_add64 (P := P) (x.toNat : Int) (y.toNat : Int) (c.toNat : Int) (by omega) (by omega) (by omega) (by omega) w
  have e1 : ((x.toNat : Int) + (y.toNat : Int) + (c.toNat : Int)) % 18446744073709551616 = tn (x + y + c) := by
    unfold tn; simp only [BitVec.toNat_add]; omega
  have e2 : ((x.toNat : Int) + (y.toNat : Int) + (c.toNat : Int)) / 18446744073709551616 = tn (addC x y c) := by
    unfold tn addC; rw [BitVec.toNat_ofNat]; omega
  rw [e1, e2] at h
  exact h
theorem run_subE (P : Program) (x y c : BitVec 64) (hc : c.toNat ≤ 1) (w : World) : (sub64Entry #[U64 x, U64 y, U64 c]).run P w = .ok (.tuple #[U64 (x - y - c), U64 (subC x y c)]) w := by
  have hx := x.isLt; have hy := y.isLt
  have key : ∀ k : Nat, k ≤ 1 → (sub64Entry #[.int .u64 (x.toNat : Int), .int .u64 (y.toNat : Int), .int .u64 (k : Int)]).run P w =
      .ok (Extern.MathBitsCarry.pair ((x.toNat + Extern.MathBitsCarry.m64 - y.toNat - k) % Extern.MathBitsCarry.m64) (if x.toNat < y.toNat + k then 1 else 0)) w := by
    intro k hk
    have : k = 0 ∨ k = 1 := by omega
    rcases this with rfl | rfl <;> rfl
  have h := key c.toNat hc
  have e1 : (x.toNat + Extern.MathBitsCarry.m64 - y.toNat - c.toNat) % Extern.MathBitsCarry.m64 = (x - y - c).toNat := by
    simp only [Extern.MathBitsCarry.m64, BitVec.toNat_sub]
    omega
  have e2 : (if x.toNat < y.toNat + c.toNat then 1 else 0) = (subC x y c).toNat := by
    unfold subC; split <;> rfl
  rw [e1, e2] at h
  exact h
theorem ext_good {P : Program} {c : Call} {e : Operand → AV} {ρ : Operand → Value} {O : Oper} {f : FuncId} {E : Array Value → Sem Value} (hO : O.op = .call c) (hc : c.callee = .value (.func f)) (he : e (.func f) = .c (.val (.func (.func f) #[] #[]))) (hf : ExtIs P f E) {ι : Emb} {m : Mem} {w : World} (hR : R ι m w)
    (hρ : ∀ x ∈ (Op.call c).operands, (e x).rel ι (ρ x)) {v : AV} {u : Value} (hu : (E (c.args.map ρ)).run P w = .ok u w) (hv : v.rel ι u) : OpGood P ρ O ι m w v m := by
  obtain ⟨fn, h1, h2, h3, h4, h5⟩ := hf.h
  have hfv : ρ (.func f) = .func (.func f) #[] #[] := by
    have := hρ (.func f) (by simp [Op.operands, Call.operands, hc])
    rw [he] at this
    exact this
  refine .inl ⟨u, w, ι, .inl ?_, hv, Step.refl hR (Nat.le_refl _)⟩
  have hcall := run_callFunc_extern (P := P) h1 h2 h3 h4 h5 (c.args.map ρ) w
  simp [execOp, hO, resolve, hc, hfv, Deferred.ofValue, invoke, hcall, hu]
theorem args3 {ι : Emb} {e : Operand → AV} {ρ : Operand → Value} {c : Call} (hρ : ∀ x ∈ (Op.call c).operands, (e x).rel ι (ρ x)) {x y z : Value} (h : c.args.toList.map e = [.c (.val x), .c (.val y), .c (.val z)]) : c.args.map ρ = #[x, y, z] := by
  have hm : ∀ o ∈ c.args.toList, (e o).rel ι (ρ o) := fun o ho => hρ o (by simp [Op.operands, Call.operands]; exact .inr (by simpa using ho))
  apply Array.ext'
  rw [Array.toList_map]
  generalize c.args.toList = l at *
  obtain ⟨a, b, d, rfl⟩ : ∃ a b d, l = [a, b, d] := by
    have hl : l.length = 3 := by have := congrArg List.length h; simpa using this
    cases l with
    | nil => simp at hl
    | cons a l => cases l with
      | nil => simp at hl
      | cons b l => cases l with
        | nil => simp at hl
        | cons d l => cases l with
          | nil => exact ⟨a, b, d, rfl⟩
          | cons _ _ => simp at hl
  · simp only [List.map_cons, List.map_nil, List.cons.injEq, and_true] at h
    obtain ⟨h1, h2, h3⟩ := h
    have k1 := hm a (by simp); rw [h1] at k1
    have k2 := hm b (by simp); rw [h2] at k2
    have k3 := hm d (by simp); rw [h3] at k3
    have k1' : ρ a = x := k1
    have k2' : ρ b = y := k2
    have k3' : ρ d = z := k3
    simp [k1', k2', k3']
theorem argsRel_ren {ρr : Nat → Option Nat} {ι ι' : Emb} (hs : Same ρr ι ι') {e : Operand → AV} {ρ : Operand → Value} : ∀ (l : List Operand), (∀ x ∈ l, (e x).rel ι (ρ x)) → ArgsRel ι' ((l.map e).map (AV.ren ρr)) (l.map ρ)
  | [], _ => trivial
  | x :: l, h => ⟨AV.ren_rel hs (h x List.mem_cons_self), argsRel_ren hs l fun y hy => h y (List.mem_cons_of_mem _ hy)⟩
theorem canon_spec {k : Nat} {roots : List AV} {M m : Mem} {vs : List AV} {ids : List Nat} (h : canon k roots M = some (vs, m, ids)) : canOk k M ids = true ∧ vs = roots.map (AV.ren (canRen k ids)) ∧ m = canMem k M ids := by
  unfold canon at h
  simp only at h
  split at h
  · rename_i hc; cases h; exact ⟨hc, rfl, rfl⟩
  · cases h
theorem argsRel_len {ι : Emb} : ∀ {l : List AV} {m : List Value}, ArgsRel ι l m → l.length = m.length
  | [], [], _ => rfl
  | a :: l, v :: m, h => by simp [argsRel_len h.2]
  | [], _ :: _, h => h.elim
  | _ :: _, [], h => h.elim
theorem argsRel_get {ι : Emb} : ∀ {l : List AV} {m : List Value}, ArgsRel ι l m → ∀ i : Nat, (l.getD i (.c .any)).rel ι (m.getD i undef)
  | [], [], _, i => by simp; trivial
  | a :: l, v :: m, h, i => by
    cases i with
    | zero => simpa using h.1
    | succ i => simpa using argsRel_get h.2 i
  | [], _ :: _, h, _ => h.elim
  | _ :: _, [], h, _ => h.elim
theorem keepT_rel {ι : Emb} {a : Act} {ρr : Nat → Option Nat} : ∀ (keep : List Nat) (t : Nat → AV), (∀ i ∈ keep, ((t i).ren ρr).rel ι (a.tmps.getD i undef)) → ∀ i, (keepT keep ((keep.map t).map (AV.ren ρr)) i).rel ι (a.tmps.getD i undef)
  | [], _, _, i => trivial
  | x :: l, t, h, i => by
    show (upd (keepT l ((l.map t).map (AV.ren ρr))) x ((t x).ren ρr) i).rel ι _
    by_cases e : i = x
    · subst e; rw [upd_eq]; exact h i List.mem_cons_self
    · rw [upd_ne _ _ e]; exact keepT_rel l t (fun j hj => h j (List.mem_cons_of_mem _ hj)) i
theorem clean_sound {k : Nat} {keep : List Nat} {s s1 : St} (h : clean k keep s = some s1) {ι : Emb} {w : World} {a : Act} (hR : R ι s.m w) (hf : FRel ι s a) : ∃ ι', FRel ι' s1 a ∧ Step k ι s.m w ι' s1.m w ∧ k ≤ s1.m.length := by
  unfold clean at h
  split at h
  · rename_i vs m ids hc
    cases h
    obtain ⟨hok, rfl, rfl⟩ := canon_spec hc
    have hst := canon_step hok hR
    refine ⟨canEmb k ids ι, ⟨hf.size, fun t => ?_⟩, hst, hst.len⟩
    exact keepT_rel keep s.t (fun i _ => AV.ren_rel (can_same k ids ι) (hf.rel i)) t
  · cases h
theorem resOne_sound {P : Program} {s : St} {r : ResultVar} {v : AV} (h : resOne P s r = some v) {ι : Emb} {w : World} {a : Act} (hR : R ι s.m w) (hf : FRel ι s a) :
    ∃ u, (match r with | .tmp t => pure (a.tmps.getD t undef) | .cell p t => do loadVar t (← asAddr (a.tmps.getD p undef)) : Sem Value).run P w = .ok u w ∧ v.rel0 ι u := by
  cases r with
  | tmp t =>
    refine ⟨a.tmps.getD t undef, rfl, ?_⟩
    have := hf.rel t
    unfold resOne at h
    split at h
    · rename_i heq; cases heq
      split at h
      · cases h
      · rename_i hne
        cases h
        cases hst : s.t t with
        | c x => rw [hst] at this; exact this
        | agg x => rw [hst] at this; exact this
        | tup l => exact absurd hst (hne l)
    · rename_i heq; cases heq
  | cell p ty =>
    unfold resOne at h
    split at h
    · rename_i heq; cases heq
    · rename_i heq
      cases heq
      split at h
      · rename_i b o hp
        split at h
        · rename_i own x hm
          have := hf.rel p
          rw [hp] at this
          obtain ⟨l, hb, hv⟩ := this
          obtain ⟨cs, t', fr, k1, k2, k3, k4⟩ := hR.cells hb hm (partA_noMap h)
          obtain ⟨u, hu, hr⟩ := run_loadPart h k1 k3
          refine ⟨u, ?_, hr⟩
          show (do loadVar ty (← asAddr (a.tmps.getD p undef)) : Sem Value).run P w = _
          rw [hv]
          simp only [asAddr, Sem.run_bind, Sem.run_pure, Result.andThen_ok, hu]
        · cases h
      · cases h
theorem resList_sound {P : Program} {s : St} {ι : Emb} {w : World} {a : Act} (hR : R ι s.m w) (hf : FRel ι s a) : ∀ {rs : List ResultVar} {vs : List AV}, resList P s rs = some vs →
    ∃ us : List Value, (rs.mapM (fun r => (match r with | .tmp t => pure (a.tmps.getD t undef) | .cell p t => do loadVar t (← asAddr (a.tmps.getD p undef)) : Sem Value))).run P w = .ok us w ∧ us.length = vs.length ∧ ∀ (i : Nat) (x : AV) (u : Value), vs[i]? = some x → us[i]? = some u → x.rel0 ι u
  | [], vs, h => by
    simp only [resList, Option.some.injEq] at h
    subst h
    exact ⟨[], by simp, rfl, fun i x u h => by simp at h⟩
  | r :: l, vs, h => by
    unfold resList at h
    split at h
    · rename_i v vs' hv hvs
      cases h
      obtain ⟨u, hu, hr⟩ := resOne_sound hv hR hf
      obtain ⟨us, hus, hl, hrs⟩ := resList_sound hR hf hvs
      refine ⟨u :: us, ?_, by simp [hl], fun i x y hx hy => ?_⟩
      · rw [List.mapM_cons]
        simp only [Sem.run_bind, hu, Result.andThen_ok, hus, Sem.run_pure]
      · cases i with
        | zero => simp at hx hy; subst hx; subst hy; exact hr
        | succ i => exact hrs i x y (by simpa using hx) (by simpa using hy)
    · cases h
theorem results_sound {P : Program} {fn : Func} {s : St} {vs : List AV} (h : resList P s fn.results.toList = some vs) {ι : Emb} {w : World} {a : Act} (hR : R ι s.m w) (hf : FRel ι s a) : ∃ u, (results fn a.tmps).run P w = .ok u w ∧ (resV vs).rel ι u := by
  obtain ⟨us, hus, hl, hr⟩ := resList_sound hR hf h
  have hmap : (fn.results.mapM (fun r => (match r with | .tmp t => pure (a.tmps.getD t undef) | .cell p t => do loadVar t (← asAddr (a.tmps.getD p undef)) : Sem Value))).run P w = .ok us.toArray w := by
    have e : fn.results = fn.results.toList.toArray := by simp
    rw [e, List.mapM_toArray, Sem.run_map, hus]
    rfl
  refine ⟨if h : us.toArray.size = 1 then us.toArray[0] else .tuple us.toArray, ?_, ?_⟩
  · unfold results
    rw [Sem.run_bind]
    erw [hmap]
    rfl
  · match vs, us, hl, hr with
    | [v], [u], _, hr => exact AV.rel_of0 (hr 0 v u rfl rfl)
    | [], [], _, _ => exact ⟨#[], rfl, rfl, fun i x u h => by simp at h⟩
    | v :: v' :: vs, u :: u' :: us, hl, hr =>
      rw [dif_neg (by simp)]
      exact ⟨(u :: u' :: us).toArray, rfl, by simpa using hl, fun i x y hx hy => hr i x y hx (by simpa using hy)⟩
theorem frel0 {ι : Emb} {args : List AV} {vs : Array Value} {n : Nat} (h : ArgsRel ι args vs.toList) (hn : args.length ≤ n) (m : Mem) : FRel ι ⟨n, argT args, m⟩ { tmps := vs ++ Array.replicate (n - vs.size) undef, defers := [] } := by
  have hl := argsRel_len h
  refine ⟨by simp; rw [← Array.length_toList, ← hl]; omega, fun t => ?_⟩
  have hg := argsRel_get h t
  show (args.getD t (.c .any)).rel ι _
  have e : (vs ++ Array.replicate (n - vs.size) undef).getD t undef = vs.toList.getD t undef := by
    rw [Array.getD_eq_getD_getElem?, List.getD_eq_getElem?_getD, Array.getElem?_toList]
    by_cases ht : t < vs.size
    · rw [Array.getElem?_append_left ht]
    · rw [Array.getElem?_append_right (by omega), Array.getElem?_eq_none (show vs.size ≤ t by omega)]
      by_cases h2 : t - vs.size < n - vs.size
      · simp [h2]
      · rw [Array.getElem?_eq_none (by simp; omega)]
  rw [e]; exact hg
theorem sound {P : Program} {t : Task} {r : Res} (h : Ev P t r) : Sound P t r := by
  induction h with
  | val h =>
    intro O ι w ρ hO hR hρ
    subst hO
    obtain ⟨u, hu, hv⟩ := evVal_sound h hR hρ
    exact .inl ⟨u, w, ι, .inl hu, hv, Step.refl hR (Nat.le_refl _)⟩
  | mem h =>
    intro O ι w ρ hO hR hρ
    subst hO
    exact .inl (evMem_sound h hR hρ)
  | @fn c e m args mc bs v mc' f hc he hf hin h ih =>
    intro O ι w ρ hO hR hρ
    obtain ⟨hok, rfl, rfl⟩ := canon_spec hin
    have hst := canon_step hok hR
    have hlen : (canMem 0 m bs).length = bs.length := by simp [canMem]
    have hfv : ρ (.func f) = .func (.func f) #[] #[] := by
      have := hρ (.func f) (by simp [Op.operands, Call.operands, hc])
      rw [he] at this
      exact this
    have hargs := argsRel_ren (can_same 0 bs ι) (e := e) (ρ := ρ) c.args.toList fun x hx => hρ x (by simp [Op.operands, Call.operands]; exact .inr (by simpa using hx))
    have hcall := ih (canEmb 0 bs ι) w (c.args.map ρ) hst.r (by rw [Array.toList_map]; exact hargs)
    refine .inr ⟨f, c.args.map ρ, ?_, hcall.mono fun e' w' hq => ?_⟩
    · cases hfn : P.funcs[f]? with
      | none => rw [hfn] at hf; cases hf
      | some fn =>
        rw [hfn] at hf
        simp only [Option.any_some, Bool.and_eq_true, Bool.not_eq_true'] at hf
        have h1 : fn.body.isNone = false := by have := hf.1; cases hb : fn.body <;> simp_all
        have h2 : (fn.name == "runtime.NumGoroutine") = false := hf.2
        have h1' : ¬ fn.body = none := by intro e0; rw [e0] at h1; cases h1
        have h2' : ¬ fn.name = "runtime.NumGoroutine" := by simpa using h2
        simp [execOp, hO, resolve, hc, hfv, Deferred.ofValue, invoke, callFunc, hfn, h1', h2']
    · obtain ⟨u, ι', rfl, hv, hs⟩ := hq
      rw [hlen] at hs
      obtain ⟨h1, h2⟩ := link_sound hok hR hs hv
      exact ⟨u, _, rfl, h1, h2⟩
  | @add64 c e m v f hc he hf h =>
    intro O ι w ρ hO hR hρ
    obtain ⟨x, y, z, hl, hz, rfl⟩ := ev64_spec h
    have ha := args3 hρ hl
    refine ext_good hO hc he hf hR hρ (u := .tuple #[U64 (x + y + z), U64 (addC x y z)]) (by rw [ha]; exact run_addE P x y z hz w) ⟨#[U64 (x + y + z), U64 (addC x y z)], rfl, rfl, fun i a u hi hu => ?_⟩
    match i, hi, hu with
    | 0, hi, hu => cases hi; cases hu; rfl
    | 1, hi, hu => cases hi; cases hu; rfl
    | i + 2, hi, hu => simp at hi
  | @sub64 c e m v f hc he hf h =>
    intro O ι w ρ hO hR hρ
    obtain ⟨x, y, z, hl, hz, rfl⟩ := ev64_spec h
    have ha := args3 hρ hl
    refine ext_good hO hc he hf hR hρ (u := .tuple #[U64 (x - y - z), U64 (subC x y z)]) (by rw [ha]; exact run_subE P x y z hz w) ⟨#[U64 (x - y - z), U64 (subC x y z)], rfl, rfl, fun i a u hi hu => ?_⟩
    match i, hi, hu with
    | 0, hi, hu => cases hi; cases hu; rfl
    | 1, hi, hu => cases hi; cases hu; rfl
    | i + 2, hi, hu => simp at hi
  | nil => exact fun _ ι w a hk hR hf Q hQ => hQ ι a w hf rfl (Step.refl hR hk)
  | @cons k ops o l s v m' r hw hd h hk ih1 ih2 =>
    intro _ ι w a hk' hR hf Q hQ
    have hwant := wanted_rel (fun d _ => hf.rel d) hw
    unfold wpList
    rw [if_pos hwant]
    refine .inl ((ih1 o ι w a.eval rfl hR fun x _ => opnd_rel hf x).wp rfl fun u w' ι' hv hst => ?_)
    have hf' : FRel ι' ⟨s.n, putT s.t o.dst v, m'⟩ (a.put o.dst u) := (hf.mono (hst.le hR) s.m).put hd hv m'
    refine ih2 rfl ι' w' _ (Nat.le_trans hk' hst.len) hst.r hf' Q fun ι2 a2 w2 g1 g2 g3 => hQ ι2 a2 w2 g1 (by rw [g2]; cases o.dst <;> rfl) ((hst.low hk').comp g3)
  | @skip k ops o l s r hw hd hk ih =>
    intro _ ι w a hk' hR hf Q hQ
    have hwant := wanted_rel (fun d _ => hf.rel d) hw
    unfold wpList
    rw [if_neg (by rw [hwant]; simp)]
    exact ih rfl ι w _ hk' hR (hf.put (v := noV) (u := undef) hd rfl s.m) Q fun ι2 a2 w2 g1 g2 g3 => hQ ι2 a2 w2 g1 (by rw [g2]; cases o.dst <;> rfl) g3
  | region h ih =>
    intro ι w a hk' hR hf Q hQ
    exact wp_region_list (ih rfl ι w a hk' hR hf Q hQ)
  | @draw k id ops s r n A W V N hm hok hA hW hV hS hk ihV ihk =>
    intro ι w a hk' hR hf Q hQ
    subst hA
    have hn : n ≤ ops.size := by
      simp only [Region.okAll, Bool.and_eq_true, decide_eq_true_eq] at hok
      exact hok.1.1.1.1
    exact draw_sound hm ⟨hn, rfl, hS⟩ hW ihV hok hf hR hk' fun ι' a' w' h1 h2 h3 => ihk rfl ι' w' a' h3.len h3.r h1 Q fun ι2 a2 w2 g1 g2 g3 => hQ ι2 a2 w2 g1 (g2.trans h2) (h3.comp g3)
  | @late k id ops s r n i0 A W V N hm hc hok hA hW hV hS hk ihV ihk =>
    intro ι w a hk' hR hf Q hQ
    subst hA
    have hn : n ≤ (lateOps ops n i0).size := by
      simp only [Region.okAll, Bool.and_eq_true, decide_eq_true_eq] at hok
      exact hok.1.1.1.1
    exact late_sound hm hc ⟨hn, rfl, hS⟩ hW ihV hok hf hR hk' fun ι' a' w' h1 h2 h3 => ihk rfl ι' w' a' h3.len h3.r h1 (nrm Q) fun ι2 a2 w2 g1 g2 g3 => ⟨rfl, hQ ι2 a2 w2 g1 (g2.trans h2) (h3.comp g3)⟩
  | @clean k c s s1 r keep hc h ih =>
    cases r with
    | val v m => trivial
    | out e s' =>
      intro ι w a hk' hR hf Q hQ
      obtain ⟨ι', h1, h2, h3⟩ := clean_sound hc hR hf
      exact ih ι' w a h3 h2.r h1 Q fun ι2 a2 w2 g1 g2 g3 => hQ ι2 a2 w2 g1 g2 (h2.comp g3)
  | @weak k c s s1 r hw h ih =>
    cases r with
    | val v m => trivial
    | out e s' =>
      intro ι w a hk' hR hf Q hQ
      obtain ⟨ι', h1, h2⟩ := hw ι w a hk' hR hf
      exact ih ι' w a h2.len h2.r h1 Q fun ι2 a2 w2 g1 g2 g3 => hQ ι2 a2 w2 g1 g2 (h2.comp g3)
  | sem h => exact h
  | snd h => exact h
  | semF h => exact h
  | @tidy k c s e s1 s2 keep h hc ih =>
    intro ι w a hk' hR hf Q hQ
    refine ih ι w a hk' hR hf Q fun ι2 a2 w2 g1 g2 g3 => ?_
    obtain ⟨ι', h1, h2, h3⟩ := clean_sound hc g3.r g1
    exact hQ ι' a2 w2 h1 g2 (g3.comp h2)
  | @ro o e m v N h ih =>
    intro O ι w ρ hO hR hρ
    rcases ih O ι w ρ hO (ro_R hR) hρ with ⟨u, w', ι', hr, hv, hs⟩ | ⟨f, args, hr, hc⟩
    · rw [roMem_length] at hs
      exact .inl ⟨u, w', ι', hr, hv, ro_step hR hs⟩
    · refine .inr ⟨f, args, hr, hc.mono fun e w' he => ?_⟩
      obtain ⟨u, ι', h1, h2, h3⟩ := he
      rw [roMem_length] at h3
      exact ⟨u, ι', h1, h2, ro_step hR h3⟩
  | @stores k id ops s A V hm hok hA hP hS =>
    subst hA
    intro ι w a hk' hR hf Q hQ
    exact stores_sound hm ⟨rfl, fun i o ho hs => ⟨.inl (hP i o ho hs).1, (hP i o ho hs).2⟩, hS⟩ hok hf hR hk' fun ι' a' w' h1 h2 h3 => hQ ι' a' w' h1 h2 h3
  | @stores2 k id ops s A V E hm hok hA hP hE hE2 hS ihE =>
    subst hA
    intro ι w a hk' hR hf Q hQ
    refine stores_sound hm ⟨rfl, fun i o ho hs => ⟨?_, (hE2 i o ho hs).2⟩, hS⟩ hok hf hR hk' fun ι' a' w' h1 h2 h3 => hQ ι' a' w' h1 h2 h3
    cases he : E i with
    | false => exact .inr (.inr (hP i o ho hs he))
    | true => exact .inr (.inl ⟨(hE2 i o ho hs).1 he, ihE i o ho hs he⟩)
  | cskip => exact fun ι w a hk' hR hf Q hQ => wp_skip (hQ ι a w hf rfl (Step.refl hR hk'))
  | label => exact fun ι w a hk' hR hf Q hQ => wp_label (hQ ι a w hf rfl (Step.refl hR hk'))
  | @seq k a b s s1 r h1 h2 ih1 ih2 =>
    cases r with
    | val v m => trivial
    | out e s' =>
      intro ι w a' hk' hR hf Q hQ
      exact wp_seq (wpC_wp (ih1 ι w a' hk' hR hf _ fun ι2 a2 w2 g1 g2 g3 => wpC_wp (ih2 ι2 w2 a2 g3.len g3.r g1 Q fun ι3 a3 w3 k1 k2 k3 => hQ ι3 a3 w3 k1 (k2.trans g2) (g3.comp k3))))
  | @seqx k a b s s1 e h1 he ih =>
    intro ι w a' hk' hR hf Q hQ
    refine wp_seq (wpC_wp (ih ι w a' hk' hR hf _ fun ι2 a2 w2 g1 g2 g3 => ?_))
    have := hQ ι2 a2 w2 g1 g2 g3
    cases e with
    | normal => exact absurd rfl he
    | _ => exact this
  | @cond k c a b s r t hc h ih =>
    cases r with
    | val v m => trivial
    | out e s' =>
      intro ι w a' hk' hR hf Q hQ
      have hv := opnd_rel hf c
      rw [hc] at hv
      exact wp_cond hv (wpC_wp (ih ι w a' hk' hR hf Q hQ))
  | @block k id c s s1 e h ih =>
    intro ι w a' hk' hR hf Q hQ
    refine wp_block (wpC_wp (ih ι w a' hk' hR hf _ fun ι2 a2 w2 g1 g2 g3 => ?_))
    have := hQ ι2 a2 w2 g1 g2 g3
    cases e with
    | normal => exact this
    | ret => exact this
    | exit i =>
      simp only [Ex.block, Ex.out, Exit.inBlock] at this ⊢
      split
      · rename_i e; rw [if_pos e] at this; exact this
      · rename_i e; rw [if_neg e] at this; exact this
  | @loop k c s s1 r h1 h2 ih1 ih2 =>
    cases r with
    | val v m => trivial
    | out e s' =>
      intro ι w a' hk' hR hf Q hQ
      exact loopAt_next (wpC_wp (ih1 ι w a' hk' hR hf _ fun ι2 a2 w2 g1 g2 g3 => ih2 ι2 w2 a2 g3.len g3.r g1 Q fun ι3 a3 w3 k1 k2 k3 => hQ ι3 a3 w3 k1 (k2.trans g2) (g3.comp k3)))
  | @loopx k c s s1 e h1 he ih =>
    intro ι w a' hk' hR hf Q hQ
    refine loopAt_next (wpC_wp (ih ι w a' hk' hR hf _ fun ι2 a2 w2 g1 g2 g3 => ?_))
    have := hQ ι2 a2 w2 g1 g2 g3
    cases e with
    | normal => exact absurd rfl he
    | _ => exact this
  | exit => exact fun ι w a hk' hR hf Q hQ => wp_exit (hQ ι a w hf rfl (Step.refl hR hk'))
  | ret => exact fun ι w a hk' hR hf Q hQ => wp_ret (hQ ι a w hf rfl (Step.refl hR hk'))
  | @scope k c s s1 e h ih =>
    intro ι w a' hk' hR hf Q hQ
    refine wp_scope_straight (wpC_wp (ih ι w a' hk' hR hf _ fun ι2 a2 w2 g1 g2 g3 => ?_))
    have := hQ ι2 a2 w2 g1 g2 g3
    cases e <;> exact this
  | @view f args m args' m' v N ρ hρ ha h ih =>
    intro ι w cargs hR hargs
    refine (ih (viewEmb ρ ι) w cargs (view_R hρ hR) (WeakL.rel (ι := ι) (ι' := viewEmb ρ ι) (fun _ _ _ h => h) (fun j i hj => by unfold viewEmb; dsimp only; rw [hj]; rfl) ha hargs)).mono fun e' w' hq => ?_
    obtain ⟨u, ι1, rfl, hv, hs⟩ := hq
    obtain ⟨ι2, hsame, hst⟩ := view_step hρ hR hs
    exact ⟨u, ι2, rfl, AV.ren_rel hsame hv, hst⟩
  | @call f fn c args m e s' vs v m' ids hf hb hn h he hres hcan ih =>
    intro ι w cargs hR hargs
    obtain ⟨hok, hv, rfl⟩ := canon_spec hcan
    simp only [List.map_cons, List.map_nil, List.cons.injEq, and_true] at hv
    subst hv
    refine calls_of_wp hf hb (wpC_wp (ih ι w _ (Nat.le_refl _) hR (frel0 hargs hn m) _ fun ι2 a2 w2 g1 g2 g3 => ?_))
    obtain ⟨u, hu, hr⟩ := results_sound hres g3.r g1
    have hcs := canon_step hok g3.r
    have fin : a2.defers = [] ∧ ∃ v, (results fn a2.tmps).run P w2 = .ok v w2 ∧ ∃ u ι', Ending.returned v = .returned u ∧ ((resV vs).ren (canRen m.length ids)).rel ι' u ∧ Step m.length ι m w ι' (canMem m.length s'.m ids) w2 :=
      ⟨g2, u, hu, u, canEmb m.length ids ι2, rfl, AV.ren_rel (can_same _ _ _) hr, g3.comp hcs⟩
    rcases he with rfl | rfl
    · exact fin
    · exact fin
end Go.Proofs.YtmbepikkgkcgkaaGreatDoor
namespace Go.Proofs.YtmbepikkgkcgkaaGreatDoor
open Go.RowKit
def PartOf (ρ : Nat → Option (Nat × Nat)) (m m' : Mem) : Prop := ∀ j i o, ρ j = some (i, o) → j < m'.length ∧ ∃ own x y, m[i]? = some (.row own x) ∧ m'[j]? = some (.row false y) ∧ o + y.size ≤ x.size ∧ (∀ k, k < y.size → y.get k = x.get (o + k)) ∧ y.ren noRen = y ∧ x.isMap = false ∧ y.isMap = false
inductive PartC (ρ : Nat → Option (Nat × Nat)) : Cell → Cell → Prop
  | same {x : Cell} (h : x.ren noRen = x) : PartC ρ x x
  | ptr {b b' o k e : Nat} (h : ρ b' = some (b, o)) (he : e = o + k) : PartC ρ (.ptr b e) (.ptr b' k)
  | sl {b b' o k e len cap sz : Nat} (h : ρ b' = some (b, o)) (he : e = o + k) : PartC ρ (.sl b e len cap sz) (.sl b' k len cap sz)
  | nil {b' sz : Nat} : PartC ρ .nsl (.sl b' 0 0 0 sz)
  | emp {b' sz : Nat} : PartC ρ .esl (.sl b' 0 0 0 sz)
inductive PartL (ρ : Nat → Option (Nat × Nat)) : List AV → List AV → Prop
  | nil : PartL ρ [] []
  | c {x y : Cell} {l m : List AV} (h : PartC ρ x y) (hl : PartL ρ l m) : PartL ρ (.c x :: l) (.c y :: m)
  | agg {x : Arr} {l m : List AV} (h : x.ren noRen = x) (hl : PartL ρ l m) : PartL ρ (.agg x :: l) (.agg x :: m)
def partRen (n m j : Nat) : Option Nat := if j < n then none else some (j - n + m)
def partEmb (ρ : Nat → Option (Nat × Nat)) (ι : Emb) : Emb := ⟨fun j => (ρ j).bind fun q => (ι q.1).map fun l => ⟨l.c, l.off + q.2, l.n - q.2⟩, ι.tx⟩
section
variable {ρ : Nat → Option (Nat × Nat)} {m m' N : Mem} {ι : Emb} {w : World}
theorem partEmb_of {j i o : Nat} (h : ρ j = some (i, o)) : partEmb ρ ι j = (ι i).map fun l => ⟨l.c, l.off + o, l.n - o⟩ := by
  unfold partEmb; dsimp only; rw [h]; rfl
theorem partEmb_some {j : Nat} {l : Loc} (h : partEmb ρ ι j = some l) : ∃ i o l0, ρ j = some (i, o) ∧ ι i = some l0 ∧ l = ⟨l0.c, l0.off + o, l0.n - o⟩ := by
  unfold partEmb at h
  obtain ⟨⟨i, o⟩, h1, h2⟩ := Option.bind_eq_some_iff.1 h
  obtain ⟨l0, h3, rfl⟩ := Option.map_eq_some_iff.1 h2
  exact ⟨i, o, l0, h1, h3, rfl⟩
theorem PartC.rel {x y : Cell} (h : PartC ρ x y) {v : Value} (hr : x.rel ι v) : y.rel (partEmb ρ ι) v := by
  cases h with
  | same h => rw [← h]; exact Cell.ren_rel (noRen_same ι (partEmb ρ ι) fun _ _ _ h => h) hr
  | ptr h he =>
    obtain ⟨l, hl, rfl⟩ := hr
    subst he
    exact ⟨_, by rw [partEmb_of h, hl]; rfl, by simp [Nat.add_assoc]⟩
  | sl h he =>
    subst he
    obtain ⟨p, cap', rfl, h1, h2, h3⟩ := hr
    refine ⟨p, cap', rfl, h1, h2, h3.imp id ?_⟩
    rintro ⟨l, hl, rfl, hn⟩
    exact ⟨_, by rw [partEmb_of h, hl]; rfl, by simp [Nat.add_assoc], by show _ ≤ l.n - _; omega⟩
  | nil => simp only [Cell.rel] at hr; subst hr; exact ⟨none, 0, rfl, Nat.le_refl _, Nat.le_refl _, .inl rfl⟩
  | emp => obtain ⟨p, rfl⟩ := hr; exact ⟨p, 0, rfl, Nat.le_refl _, Nat.le_refl _, .inl rfl⟩
theorem PartL.rel {l m : List AV} (h : PartL ρ l m) : ∀ {vs : List Value}, ArgsRel ι l vs → ArgsRel (partEmb ρ ι) m vs := by
  induction h with
  | nil => intro vs hr; cases vs with
    | nil => trivial
    | cons v vs => exact hr.elim
  | c h _ ih => intro vs hr; cases vs with
    | nil => exact hr.elim
    | cons v vs => exact ⟨h.rel hr.1, ih hr.2⟩
  | @agg x l m h _ ih => intro vs hr; cases vs with
    | nil => exact hr.elim
    | cons v vs =>
      refine ⟨?_, ih hr.2⟩
      have := AV.ren_rel (noRen_same ι (partEmb ρ ι) fun _ _ _ h => h) hr.1
      rwa [show AV.ren noRen (.agg x) = .agg x from congrArg AV.agg h] at this
theorem part_R (hρ : PartOf ρ m m') (hR : R ι m w) : R (partEmb ρ ι) m' w := by
  refine ⟨fun b hb => ?_, fun b l own x h1 h2 => ?_, fun b b' l l' own own' x x' _ h1 h1' h2 h2' ho => ?_, fun c Φ hc => ⟨(hR.stay c Φ (hc.to ι)).1, fun b l x h1 h2 _ => ?_⟩⟩
  · cases hv : partEmb ρ ι b with
    | none => rfl
    | some l => obtain ⟨i, o, l0, hi, _⟩ := partEmb_some hv; have := (hρ b i o hi).1; omega
  · obtain ⟨i, o, l0, hi, hl, rfl⟩ := partEmb_some h1
    obtain ⟨_, ow, xx, y, g1, g2, g3, g4, g5, g6, g7⟩ := hρ b i o hi
    rw [g2] at h2; cases h2
    obtain ⟨cs, t, fr, k1, k2, k3, _⟩ := hR.cells hl g1 g6
    refine .of g7 ⟨cs, t, fr, k1, by show _ ≤ l0.n - o; omega, fun k hk => ?_, fun h => by cases h⟩
    obtain ⟨v, e1, e2⟩ := k3 (o + k) (by omega)
    refine ⟨v, by rw [show l0.off + o + k = l0.off + (o + k) from Nat.add_assoc _ _ _]; exact e1, ?_⟩
    rw [← g4 k hk] at e2
    have := Cell.ren_rel (noRen_same ι (partEmb ρ ι) fun _ _ _ h => h) e2
    rwa [← Arr.ren_get, g5] at this
  · obtain ⟨i, o, l0, hi, _⟩ := partEmb_some h1
    obtain ⟨i', o', l0', hi', _⟩ := partEmb_some h1'
    obtain ⟨_, _, _, _, _, g2, _⟩ := hρ b i o hi
    obtain ⟨_, _, _, _, _, g2', _⟩ := hρ b' i' o' hi'
    rw [g2] at h2; cases h2
    rw [g2'] at h2'; cases h2'
    rcases ho with h | h <;> cases h
  · obtain ⟨i, o, l0, hi, _⟩ := partEmb_some h1
    obtain ⟨_, _, _, _, _, g2, _⟩ := hρ b i o hi
    rw [g2] at h2; cases h2
theorem part_unown (hρ : PartOf ρ m m') : ∀ c, Owned (partEmb ρ ι) m' c → False := by
  rintro c ⟨b, l, x, h1, h2, _⟩
  obtain ⟨i, o, l0, hi, _⟩ := partEmb_some h1
  obtain ⟨_, _, _, _, _, g2, _⟩ := hρ b i o hi
  rw [g2] at h2; cases h2
theorem part_stepG {ιp : Emb} (unown : ∀ c, Owned ιp m' c → False) (htx : ιp.tx = ι.tx) (hR : R ι m w) {ι1 : Emb} {w' : World} (h : Step m'.length ιp m' w ι1 (m' ++ N) w') :
    ∃ ι2 : Emb, Same (partRen m'.length m.length) ι1 ι2 ∧ Step m.length ι m w ι2 (m ++ N.map (Row.ren (partRen m'.length m.length))) w' := by
  have htx1 : ∀ c o v, ι.tx c o v → ι1.tx c o v := fun c o v hc => h.tx c o v (by rw [htx]; exact hc)
  have htxn : ∀ c o v, ι1.tx c o v → ι.tx c o v ∨ w.heap.size ≤ c ∨ Owned ιp m' c := fun c o v hc => by have := h.txn c o v hc; rwa [htx] at this
  let ι2 : Emb := ⟨fun b => if b < m.length then ι b else ι1 (b - m.length + m'.length), ι1.tx⟩
  have lo : ∀ {b}, b < m.length → ι2 b = ι b := fun hb => if_pos hb
  have hi : ∀ {b}, m.length ≤ b → ι2 b = ι1 (b - m.length + m'.length) := fun hb => if_neg (by omega)
  have hle : ι.le ι2 := by
    refine ⟨fun b l hb => ?_, htx1⟩
    have : b < m.length := by
      rcases Nat.lt_or_ge b m.length with h' | h'
      · exact h'
      · rw [hR.dom b h'] at hb; cases hb
    rw [lo this]; exact hb
  have same : Same (partRen m'.length m.length) ι1 ι2 := by
    refine ⟨fun j i hj => ?_, fun _ _ _ h => h⟩
    unfold partRen at hj
    split at hj
    · cases hj
    · rename_i hge
      cases hj
      rw [hi (by omega)]
      congr 1
      omega
  have old : ∀ {b own x}, b < m.length → (m ++ N.map (Row.ren (partRen m'.length m.length)))[b]? = some (.row own x) → m[b]? = some (.row own x) := fun {b own x} hb hm => by rw [List.getElem?_append_left hb] at hm; exact hm
  have new : ∀ {b own x}, m.length ≤ b → (m ++ N.map (Row.ren (partRen m'.length m.length)))[b]? = some (.row own x) → ∃ y, (m' ++ N)[b - m.length + m'.length]? = some (.row own y) ∧ x = y.ren (partRen m'.length m.length) := fun {b own x} hb hm => by
    rw [List.getElem?_append_right hb, List.getElem?_map] at hm
    obtain ⟨r, hr, e⟩ := Option.map_eq_some_iff.1 hm
    obtain ⟨y, rfl, hy⟩ := row_ren e
    refine ⟨y, ?_, hy⟩
    rw [List.getElem?_append_right (by omega), show b - m.length + m'.length - m'.length = b - m.length by omega]
    exact hr
  have far : ∀ {b l own x}, m.length ≤ b → ι2 b = some l → (m ++ N.map (Row.ren (partRen m'.length m.length)))[b]? = some (.row own x) → w.heap.size ≤ l.c := fun {b l own x} hb hl hm => by
    obtain ⟨y, hy, _⟩ := new hb hm
    rw [hi hb] at hl
    rcases h.news _ l own y (by omega) hl hy with h3 | h3 | ⟨b0, l0, o0, x0, h4, h5, h6, _⟩
    · exact h3
    · exact (unown _ h3).elim
    · exact (no_row h4 h6).elim
  refine ⟨ι2, same, ⟨⟨fun b hb => ?_, fun b l own x hb hm => ?_, fun b b' l l' own own' x x' hne hb hb' hm hm' hoo => ?_, fun c Φ hc => ⟨(h.r.stay c Φ (hc.to ι1)).1, fun b l x hb hm e => ?_⟩⟩, ⟨h.trans.os, h.trans.tape, h.trans.output, h.trans.size, fun c hc _ => h.trans.keep c hc (unown c), fun c hc => ?_⟩, htx1, fun c o v hc => (htxn c o v hc).imp id (.imp id fun h => (unown _ h).elim), fun b hb => lo hb, by simp, fun b x hb hm => by rw [List.getElem?_append_left hb]; exact hm, fun b own x hb hm => ⟨x, old hb hm⟩, fun b l own x hb h1 h2 => .inl (far hb h1 h2)⟩⟩
  · rw [List.length_append, List.length_map] at hb
    rw [hi (by omega)]
    exact h.r.dom _ (by rw [List.length_append]; omega)
  · rcases Nat.lt_or_ge b m.length with hs | hs
    · rw [lo hs] at hb
      exact (hR.rows b l own x hb (old hs hm)).heap (h.trans.keep l.c (hR.lt hb (old hs hm)) (unown _)) hle
    · obtain ⟨y, hy, rfl⟩ := new hs hm
      rw [hi hs] at hb
      exact (h.r.rows _ l own y hb hy).ren same
  · rcases Nat.lt_or_ge b m.length with hs | hs <;> rcases Nat.lt_or_ge b' m.length with hs' | hs'
    · rw [lo hs] at hb
      rw [lo hs'] at hb'
      exact hR.inj b b' l l' own own' x x' hne hb hb' (old hs hm) (old hs' hm') hoo
    · rw [lo hs] at hb
      have h1 := hR.lt hb (old hs hm)
      have h2 := far hs' hb' hm'
      omega
    · rw [lo hs'] at hb'
      have h1 := hR.lt hb' (old hs' hm')
      have h2 := far hs hb hm
      omega
    · obtain ⟨y, hy, _⟩ := new hs hm
      obtain ⟨y', hy', _⟩ := new hs' hm'
      rw [hi hs] at hb
      rw [hi hs'] at hb'
      exact h.r.inj _ _ l l' own own' y y' (by omega) hb hb' hy hy' hoo
  · rcases Nat.lt_or_ge b m.length with hs | hs
    · rw [lo hs] at hb
      rcases (h.stayn (hc.to ι1)).imp (fun k => k.cast htx) id with h3 | h3 | h3
      · exact (hR.stay c Φ (h3.to ι)).2 b l x hb (old hs hm) e
      · have := hR.lt hb (old hs hm); omega
      · exact unown _ h3
    · obtain ⟨y, hy, _⟩ := new hs hm
      rw [hi hs] at hb
      exact (h.r.stay c Φ (hc.to ι1)).2 _ l y hb hy e
  · obtain ⟨b, l, x, hb, hm, rfl⟩ := hc
    rcases Nat.lt_or_ge b m.length with hs | hs
    · rw [lo hs] at hb
      exact .inr ⟨b, l, x, hb, old hs hm, rfl⟩
    · exact .inl (far hs hb hm)
theorem part_step (hρ : PartOf ρ m m') (hR : R ι m w) {ι1 : Emb} {w' : World} (h : Step m'.length (partEmb ρ ι) m' w ι1 (m' ++ N) w') :
    ∃ ι2 : Emb, Same (partRen m'.length m.length) ι1 ι2 ∧ Step m.length ι m w ι2 (m ++ N.map (Row.ren (partRen m'.length m.length))) w' := part_stepG (ι := ι) (part_unown hρ) rfl hR h
theorem Ev.part {P : Program} {f : FuncId} {args args' : List AV} {v : AV} (ρ : Nat → Option (Nat × Nat)) (hρ : PartOf ρ m m') (ha : PartL ρ args args')
    (h : Ev P (.call f args' m') (.val v (m' ++ N))) : Ev P (.call f args m) (.val (v.ren (partRen m'.length m.length)) (m ++ N.map (Row.ren (partRen m'.length m.length)))) :=
  Ev.semF fun ι w vs hR hargs => by
    refine (sound h (partEmb ρ ι) w vs (part_R hρ hR) (ha.rel hargs)).mono fun e' w' hq => ?_
    obtain ⟨u, ι1, rfl, hv, hs⟩ := hq
    obtain ⟨ι2, hsame, hst⟩ := part_step hρ hR hs
    exact ⟨u, ι2, rfl, AV.ren_rel hsame hv, hst⟩
end
inductive PartRows (m : Mem) : List (Option (Nat × Nat)) → Mem → Prop
  | nil : PartRows m [] []
  | no {r : Row} {os : List (Option (Nat × Nat))} {m' : Mem} (hl : PartRows m os m') : PartRows m (none :: os) (r :: m')
  | a8 {i o n : Nat} {own : Bool} {b : List (BitVec 8)} {os : List (Option (Nat × Nat))} {m' : Mem} (hm : m[i]? = some (.row own (.a8 b))) (h : o + n ≤ b.length) (hl : PartRows m os m') : PartRows m (some (i, o) :: os) (.row false (.a8 (cut b o n)) :: m')
  | all {i : Nat} {own : Bool} {x : Arr} {os : List (Option (Nat × Nat))} {m' : Mem} (hm : m[i]? = some (.row own x)) (h : x.ren noRen = x) (hl : PartRows m os m') (hx : x.isMap = false := by rfl) : PartRows m (some (i, 0) :: os) (.row false x :: m')
def partOfs (os : List (Option (Nat × Nat))) (j : Nat) : Option (Nat × Nat) := (os[j]?).bind id
theorem PartRows.get {m : Mem} {os : List (Option (Nat × Nat))} {m' : Mem} (h : PartRows m os m') : ∀ {j i o : Nat}, os[j]? = some (some (i, o)) → j < m'.length ∧ ∃ own x y, m[i]? = some (.row own x) ∧ m'[j]? = some (.row false y) ∧ o + y.size ≤ x.size ∧ (∀ k, k < y.size → y.get k = x.get (o + k)) ∧ y.ren noRen = y ∧ x.isMap = false ∧ y.isMap = false := by
  induction h with
  | nil => intro j i o hj; simp at hj
  | no _ ih =>
    intro j i o hj
    cases j with
    | zero => simp at hj
    | succ j =>
      rw [List.getElem?_cons_succ] at hj
      obtain ⟨h1, ow, x, y, h2, h3, h4⟩ := ih hj
      exact ⟨by simpa using h1, ow, x, y, h2, by rw [List.getElem?_cons_succ]; exact h3, h4⟩
  | @a8 i o n own b os m' hm h _ ih =>
    intro j i' o' hj
    cases j with
    | zero =>
      simp only [List.getElem?_cons_zero, Option.some.injEq, Prod.mk.injEq] at hj
      obtain ⟨rfl, rfl⟩ := hj
      have hl : (cut b o n).length = n := by simp [cut]; omega
      refine ⟨by simp, own, .a8 b, .a8 (cut b o n), hm, rfl, by show o + (cut b o n).length ≤ b.length; omega, fun k hk => ?_, rfl, rfl, rfl⟩
      have hk' : k < n := by have : k < (cut b o n).length := hk; omega
      show Cell.val (U8 (nth (cut b o n) k)) = Cell.val (U8 (nth b (o + k)))
      rw [show nth (cut b o n) k = nth b (o + k) from cut_get b o n k _ hk']
    | succ j =>
      rw [List.getElem?_cons_succ] at hj
      obtain ⟨h1, ow, x, y, h2, h3, h4⟩ := ih hj
      exact ⟨by simpa using h1, ow, x, y, h2, by rw [List.getElem?_cons_succ]; exact h3, h4⟩
  | @all i own x os m' hm h _ hx ih =>
    intro j i' o' hj
    cases j with
    | zero =>
      simp only [List.getElem?_cons_zero, Option.some.injEq, Prod.mk.injEq] at hj
      obtain ⟨rfl, rfl⟩ := hj
      exact ⟨by simp, own, x, x, hm, rfl, by omega, fun k hk => by rw [Nat.zero_add], h, hx, hx⟩
    | succ j =>
      rw [List.getElem?_cons_succ] at hj
      obtain ⟨h1, ow, x, y, h2, h3, h4⟩ := ih hj
      exact ⟨by simpa using h1, ow, x, y, h2, by rw [List.getElem?_cons_succ]; exact h3, h4⟩
theorem PartRows.of {m : Mem} {os : List (Option (Nat × Nat))} {m' : Mem} (h : PartRows m os m') : PartOf (partOfs os) m m' := by
  intro j i o hj
  unfold partOfs at hj
  obtain ⟨o', h1, h2⟩ := Option.bind_eq_some_iff.1 hj
  simp only [id_eq] at h2
  subst h2
  exact h.get h1
theorem Ev.parts {P : Program} {f : FuncId} {m m' N N' : Mem} {args args' : List AV} {v v' : AV} (os : List (Option (Nat × Nat))) (hr : PartRows m os m') (ha : PartL (partOfs os) args args')
    (h : Ev P (.call f args' m') (.val v (m' ++ N))) (hv : v.ren (partRen m'.length m.length) = v') (hN : N.map (Row.ren (partRen m'.length m.length)) = N') : Ev P (.call f args m) (.val v' (m ++ N')) := by
  subst hv hN
  exact Ev.part (partOfs os) hr.of ha h
def roAll (m : Mem) : Bool := m.all fun | .row true _ => false | _ => true
theorem roAll_row {m : Mem} (h : roAll m = true) {b : Nat} {own : Bool} {x : Arr} (hm : m[b]? = some (.row own x)) : own = false := by
  have := List.all_eq_true.1 h _ (List.mem_of_getElem? hm)
  cases own with
  | false => rfl
  | true => cases this
inductive StayL (m' : Mem) : List Nat → List AV → List AV → Prop
  | nil : StayL m' [] [] []
  | same {fs : List Nat} {x : AV} {l l' : List AV} (h : StayL m' fs l l') : StayL m' fs (x :: l) (x :: l')
  | bs {fs : List Nat} {b : Nat} {y : List (BitVec 8)} {l l' : List AV} (hm : m'[b]? = some (.row false (.a8 y))) (hb : fs.contains b = false) (h : StayL m' fs l l') : StayL m' (b :: fs) (.c (.bs y) :: l) (.c (.sl b 0 y.length y.length 1) :: l')
  | is {fs : List Nat} {b : Nat} {y : List Int} {l l' : List AV} (hm : m'[b]? = some (.row false (.ai y))) (hb : fs.contains b = false) (h : StayL m' fs l l') : StayL m' (b :: fs) (.c (.is y) :: l) (.c (.sl b 0 y.length y.length 1) :: l')
theorem stay_upd {ι : Emb} {m' : Mem} {w : World} (hR : R ι m' w) (hro : roAll m' = true) {b : Nat} {y : Arr} (hm : m'[b]? = some (.row false y)) (hb : ι b = none) (hy : y.isMap = false) {g : Nat → Value} (hg : ∀ (ι : Emb) i, i < y.size → (y.get i).rel ι (g i)) {v : Value} (hv : StayRel ι g y.size v) :
    ∃ ι' : Emb, R ι' m' w ∧ ι'.tx = ι.tx ∧ ι.le ι' ∧ (∀ i, i ≠ b → ι' i = ι i) ∧ Cell.rel ι' (.sl b 0 y.size y.size 1) v := by
  obtain ⟨p, cap, rfl, h1, h2⟩ := hv
  rcases h2 with h2 | ⟨c, o, rfl, ⟨o', v', hbb⟩, hr⟩
  · exact ⟨ι, hR, rfl, .refl _, fun _ _ => rfl, ⟨p, cap, rfl, h1, h1, .inl h2⟩⟩
  · obtain ⟨⟨cs, t, fr, e1, e2⟩, _⟩ := hR.txt _ _ _ hbb
    have hle : ι.le (ι.upd b ⟨c, o, cap⟩) := ⟨fun i l hi => by
      by_cases e : i = b
      · subst e; rw [hb] at hi; cases hi
      · rw [Emb.upd_ne e]; exact hi, fun _ _ _ h => h⟩
    refine ⟨ι.upd b ⟨c, o, cap⟩, ⟨fun i hi => ?_, fun i l own x hi h3 => ?_, fun i i' l l' own own' x x' _ _ _ h3 h3' ho => ?_, fun c Φ hc => ⟨(hR.stay c Φ (hc.to ι)).1, fun i l x _ h3 => ?_⟩⟩, rfl, hle, fun i hi => Emb.upd_ne hi, ⟨_, cap, rfl, h1, h1, .inr ⟨_, Emb.upd_eq _ _ _, rfl, by simp⟩⟩⟩
    · have : i ≠ b := fun e => by
        have := (List.getElem?_eq_some_iff.1 hm).1
        omega
      rw [Emb.upd_ne this]; exact hR.dom i hi
    · by_cases e : i = b
      · subst e
        rw [Emb.upd_eq] at hi
        cases hi
        rw [hm] at h3; cases h3
        refine .of hy ⟨cs, t, fr, e1, h1, fun j hj => ?_, fun h => by cases h⟩
        obtain ⟨⟨cs', t', fr', f1, f2⟩, _⟩ := hR.txt _ _ _ (hr j hj)
        rw [e1] at f1; cases f1
        exact ⟨_, f2, hg _ j hj⟩
      · rw [Emb.upd_ne e] at hi
        exact (hR.rows i l own x hi h3).mono hle
    · rcases ho with ho | ho
      · have := roAll_row hro h3; subst ho; cases this
      · have := roAll_row hro h3'; subst ho; cases this
    · have := roAll_row hro h3; cases this
theorem StayL.rel {m' : Mem} {w : World} {ι : Emb} (hR : R ι m' w) (hro : roAll m' = true) {fs : List Nat} {l l' : List AV} (h : StayL m' fs l l') : (∀ b, fs.contains b = true → ι b = none) → ∀ {vs : List Value}, ArgsRel ι l vs →
    ∃ ι' : Emb, R ι' m' w ∧ ι'.tx = ι.tx ∧ ι.le ι' ∧ (∀ i, fs.contains i = false → ι' i = ι i) ∧ ArgsRel ι' l' vs := by
  have args : ∀ {l : List AV} {vs : List Value} {ι ι' : Emb}, ι.le ι' → ArgsRel ι l vs → ArgsRel ι' l vs := by
    intro l
    induction l with
    | nil => intro vs ι ι' _ h; cases vs <;> exact h
    | cons x l ih => intro vs ι ι' hl h; cases vs with
      | nil => exact h
      | cons v vs => exact ⟨AV.rel_mono hl h.1, ih hl h.2⟩
  induction h with
  | nil => intro _ vs hr; exact ⟨ι, hR, rfl, .refl _, fun _ _ => rfl, hr⟩
  | same _ ih =>
    intro hfs vs hr
    cases vs with
    | nil => exact hr.elim
    | cons v vs =>
      obtain ⟨ι', k1, k2, k3, k4, k5⟩ := ih hfs hr.2
      exact ⟨ι', k1, k2, k3, k4, AV.rel_mono k3 hr.1, k5⟩
  | @bs fs b y l l' hm hb _ ih =>
    intro hfs vs hr
    cases vs with
    | nil => exact hr.elim
    | cons v vs =>
      obtain ⟨ι', k1, k2, k3, k4, k5⟩ := ih (fun i hi => hfs i (by simp only [List.contains_cons, hi, Bool.or_true])) hr.2
      have h0 : ι' b = none := by rw [k4 b hb]; exact hfs b (by simp)
      have hv : StayRel ι' (fun i => U8 (nth y i)) (Arr.a8 y).size v := Cell.rel_mono (x := .bs y) k3 hr.1
      obtain ⟨ι2, j1, j2, j3, j4, j5⟩ := stay_upd k1 hro hm h0 rfl (fun _ _ _ => rfl) hv
      refine ⟨ι2, j1, j2.trans k2, ⟨fun b l h => j3.f b l (k3.f b l h), fun c o v h => j3.tx c o v (k3.tx c o v h)⟩, fun i hi => ?_, j5, args j3 k5⟩
      simp only [List.contains_cons, Bool.or_eq_false_iff] at hi
      rw [j4 i (by simpa using hi.1), k4 i hi.2]
  | @is fs b y l l' hm hb _ ih =>
    intro hfs vs hr
    cases vs with
    | nil => exact hr.elim
    | cons v vs =>
      obtain ⟨ι', k1, k2, k3, k4, k5⟩ := ih (fun i hi => hfs i (by simp only [List.contains_cons, hi, Bool.or_true])) hr.2
      have h0 : ι' b = none := by rw [k4 b hb]; exact hfs b (by simp)
      have hv : StayRel ι' (fun i => .int .i64 (y.getD i 0)) (Arr.ai y).size v := Cell.rel_mono (x := .is y) k3 hr.1
      obtain ⟨ι2, j1, j2, j3, j4, j5⟩ := stay_upd k1 hro hm h0 rfl (fun _ _ _ => rfl) hv
      refine ⟨ι2, j1, j2.trans k2, ⟨fun b l h => j3.f b l (k3.f b l h), fun c o v h => j3.tx c o v (k3.tx c o v h)⟩, fun i hi => ?_, j5, args j3 k5⟩
      simp only [List.contains_cons, Bool.or_eq_false_iff] at hi
      rw [j4 i (by simpa using hi.1), k4 i hi.2]
theorem Ev.partsB {P : Program} {f : FuncId} {m m' N N' : Mem} {args args1 args' : List AV} {v v' : AV} (os : List (Option (Nat × Nat))) (fs : List Nat) (hr : PartRows m os m') (ha : PartL (partOfs os) args args1) (hs : StayL m' fs args1 args') (hro : roAll m' = true) (hfs : fs.all (fun b => (partOfs os b).isNone) = true)
    (h : Ev P (.call f args' m') (.val v (m' ++ N))) (hv : v.ren (partRen m'.length m.length) = v') (hN : N.map (Row.ren (partRen m'.length m.length)) = N') : Ev P (.call f args m) (.val v' (m ++ N')) := by
  subst hv hN
  refine Ev.semF fun ι w vs hR hargs => ?_
  obtain ⟨ιp, k1, k2, k3, k4, k5⟩ := hs.rel (part_R hr.of hR) hro (fun b hb => by
    have := List.all_eq_true.1 hfs b (by simpa using hb)
    unfold partEmb
    simp only [Option.isNone_iff_eq_none] at this
    simp only [this, Option.bind_none]) (ha.rel hargs)
  refine (sound h ιp w vs k1 k5).mono fun e' w' hq => ?_
  obtain ⟨u, ι1, rfl, hv, hst⟩ := hq
  obtain ⟨ι2, hsame, hst⟩ := part_stepG (ι := ι) (fun c ⟨b, l, x, _, h2, _⟩ => by have := roAll_row hro h2; cases this) k2 hR hst
  exact ⟨u, ι2, rfl, AV.ren_rel hsame hv, hst⟩
end Go.Proofs.YtmbepikkgkcgkaaGreatDoor
