/- Abstract data: memory ops joined; names of rows made anew. -/
import Derived.Test.YtlnekohkbhidnaaAvOp
namespace Go.Proofs.Ytlnekohkbhidnaa
open Go.RowKit

theorem opOk_mem {P : Program} {ι : Emb} {M M' : Mem} {w : World} {v : AV} {s : Sem Value} (h : MemOk P ι M w v M' s) : OpOk P ι M w v M' (do pure (.value (← s))) := by
  obtain ⟨u, w', ι', hr, hv, hs⟩ := h
  exact ⟨u, w', ι', .inl (by simp [hr]), hv, hs⟩
theorem evMem_sound {P : Program} {e : Operand → AV} {ρ : Operand → Value} {M M' : Mem} {o : Oper} {v : AV} (h : evMem P e M o.op = some (v, M')) {ι : Emb} {w : World} (hR : R ι M w) (hρ : ∀ x ∈ o.op.operands, (e x).rel ι (ρ x)) :
    OpOk P ι M w v M' (execOp ρ o) := by
  obtain ⟨dst, op, type, pos, after, guard⟩ := o
  simp only at h hρ ⊢
  unfold evMem at h
  split at h
  · exact opOk_mem (evAlloc_sound h hR)
  · rename_i t x
    exact opOk_mem (evBox_sound h hR (hρ x (by simp [Op.operands])))
  · rename_i t a x
    obtain ⟨m, hm, he⟩ := Option.map_eq_some_iff.1 h
    cases he
    obtain ⟨w', hr, hs⟩ := evStore_sound hm hR (hρ a (by simp [Op.operands])) (hρ x (by simp [Op.operands]))
    exact ⟨undef, w', ι, .inr ⟨by simp [execOp, hr], rfl⟩, trivial, hs⟩
  · rename_i s d x
    unfold evConvM at h
    split at h
    · rename_i r hr
      cases h
      exact opOk_mem (evStrBytes_sound hr hR (hρ x (by simp [Op.operands])))
    · exact opOk_mem (evMark_sound h hR (hρ x (by simp [Op.operands])))
  · rename_i t l c
    exact opOk_mem (evMakeSlice_sound h hR (hρ l (by simp [Op.operands])) (hρ c (by simp [Op.operands])))
  · rename_i t n ps
    have hpr := partsRel_map (e := e) (ρ := ρ) ps.toList fun p hp => hρ p.2 (by simp [Op.operands]; exact ⟨p.1, by simpa using hp⟩)
    have e1 : (ps.map fun (i, x) => (i, ρ x)).toList = ps.toList.map fun p => (p.1, ρ p.2) := Array.toList_map
    rw [← e1] at hpr
    have hb := evBuildSlice_sound h hR hpr
    exact opOk_mem hb
  · rename_i c
    obtain ⟨callee, args, argTypes⟩ := c
    have lit : ∀ {α : Type} {a : Array α} {l : List α}, a.toList = l → a = l.toArray := fun h => by rw [← h]
    simp only at h
    split at h
    · rename_i s x t t' hargs htys
      obtain rfl := lit hargs
      obtain rfl := lit htys
      obtain ⟨u, w', ι', hr, hv, hs⟩ := evAppend_sound (ty := type) h hR (hρ s (by simp [Op.operands, Call.operands])) (hρ x (by simp [Op.operands, Call.operands]))
      exact ⟨u, w', ι', .inl (by simp [execOp, resolve, invoke, builtin, hr]), hv, hs⟩
    · rename_i d s t t' hargs htys
      obtain rfl := lit hargs
      obtain rfl := lit htys
      obtain ⟨u, w', ι', hr, hv, hs⟩ := evCopy_sound (t' := t') (ty := type) h hR (hρ d (by simp [Op.operands, Call.operands])) (hρ s (by simp [Op.operands, Call.operands]))
      exact ⟨u, w', ι', .inl (by simp [execOp, resolve, invoke, builtin, hr]), hv, hs⟩
    · cases h
  · cases h

/-! ### Rows under new names -/
def Cell.ren (ρ : Nat → Option Nat) : Cell → Cell
  | .ptr b o => match ρ b with | some b' => .ptr b' o | none => .any
  | .sl b o len cap sz => match ρ b with | some b' => .sl b' o len cap sz | none => .any
  | x => x
def Arr.ren (ρ : Nat → Option Nat) : Arr → Arr
  | .ac l => .ac (l.map (Cell.ren ρ))
  | x => x
def AV.ren (ρ : Nat → Option Nat) : AV → AV
  | .c x => .c (x.ren ρ)
  | .agg x => .agg (x.ren ρ)
  | .tup l => .tup (l.map fun | .c x => .c (x.ren ρ) | .agg x => .agg (x.ren ρ) | x => x)
def Row.ren (ρ : Nat → Option Nat) : Row → Row
  | .row own x => .row own (x.ren ρ)
  | .dead => .dead
def Cell.refs : Cell → List Nat
  | .ptr b _ => [b]
  | .sl b _ _ _ _ => [b]
  | _ => []
def Arr.refs : Arr → List Nat
  | .ac l => l.flatMap Cell.refs
  | _ => []
def AV.refs0 : AV → List Nat
  | .c x => x.refs
  | .agg x => x.refs
  | .tup _ => []
def AV.refs : AV → List Nat
  | .tup l => l.flatMap AV.refs0
  | x => x.refs0
def Row.refs : Row → List Nat
  | .row _ x => x.refs
  | .dead => []
/-- Names under ρ lie in ι' where they lay in ι. -/
def Same (ρ : Nat → Option Nat) (ι ι' : Emb) : Prop := ∀ b b', ρ b = some b' → ι' b' = ι b
theorem Cell.ren_rel {ρ : Nat → Option Nat} {ι ι' : Emb} (h : Same ρ ι ι') {x : Cell} {v : Value} (hr : x.rel ι v) : (x.ren ρ).rel ι' v := by
  cases x with
  | ptr b o =>
    obtain ⟨l, hl, rfl⟩ := hr
    simp only [Cell.ren]
    split
    · rename_i b' hb
      exact ⟨l, by rw [h b b' hb]; exact hl, rfl⟩
    · trivial
  | sl b o len cap sz =>
    obtain ⟨p, c, rfl, h1, h2, h3⟩ := hr
    simp only [Cell.ren]
    split
    · rename_i b' hb
      refine ⟨p, c, rfl, h1, h2, h3.imp id ?_⟩
      rintro ⟨l, hl, r⟩
      exact ⟨l, by rw [h b b' hb]; exact hl, r⟩
    · trivial
  | _ => exact hr
theorem Arr.ren_size (ρ : Nat → Option Nat) (x : Arr) : (x.ren ρ).size = x.size := by cases x <;> simp [Arr.ren, Arr.size]
theorem Arr.ren_get (ρ : Nat → Option Nat) (x : Arr) (i : Nat) : (x.ren ρ).get i = (x.get i).ren ρ := by
  cases x <;> simp only [Arr.ren, Arr.get, Cell.ren, getc]
  simp only [List.getD_eq_getElem?_getD, List.getElem?_map]
  rename_i l
  cases l[i]? <;> rfl
theorem Arr.ren_rel {ρ : Nat → Option Nat} {ι ι' : Emb} (h : Same ρ ι ι') {x : Arr} {cs : Array Value} {off : Nat} (hr : x.relAt ι cs off) : (x.ren ρ).relAt ι' cs off := fun i hi => by
  rw [Arr.ren_size] at hi
  obtain ⟨v, hv, hv'⟩ := hr i hi
  exact ⟨v, hv, by rw [Arr.ren_get]; exact Cell.ren_rel h hv'⟩
theorem AV.ren_rel {ρ : Nat → Option Nat} {ι ι' : Emb} (h : Same ρ ι ι') {x : AV} {v : Value} (hr : x.rel ι v) : (x.ren ρ).rel ι' v := by
  cases x with
  | c x => exact Cell.ren_rel h (x := x) hr
  | agg x => obtain ⟨cs, rfl, h1, h2⟩ := hr; exact ⟨cs, rfl, by rw [Arr.ren_size]; exact h1, Arr.ren_rel h h2⟩
  | tup l =>
    obtain ⟨vs, rfl, h1, h2⟩ := hr
    refine ⟨vs, rfl, by simp [h1], fun i x u hx hu => ?_⟩
    rw [List.getElem?_map] at hx
    obtain ⟨y, hy, rfl⟩ := Option.map_eq_some_iff.1 hx
    have := h2 i y u hy hu
    cases y with
    | c y => exact Cell.ren_rel h (x := y) this
    | agg y => obtain ⟨cs, rfl, g1, g2⟩ := this; exact ⟨cs, rfl, by rw [Arr.ren_size]; exact g1, Arr.ren_rel h g2⟩
    | tup _ => exact this
/-- What is reached, in the order in which it is met; the first k rows are pinned. -/
def addNew (k : Nat) : List Nat → List Nat → List Nat
  | seen, [] => seen
  | seen, b :: l => if b < k ∨ b ∈ seen then addNew k seen l else addNew k (seen ++ [b]) l
def reach (k : Nat) (M : Mem) : Nat → Nat → List Nat → List Nat
  | 0, _, seen => seen
  | f + 1, i, seen => match seen[i]? with
    | some b => reach k M f (i + 1) (addNew k seen ((M.getD b .dead).refs))
    | none => seen
def rowsRefs : Mem → List Nat
  | [] => []
  | r :: l => r.refs ++ rowsRefs l
def reachIds (k : Nat) (M : Mem) (roots : List Nat) : List Nat := reach k M M.length 0 (addNew k (addNew k [] (rowsRefs (M.take k))) roots)
def idx (b : Nat) : List Nat → Nat → Option Nat
  | [], _ => none
  | x :: l, i => if x = b then some i else idx b l (i + 1)
theorem idx_some {b : Nat} : ∀ {l : List Nat} {i j : Nat}, idx b l i = some j → i ≤ j ∧ l[j - i]? = some b
  | [], _, _, h => by cases h
  | x :: l, i, j, h => by
    unfold idx at h
    split at h
    · rename_i e; cases h; subst e; simp
    · obtain ⟨h1, h2⟩ := idx_some h
      refine ⟨by omega, ?_⟩
      rw [show j - i = (j - (i + 1)) + 1 by omega, List.getElem?_cons_succ]
      exact h2
def canRen (k : Nat) (ids : List Nat) (b : Nat) : Option Nat := if b < k then some b else idx b ids k
def distinct : List Nat → Bool
  | [] => true
  | x :: l => !l.contains x && distinct l
theorem distinct_inj : ∀ {l : List Nat}, distinct l = true → ∀ i j b : Nat, l[i]? = some b → l[j]? = some b → i = j
  | [], _, i, j, b, h, _ => by simp at h
  | x :: l, hd, i, j, b, hi, hj => by
    simp only [distinct, Bool.and_eq_true, Bool.not_eq_true'] at hd
    have hx : ∀ n : Nat, l[n]? ≠ some x := fun n hn => by
      have := List.mem_of_getElem? hn
      have h2 := hd.1
      simp [this] at h2
    cases i with
    | zero =>
      cases j with
      | zero => rfl
      | succ j => simp at hi hj; subst hi; exact absurd hj (hx j)
    | succ i =>
      cases j with
      | zero => simp at hi hj; subst hj; exact absurd hi (hx i)
      | succ j => simp at hi hj; rw [distinct_inj hd.2 i j b hi hj]
def roRefs (k : Nat) : Mem → Bool
  | [] => true
  | .row own x :: l => (x.refs.all (· < k) || own) && roRefs k l
  | .dead :: l => roRefs k l
def canMem (k : Nat) (M : Mem) (ids : List Nat) : Mem := (M.take k).map (Row.ren (canRen k ids)) ++ ids.map fun b => (M.getD b .dead).ren (canRen k ids)
def canOk (k : Nat) (M : Mem) (ids : List Nat) : Bool := decide (k ≤ M.length) && distinct ids && ids.all (fun b => decide (k ≤ b) && decide (b < M.length)) && roRefs k (M.take k)
/-- Rows that are not reached are left; the others get their names by the order in which they are met. -/
def canon (k : Nat) (roots : List AV) (M : Mem) : Option (List AV × Mem × List Nat) :=
  let ids := reachIds k M (roots.flatMap AV.refs)
  if canOk k M ids = true then some (roots.map (AV.ren (canRen k ids)), canMem k M ids, ids) else none
def canEmb (k : Nat) (ids : List Nat) (ι : Emb) : Emb := fun j => if j < k then ι j else match ids[j - k]? with | some b => ι b | none => none
theorem can_same (k : Nat) (ids : List Nat) (ι : Emb) : Same (canRen k ids) ι (canEmb k ids ι) := by
  intro b b' h
  unfold canRen at h
  split at h
  · rename_i hb; cases h; exact if_pos hb
  · obtain ⟨h1, h2⟩ := idx_some h
    unfold canEmb
    rw [if_neg (by omega), h2]
theorem canMem_row {k : Nat} {M : Mem} {ids : List Nat} (hk : k ≤ M.length) {j : Nat} {own : Bool} {x : Arr} (h : (canMem k M ids)[j]? = some (.row own x)) :
    ∃ b y, M[b]? = some (.row own y) ∧ x = y.ren (canRen k ids) ∧ ((j < k ∧ b = j) ∨ (k ≤ j ∧ ids[j - k]? = some b)) := by
  unfold canMem at h
  have inv : ∀ {r : Row}, r.ren (canRen k ids) = .row own x → ∃ y, r = .row own y ∧ x = y.ren (canRen k ids) := by
    intro r hr
    cases r with
    | dead => cases hr
    | row o y => cases hr; exact ⟨y, rfl, rfl⟩
  by_cases hj : j < k
  · rw [List.getElem?_append_left (by simp; omega), List.getElem?_map, List.getElem?_take, if_pos hj] at h
    obtain ⟨r, hr, e⟩ := Option.map_eq_some_iff.1 h
    obtain ⟨y, rfl, hy⟩ := inv e
    exact ⟨j, y, hr, hy, .inl ⟨hj, rfl⟩⟩
  · rw [List.getElem?_append_right (by simp; omega), List.getElem?_map] at h
    obtain ⟨b, hb, e⟩ := Option.map_eq_some_iff.1 h
    have hlen : ((M.take k).map (Row.ren (canRen k ids))).length = k := by simp; omega
    rw [hlen] at hb
    obtain ⟨y, hy, hy2⟩ := inv e
    refine ⟨b, y, ?_, hy2, .inr ⟨by omega, hb⟩⟩
    rw [List.getD_eq_getElem?_getD] at hy
    cases hm : M[b]? with
    | none => rw [hm] at hy; cases hy
    | some r => rw [hm] at hy; simp at hy; rw [hy]
theorem canRen_id {k : Nat} {ids : List Nat} {b : Nat} (h : b < k) : canRen k ids b = some b := if_pos h
theorem ren_id {k : Nat} {ids : List Nat} {x : Arr} (h : x.refs.all (· < k) = true) : x.ren (canRen k ids) = x := by
  cases x with
  | ac l =>
    simp only [Arr.refs, List.all_eq_true, List.mem_flatMap, decide_eq_true_eq] at h
    simp only [Arr.ren]
    congr 1
    conv => rhs; rw [← List.map_id l]
    apply List.map_congr_left
    intro c hc
    cases c with
    | ptr b o => simp only [Cell.ren, canRen_id (h b ⟨_, hc, by simp [Cell.refs]⟩), id]
    | sl b o n c z => simp only [Cell.ren, canRen_id (h b ⟨_, hc, by simp [Cell.refs]⟩), id]
    | _ => rfl
  | _ => rfl
theorem roRefs_spec {k : Nat} : ∀ {M : Mem}, roRefs k M = true → ∀ (b : Nat) (x : Arr), M[b]? = some (.row false x) → x.refs.all (· < k) = true
  | [], _, b, x, h => by simp at h
  | r :: l, hr, b, x, h => by
    cases b with
    | zero =>
      simp at h; subst h
      simp only [roRefs, Bool.or_false, Bool.and_eq_true] at hr
      exact hr.1
    | succ b =>
      have h : l[b]? = some (.row false x) := by simpa using h
      refine roRefs_spec (M := l) ?_ b x h
      cases r with
      | dead => exact hr
      | row own y => simp only [roRefs, Bool.and_eq_true] at hr; exact hr.2
theorem canon_step {k : Nat} {M : Mem} {ids : List Nat} (hok : canOk k M ids = true) {ι : Emb} {w : World} (hR : R ι M w) : Step k ι M w (canEmb k ids ι) (canMem k M ids) w := by
  simp only [canOk, Bool.and_eq_true, decide_eq_true_eq, List.all_eq_true] at hok
  obtain ⟨⟨⟨hk, hd⟩, hge0⟩, hro⟩ := hok
  have hge : ∀ b ∈ ids, k ≤ b := fun b hb => (hge0 b hb).1
  have hlen : (canMem k M ids).length = k + ids.length := by simp [canMem]; omega
  have emb : ∀ {j b : Nat}, (j < k ∧ b = j) ∨ (k ≤ j ∧ ids[j - k]? = some b) → canEmb k ids ι j = ι b := by
    rintro j b (⟨hj, rfl⟩ | ⟨hj, hb⟩)
    · exact if_pos hj
    · unfold canEmb; rw [if_neg (by omega), hb]
  have src : ∀ {j j' b b' : Nat}, j ≠ j' → ((j < k ∧ b = j) ∨ (k ≤ j ∧ ids[j - k]? = some b)) → ((j' < k ∧ b' = j') ∨ (k ≤ j' ∧ ids[j' - k]? = some b')) → b ≠ b' := by
    rintro j j' b b' hne (⟨hj, rfl⟩ | ⟨hj, hb⟩) (⟨hj', rfl⟩ | ⟨hj', hb'⟩) e
    · exact hne e
    · have := hge b' (List.mem_of_getElem? hb'); omega
    · have := hge b (List.mem_of_getElem? hb); omega
    · subst e
      have := distinct_inj hd _ _ _ hb hb'
      omega
  refine ⟨⟨fun j hj => ?_, fun j l own x hj hm => ?_, fun j j' l l' own own' x x' hne hj hj' hm hm' ho => ?_⟩, ⟨rfl, rfl, rfl, Nat.le_refl _, fun _ _ _ => rfl, fun c hc => ?_⟩, fun b hb => if_pos hb, by omega, fun b x hb hm => ?_, fun j own x hj hm => ?_, fun j l own x hj h1 h2 => ?_⟩
  · unfold canEmb
    rw [if_neg (by omega), List.getElem?_eq_none (by omega)]
  · obtain ⟨b, y, hy, rfl, hb⟩ := canMem_row hk hm
    rw [emb hb] at hj
    obtain ⟨cs, t, fr, h1, h2, h3, h4⟩ := hR.rows b l own y hj hy
    exact ⟨cs, t, fr, h1, by rw [Arr.ren_size]; exact h2, Arr.ren_rel (can_same k ids ι) h3, h4⟩
  · obtain ⟨b, y, hy, _, hb⟩ := canMem_row hk hm
    obtain ⟨b', y', hy', _, hb'⟩ := canMem_row hk hm'
    rw [emb hb] at hj
    rw [emb hb'] at hj'
    exact hR.inj b b' l l' own own' y y' (src hne hb hb') hj hj' hy hy' ho
  · obtain ⟨j, l, x, hj, hm, rfl⟩ := hc
    obtain ⟨b, y, hy, _, hb⟩ := canMem_row hk hm
    rw [emb hb] at hj
    exact .inr ⟨b, l, y, hj, hy, rfl⟩
  · unfold canMem
    rw [List.getElem?_append_left (by simp; omega), List.getElem?_map, List.getElem?_take, if_pos hb, hm]
    have := roRefs_spec hro b x (by rw [List.getElem?_take, if_pos hb]; exact hm)
    simp only [Option.map_some, Row.ren, ren_id this]
  · obtain ⟨b, y, hy, _, hb⟩ := canMem_row hk hm
    rcases hb with ⟨_, rfl⟩ | ⟨h, _⟩
    · exact ⟨y, hy⟩
    · omega
  · obtain ⟨b, y, hy, _, hb⟩ := canMem_row hk h2
    rw [emb hb] at h1
    rcases hb with ⟨h, _⟩ | ⟨_, hb⟩
    · omega
    · exact .inr (.inr ⟨b, l, own, y, hge b (List.mem_of_getElem? hb), h1, hy, rfl⟩)
end Go.Proofs.Ytlnekohkbhidnaa
