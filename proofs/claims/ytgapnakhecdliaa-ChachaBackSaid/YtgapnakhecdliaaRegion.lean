/- A statement whose order Go leaves open: where every operation leaves what was there as it was, ONE walk in the order of the text serves every order. No function of the program in sight. -/
import Derived.Test.YtgapnakhecdliaaSlice
namespace Go.Proofs.Ytgapnakhecdliaa
open Go.RowKit

/-- What was there is as it was. -/
def Ext (w w' : World) : Prop := Below w.heap.size w w'
theorem Ext.refl (w : World) : Ext w w := Below.refl _ _
theorem Ext.trans {a b c : World} (h : Ext a b) (k : Ext b c) : Ext a c := Below.trans h (Below.mono k h.size)

section
variable (P : Program) (ops : Array Oper) (C : World → Prop) (As : Nat → Option (Value ⊕ (World → Value → Prop)))

/-- Which operations are surely behind an operation (bits). -/
def rowBits (o : Oper) (acc : Array Nat) : Nat := o.after.toList.foldl (fun s e => if Region.binds .any e then s ||| 2 ^ e.on ||| acc.getD e.on 0 else s) 0
def allBits : List Oper → Array Nat → Array Nat
  | [], acc => acc
  | o :: l, acc => allBits l (acc.push (rowBits o acc))
def bef (i j : Nat) : Bool := ((allBits ops.toList #[]).getD i 0).testBit j

def nowX (o : Oper) (a : Act) (w : World) (v : Value) : Prop := (execOp a.eval o).run P w = .ok (.value v) w ∨ ((execOp a.eval o).run P w = .ok .skip w ∧ v = undef)
def fineUpon (w : World) (V : World → Value → Prop) : Result Next → Prop
  | .ok (.value v) w' => Ext w w' ∧ V w' v
  | .ok .skip w' => Ext w w' ∧ V w' undef
  | .ok (.enter f args) w' => Ext w w' ∧ Calls P f args w' (fun e w'' => ∃ v, e = .returned v ∧ Ext w' w'' ∧ V w'' v)
  | _ => False
def fineX (o : Oper) (a : Act) (w : World) (V : World → Value → Prop) : Prop := fineUpon P w V ((execOp a.eval o).run P w)

/-- The walk in the order of the text: 'As k' tells what is known of the k-th value: nothing ahead ('none': it is found, and the world stays), a value, or a property that lasts. -/
def wpX (Q : Act → World → Prop) : List Oper → Nat → List (Nat × (World → Prop)) → Act → Prop
  | [], _, H, a => ∀ w, C w → (∀ x ∈ H, x.2 w) → Q a w
  | o :: l, k, H, a =>
    if Region.wanted o (yielded ops a.tmps) = true then
      match As k with
      | none => ∃ v, (∀ w, C w → (∀ x ∈ H, bef ops k x.1 = true → x.2 w) → nowX P o a w v) ∧ wpX Q l (k + 1) H (a.put o.dst v)
      | some (.inl v0) => (∀ w, C w → (∀ x ∈ H, bef ops k x.1 = true → x.2 w) → fineX P o a w (fun _ v => v = v0)) ∧ wpX Q l (k + 1) H (a.put o.dst v0)
      | some (.inr V) => (∀ w, C w → (∀ x ∈ H, bef ops k x.1 = true → x.2 w) → fineX P o a w V) ∧ ∀ v, wpX Q l (k + 1) ((k, fun w => V w v) :: H) (a.put o.dst v)
    else wpX Q l (k + 1) H (a.put o.dst undef)

def dstAt (k : Nat) : Option Tmp := (ops[k]?).bind (·.dst)
/-- The frame in the order of the text. -/
def putAll (a0 : Act) (vs : Nat → Value) : Nat → Act
  | 0 => a0
  | k + 1 => (putAll a0 vs k).put (dstAt ops k) (vs k)
end

section
variable {P : Program} {ops : Array Oper} {C : World → Prop} {As : Nat → Option (Value ⊕ (World → Value → Prop))}

/-! ### The bits -/
theorem rowBits_spec (o : Oper) (acc : Array Nat) (j : Nat) (h : (rowBits o acc).testBit j = true) : ∃ e ∈ o.after, Region.binds .any e = true ∧ (j = e.on ∨ (acc.getD e.on 0).testBit j = true) := by
  have key : ∀ (l : List Edge) (s : Nat), (l.foldl (fun s e => if Region.binds .any e then s ||| 2 ^ e.on ||| acc.getD e.on 0 else s) s).testBit j = true → s.testBit j = true ∨ ∃ e ∈ l, Region.binds .any e = true ∧ (j = e.on ∨ (acc.getD e.on 0).testBit j = true) := by
    intro l
    induction l with
    | nil => intro s h; exact .inl h
    | cons e l ih =>
      intro s h
      simp only [List.foldl_cons] at h
      rcases ih _ h with h | ⟨e', he', hb⟩
      · split at h
        · rename_i hbind
          simp only [Nat.testBit_or, Bool.or_eq_true] at h
          rcases h with (h | h) | h
          · exact .inl h
          · refine .inr ⟨e, List.mem_cons_self, hbind, .inl ?_⟩
            rw [Nat.testBit_two_pow] at h
            simpa using (of_decide_eq_true h).symm
          · exact .inr ⟨e, List.mem_cons_self, hbind, .inr h⟩
        · exact .inl h
      · exact .inr ⟨e', List.mem_cons_of_mem _ he', hb⟩
  rcases key _ _ h with h | ⟨e, he, hb⟩
  · simp at h
  · exact ⟨e, by simpa using he, hb⟩

/-- 'listed' is closed under what must come ahead. -/
def Closed (ops : Array Oper) (listed : Nat → Bool) : Prop := ∀ j oj, ops[j]? = some oj → listed j = true → ∀ e ∈ oj.after, Region.binds .any e = true → listed e.on = true

theorem allBits_spec {listed : Nat → Bool} (hc : Closed ops listed) : ∀ (l : List Oper) (acc : Array Nat), (∀ j, l[j]? = ops[acc.size + j]?) →
    (∀ i, i < acc.size → ∀ j, (acc.getD i 0).testBit j = true → ∀ o, ops[i]? = some o → (∀ e ∈ o.after, Region.binds .any e = true → listed e.on = true) → listed j = true) →
    ∀ i j, ((allBits l acc).getD i 0).testBit j = true → ∀ o, ops[i]? = some o → (∀ e ∈ o.after, Region.binds .any e = true → listed e.on = true) → listed j = true := by
  intro l
  induction l with
  | nil =>
    intro acc _ hacc i j hb o ho hd
    by_cases hi : i < acc.size
    · exact hacc i hi j hb o ho hd
    · simp [allBits, Array.getElem?_eq_none (Nat.le_of_not_lt hi)] at hb
  | cons o l ih =>
    intro acc hl hacc
    have h0 : ops[acc.size]? = some o := by simpa using (hl 0).symm
    refine ih (acc.push (rowBits o acc)) (fun j => by have := hl (j + 1); simpa [Nat.add_assoc, Nat.add_comm 1 j] using this) ?_
    intro i hi j hb oi hoi hd
    simp only [Array.size_push] at hi
    by_cases hlt : i < acc.size
    · have e : (acc.push (rowBits o acc)).getD i 0 = acc.getD i 0 := by
        simp [Array.getElem?_push, Nat.ne_of_lt hlt]
      rw [e] at hb
      exact hacc i hlt j hb oi hoi hd
    · obtain rfl : i = acc.size := by omega
      have e : (acc.push (rowBits o acc)).getD acc.size 0 = rowBits o acc := by simp
      rw [e] at hb
      obtain rfl : o = oi := Option.some.inj (h0.symm.trans hoi)
      obtain ⟨e, he, hbind, hj | hj⟩ := rowBits_spec o acc j hb
      · rw [hj]; exact hd e he hbind
      · by_cases hlt2 : e.on < acc.size
        · have hon := hd e he hbind
          obtain ⟨oe, hoe⟩ : ∃ oe, ops[e.on]? = some oe := by
            have : acc.size < ops.size := (Array.getElem?_eq_some_iff.1 h0).1
            exact ⟨ops[e.on]'(by omega), Array.getElem?_eq_getElem (by omega)⟩
          exact hacc e.on hlt2 j hj oe hoe (fun e' he' hb' => hc e.on oe hoe hon e' he' hb')
        · simp [Array.getElem?_eq_none (Nat.le_of_not_lt hlt2)] at hj
theorem bef_spec {listed : Nat → Bool} (hc : Closed ops listed) {i j : Nat} (hb : bef ops i j = true) {o : Oper} (ho : ops[i]? = some o) (hd : ∀ e ∈ o.after, Region.binds .any e = true → listed e.on = true) : listed j = true :=
  allBits_spec hc ops.toList #[] (by simp) (fun i hi => absurd hi (by simp)) i j hb o ho hd

/-! ### Frames -/
theorem put_get (a : Act) (d : Option Tmp) (v : Value) (t : Tmp) (h : d ≠ some t) : (a.put d v).tmps[t]? = a.tmps[t]? := by
  cases d with
  | none => rfl
  | some d => simp only [Act.put]; exact Array.getElem?_setIfInBounds_ne (fun e => h (by rw [e]))
theorem put_hit (a : Act) (d : Tmp) (v : Value) (h : d < a.tmps.size) : (a.put (some d) v).tmps[d]? = some v := by simp [Act.put, h]
theorem put_size (a : Act) (d : Option Tmp) (v : Value) : (a.put d v).tmps.size = a.tmps.size := by cases d <;> simp [Act.put]
theorem put_defers' (a : Act) (d : Option Tmp) (v : Value) : (a.put d v).defers = a.defers := by cases d <;> rfl
theorem putAll_size (a0 : Act) (vs : Nat → Value) (k : Nat) : (putAll ops a0 vs k).tmps.size = a0.tmps.size := by
  induction k with
  | zero => rfl
  | succ k ih => rw [putAll, put_size, ih]
theorem putAll_defers (a0 : Act) (vs : Nat → Value) (k : Nat) : (putAll ops a0 vs k).defers = a0.defers := by
  induction k with
  | zero => rfl
  | succ k ih => rw [putAll, put_defers', ih]
theorem putAll_miss (a0 : Act) (vs : Nat → Value) (t : Tmp) (k : Nat) (h : ∀ j, j < k → dstAt ops j ≠ some t) : (putAll ops a0 vs k).tmps[t]? = a0.tmps[t]? := by
  induction k with
  | zero => rfl
  | succ k ih => rw [putAll, put_get _ _ _ _ (h k (by omega)), ih (fun j hj => h j (by omega))]
theorem putAll_hit (a0 : Act) (vs : Nat → Value) (d : Tmp) (k j : Nat) (hj : j < k) (hd : dstAt ops j = some d) (hu : ∀ i, i < k → i ≠ j → dstAt ops i ≠ some d) (hs : d < a0.tmps.size) : (putAll ops a0 vs k).tmps[d]? = some (vs j) := by
  induction k with
  | zero => omega
  | succ k ih =>
    by_cases h : j = k
    · subst h; rw [putAll, hd, put_hit _ _ _ (by rw [putAll_size]; exact hs)]
    · rw [putAll, put_get _ _ _ _ (hu k (by omega) (fun e => h e.symm)), ih (by omega) (fun i hi hn => hu i (by omega) hn)]
theorem putAll_congr (a0 : Act) {vs vs' : Nat → Value} (k : Nat) (h : ∀ j, j < k → vs j = vs' j) : putAll ops a0 vs k = putAll ops a0 vs' k := by
  induction k with
  | zero => rfl
  | succ k ih => rw [putAll, putAll, ih (fun j hj => h j (by omega)), h k (by omega)]

/-- Two frames agree on all that an operation looks at. -/
def Agree (ops : Array Oper) (o : Oper) (a b : Act) : Prop := ∀ t ∈ o.looksAt ops, a.tmps[t]? = b.tmps[t]?
theorem Agree.eval {o : Oper} {a b : Act} (h : Agree ops o a b) : ∀ x ∈ o.op.operands, a.eval x = b.eval x := by
  intro x hx
  cases x with
  | tmp t =>
    have : t ∈ o.looksAt ops := List.mem_append_left _ (List.mem_filterMap.2 ⟨.tmp t, by simpa using hx, rfl⟩)
    simp only [Act.eval, Array.getD_eq_getD_getElem?, h t this]
  | const v => rfl
  | global g => rfl
  | func f => rfl
theorem Agree.wanted {o : Oper} {a b : Act} (h : Agree ops o a b) : Region.wanted o (yielded ops a.tmps) = Region.wanted o (yielded ops b.tmps) := by
  unfold Region.wanted
  cases hg : o.guard with
  | none => rfl
  | some gw =>
    obtain ⟨g, want⟩ := gw
    have : yielded ops a.tmps g = yielded ops b.tmps g := by
      unfold yielded
      cases ht : (ops[g]?).bind (·.dst) with
      | none => rfl
      | some t =>
        have hm : t ∈ o.looksAt ops := by simp [Oper.looksAt, hg, ht]
        simp only [Option.bind_some, h t hm]
    simp only [this]
theorem Agree.exec {o : Oper} {a b : Act} (h : Agree ops o a b) (hs : ∀ cs bl, o.op ≠ .select cs bl) : execOp a.eval o = execOp b.eval o := execOp_congr o hs h.eval

/-! ### The check on a region -/
def noSelectB (o : Oper) : Bool := match o.op with | .select .. => false | _ => true
theorem noSelectB_spec {o : Oper} (h : noSelectB o = true) : ∀ cs b, o.op ≠ .select cs b := by
  intro cs b e; simp [noSelectB, e] at h
/-- The first n operations: no two have one destination; what one reads is written surely ahead of it or surely behind it; destinations lie in the frame. -/
def Region.okX (ops : Array Oper) (n size : Nat) : Bool :=
  ops.toList.all noSelectB &&
  (List.range n).all fun i =>
    (match dstAt ops i with | some d => decide (d < size) && (List.range n).all (fun j => decide (i = j) || dstAt ops j != some d) | none => true) &&
    (match ops[i]? with
     | some o => (o.looksAt ops).all fun t => (List.range n).all fun j => dstAt ops j != some t || (decide (j < i) && bef ops i j) || (decide (i < j) && bef ops j i)
     | none => true)
structure OkX (ops : Array Oper) (n size : Nat) : Prop where
  sel : ∀ (j : Nat) (o : Oper), ops[j]? = some o → ∀ cs b, o.op ≠ .select cs b
  lt : ∀ i d, i < n → dstAt ops i = some d → d < size
  uniq : ∀ i j d, i < n → j < n → dstAt ops i = some d → dstAt ops j = some d → i = j
  look : ∀ i o t j, i < n → ops[i]? = some o → t ∈ o.looksAt ops → j < n → dstAt ops j = some t → (j < i ∧ bef ops i j = true) ∨ (i < j ∧ bef ops j i = true)
theorem Region.okX_spec {n size : Nat} (h : Region.okX ops n size = true) : OkX ops n size := by
  simp only [Region.okX, Bool.and_eq_true, List.all_eq_true, List.mem_range] at h
  obtain ⟨h1, h2⟩ := h
  refine ⟨fun j o ho => noSelectB_spec (h1 o ?_), fun i d hi hd => ?_, fun i j d hi hj hd hd' => ?_, fun i o t j hi ho ht hj hd => ?_⟩
  · have := Array.mem_of_getElem? ho
    simpa using this
  · have := (h2 i hi).1
    rw [hd] at this
    simp only [Bool.and_eq_true, decide_eq_true_eq] at this
    exact this.1
  · have := (h2 i hi).1
    rw [hd] at this
    simp only [Bool.and_eq_true, decide_eq_true_eq, List.all_eq_true, List.mem_range, Bool.or_eq_true] at this
    rcases this.2 j hj with h | h
    · exact h
    · rw [hd'] at h; simp at h
  · have := (h2 i hi).2
    rw [ho] at this
    simp only [List.all_eq_true, List.mem_range, Bool.or_eq_true, Bool.and_eq_true, decide_eq_true_eq] at this
    rcases this t ht j hj with (h | h) | h
    · rw [hd] at h; simp at h
    · exact .inl h
    · exact .inr h
end

section
variable {P : Program} {ops : Array Oper} {C : World → Prop} {As : Nat → Option (Value ⊕ (World → Value → Prop))} {Q : Act → World → Prop} {n : Nat} {a0 : Act}

/-- What is known of the first k values. -/
def Hs (ops : Array Oper) (As : Nat → Option (Value ⊕ (World → Value → Prop))) (a0 : Act) (vs : Nat → Value) : Nat → List (Nat × (World → Prop))
  | 0 => []
  | k + 1 =>
    match ops[k]? with
    | some o =>
      if Region.wanted o (yielded ops (putAll ops a0 vs k).tmps) = true then
        match As k with
        | some (.inr V) => (k, fun w => V w (vs k)) :: Hs ops As a0 vs k
        | _ => Hs ops As a0 vs k
      else Hs ops As a0 vs k
    | none => Hs ops As a0 vs k
theorem Hs_congr {vs vs' : Nat → Value} (k : Nat) (h : ∀ j, j < k → vs j = vs' j) : Hs ops As a0 vs k = Hs ops As a0 vs' k := by
  induction k with
  | zero => rfl
  | succ k ih =>
    simp only [Hs]
    rw [ih (fun j hj => h j (by omega)), putAll_congr a0 k (fun j hj => h j (by omega)), h k (by omega)]
theorem mem_Hs {vs : Nat → Value} {k : Nat} {x : Nat × (World → Prop)} (h : x ∈ Hs ops As a0 vs k) :
    ∃ j o V, j < k ∧ ops[j]? = some o ∧ Region.wanted o (yielded ops (putAll ops a0 vs j).tmps) = true ∧ As j = some (.inr V) ∧ x = (j, fun w => V w (vs j)) := by
  induction k with
  | zero => simp [Hs] at h
  | succ k ih =>
    have lift : x ∈ Hs ops As a0 vs k → ∃ j o V, j < k + 1 ∧ ops[j]? = some o ∧ Region.wanted o (yielded ops (putAll ops a0 vs j).tmps) = true ∧ As j = some (.inr V) ∧ x = (j, fun w => V w (vs j)) := by
      intro h
      obtain ⟨j, o, V, hj, r⟩ := ih h
      exact ⟨j, o, V, by omega, r⟩
    simp only [Hs] at h
    split at h
    · rename_i o ho
      split at h
      · rename_i hw
        split at h
        · rename_i V hV
          rcases List.mem_cons.1 h with h | h
          · exact ⟨k, o, V, by omega, ho, hw, hV, h⟩
          · exact lift h
        · exact lift h
      · exact lift h
    · exact lift h

def OutX (P : Program) (ops : Array Oper) (As : Nat → Option (Value ⊕ (World → Value → Prop))) (k : Nat) (o : Oper) (A : Act) (wk w : World) (v : Value) : Prop :=
  if Region.wanted o (yielded ops A.tmps) = true then
    match As k with
    | none => nowX P o A wk v
    | some (.inl v0) => v = v0
    | some (.inr V) => V w v
  else v = undef

structure InvX (P : Program) (ops : Array Oper) (C : World → Prop) (As : Nat → Option (Value ⊕ (World → Value → Prop))) (n : Nat) (a0 : Act) (listed : Array Bool) (vs : Nat → Value) (a : Act) (w : World) : Prop where
  head : HeadInv .any ops n listed
  hit : ∀ j, j < n → listed.getD j false = true → ∀ d, dstAt ops j = some d → a.tmps[d]? = some (vs j)
  miss : ∀ t, (∀ j, j < n → listed.getD j false = true → dstAt ops j ≠ some t) → a.tmps[t]? = a0.tmps[t]?
  size : a.tmps.size = a0.tmps.size
  defers : a.defers = a0.defers
  cls : C w
  out : ∀ k o, k < n → ops[k]? = some o → listed.getD k false = true → ∃ wk, C wk ∧ Ext wk w ∧ ∀ (vs' : Nat → Value), (∀ j, j < n → listed.getD j false = true → vs' j = vs j) →
    (∀ x ∈ Hs ops As a0 vs' k, bef ops k x.1 = true → x.2 wk) ∧ OutX P ops As k o (putAll ops a0 vs' k) wk w (vs k)

theorem InvX.closed {listed : Array Bool} {vs : Nat → Value} {a : Act} {w : World} (h : InvX P ops C As n a0 listed vs a w) : Closed ops (fun j => listed.getD j false) := h.head.closed

theorem nowX_det {o : Oper} {a : Act} {w : World} {v u : Value} (h : nowX P o a w v) (k : nowX P o a w u) : v = u := by
  rcases h with h | ⟨h, rfl⟩ <;> rcases k with k | ⟨k, rfl⟩
  · rw [h] at k; simpa using k
  · rw [h] at k; simp at k
  · rw [h] at k; simp at k
  · rfl

/-- The facts that an operation may lean on hold, where all that is surely ahead of it has run. -/
theorem InvX.facts {listed : Array Bool} {vs : Nat → Value} {a : Act} {w : World} (h : InvX P ops C As n a0 listed vs a w) (i : Nat) (hin : i ≤ n) (hb : ∀ j, bef ops i j = true → listed.getD j false = true)
    (vs' : Nat → Value) (hvs : ∀ j, j < n → listed.getD j false = true → vs' j = vs j) : ∀ x ∈ Hs ops As a0 vs' i, bef ops i x.1 = true → x.2 w := by
  intro x hx hbx
  obtain ⟨j, o, V, hj, ho, hw, hV, rfl⟩ := mem_Hs hx
  have hl := hb j hbx
  obtain ⟨wk, _, _, hout⟩ := h.out j o (by omega) ho hl
  have := (hout vs' hvs).2
  unfold OutX at this
  rw [if_pos hw, hV] at this
  simp only at this ⊢
  rw [hvs j (by omega) hl]
  exact this

theorem wpX_at {k : Nat} {o : Oper} {H : List (Nat × (World → Prop))} {a : Act} (ho : ops[k]? = some o) (hk : k < n) (h : wpX P ops C As Q ((ops.toList.take n).drop k) k H a) :
    wpX P ops C As Q (o :: (ops.toList.take n).drop (k + 1)) k H a := by
  have hlt : k < ops.size := (Array.getElem?_eq_some_iff.1 ho).1
  have e : (ops.toList.take n).drop k = o :: (ops.toList.take n).drop (k + 1) := by
    have hl : k < (ops.toList.take n).length := by simp; omega
    rw [List.drop_eq_getElem_cons hl]
    congr 1
    rw [List.getElem_take]
    have := Array.getElem?_eq_some_iff.1 ho
    simpa using this.2
  rw [e] at h; exact h

/-- There is a whole row of values in the order of the text, that agrees with what has run. -/
theorem InvX.path {listed : Array Bool} {vs : Nat → Value} {a : Act} {w : World} (hn : n ≤ ops.size) (h : InvX P ops C As n a0 listed vs a w) (h0 : wpX P ops C As Q (ops.toList.take n) 0 [] a0) :
    ∀ k, k ≤ n → ∃ vs', (∀ j, j < n → listed.getD j false = true → vs' j = vs j) ∧ ∀ i, i ≤ k → wpX P ops C As Q ((ops.toList.take n).drop i) i (Hs ops As a0 vs' i) (putAll ops a0 vs' i) := by
  intro k
  induction k with
  | zero => exact fun _ => ⟨vs, fun _ _ _ => rfl, fun i hi => (by
      obtain rfl : i = 0 := by omega
      exact h0)⟩
  | succ k ih =>
    intro hk
    obtain ⟨vs', hvs, hG⟩ := ih (by omega)
    obtain ⟨o, ho⟩ : ∃ o, ops[k]? = some o := ⟨ops[k]'(by omega), Array.getElem?_eq_getElem (by omega)⟩
    have hd : dstAt ops k = o.dst := by simp [dstAt, ho]
    have hk0 := wpX_at ho (by omega) (hG k (Nat.le_refl _))
    -- the values up to k stay; a new one at k
    have step : ∀ v, (listed.getD k false = true → v = vs k) → (wpX P ops C As Q ((ops.toList.take n).drop (k + 1)) (k + 1) (Hs ops As a0 (fun j => if j = k then v else vs' j) (k + 1)) ((putAll ops a0 vs' k).put o.dst v)) →
        ∃ vs'', (∀ j, j < n → listed.getD j false = true → vs'' j = vs j) ∧ ∀ i, i ≤ k + 1 → wpX P ops C As Q ((ops.toList.take n).drop i) i (Hs ops As a0 vs'' i) (putAll ops a0 vs'' i) := by
      intro v hv hnext
      have hag : ∀ j, j < k → (fun j => if j = k then v else vs' j) j = vs' j := fun j hj => by simp only; rw [if_neg (by omega)]
      refine ⟨fun j => if j = k then v else vs' j, fun j hj hl => ?_, fun i hi => ?_⟩
      · simp only
        by_cases hjk : j = k
        · rw [if_pos hjk, hjk]; exact hv (by rw [← hjk]; exact hl)
        · rw [if_neg hjk]; exact hvs j hj hl
      · by_cases hik : i = k + 1
        · subst hik
          have e : putAll ops a0 (fun j => if j = k then v else vs' j) (k + 1) = (putAll ops a0 vs' k).put o.dst v := by
            rw [putAll, putAll_congr a0 k hag, hd]; simp
          rw [e]; exact hnext
        · rw [Hs_congr i (fun j hj => hag j (by omega)), putAll_congr a0 i (fun j hj => hag j (by omega))]
          exact hG i (by omega)
    have hHs : ∀ v, Hs ops As a0 (fun j => if j = k then v else vs' j) k = Hs ops As a0 vs' k := fun v => Hs_congr k fun j hj => if_neg (show ¬ j = k by omega)
    have hpu : ∀ v, putAll ops a0 (fun j => if j = k then v else vs' j) k = putAll ops a0 vs' k := fun v => putAll_congr a0 k fun j hj => if_neg (show ¬ j = k by omega)
    have hout : listed.getD k false = true → ∃ wk, C wk ∧ (∀ x ∈ Hs ops As a0 vs' k, bef ops k x.1 = true → x.2 wk) ∧ OutX P ops As k o (putAll ops a0 vs' k) wk w (vs k) := fun hl => by
      obtain ⟨wk, hc, _, hr⟩ := h.out k o (by omega) ho hl
      exact ⟨wk, hc, (hr vs' hvs).1, (hr vs' hvs).2⟩
    unfold wpX at hk0
    by_cases hw : Region.wanted o (yielded ops (putAll ops a0 vs' k).tmps) = true
    · rw [if_pos hw] at hk0
      cases hA : As k with
      | none =>
        rw [hA] at hk0
        obtain ⟨v, hv, hnext⟩ := hk0
        refine step v (fun hl => ?_) ?_
        · obtain ⟨wk, hc, hf, ho'⟩ := hout hl
          unfold OutX at ho'
          rw [if_pos hw, hA] at ho'
          exact nowX_det (hv wk hc hf) ho'
        · simp only [Hs, ho, hpu, hHs, hw, hA, if_true]; exact hnext
      | some s =>
        cases s with
        | inl v0 =>
          rw [hA] at hk0
          refine step v0 (fun hl => ?_) ?_
          · obtain ⟨wk, hc, hf, ho'⟩ := hout hl
            unfold OutX at ho'
            rw [if_pos hw, hA] at ho'
            exact ho'.symm
          · simp only [Hs, ho, hpu, hHs, hw, hA, if_true]; exact hk0.2
        | inr V =>
          rw [hA] at hk0
          refine step (vs' k) (fun hl => hvs k (by omega) hl) ?_
          simp only [Hs, ho, hpu, hHs, hw, hA, if_true]; exact hk0.2 (vs' k)
    · rw [if_neg hw] at hk0
      refine step undef (fun hl => ?_) ?_
      · obtain ⟨wk, hc, hf, ho'⟩ := hout hl
        unfold OutX at ho'
        rw [if_neg hw] at ho'
        exact ho'.symm
      · simp only [Hs, ho, hpu, hHs, hw]; exact hk0

/-- The frame as it is agrees with the frame in the order of the text, on all that a ready operation looks at. -/
theorem InvX.agree {listed : Array Bool} {vs : Nat → Value} {a : Act} {w : World} (hok : OkX ops n a0.tmps.size) (h : InvX P ops C As n a0 listed vs a w) {i : Nat} (hin : i < n) {o : Oper} (ho : ops[i]? = some o)
    (hb : ∀ j, bef ops i j = true → listed.getD j false = true) (hun : listed.getD i false = false) (vs' : Nat → Value) (hvs : ∀ j, j < n → listed.getD j false = true → vs' j = vs j) : Agree ops o a (putAll ops a0 vs' i) := by
  intro t ht
  by_cases hex : ∃ j, j < n ∧ dstAt ops j = some t
  · obtain ⟨j, hj, hd⟩ := hex
    rcases hok.look i o t j hin ho ht hj hd with ⟨hji, hbij⟩ | ⟨hij, hbji⟩
    · have hl := hb j hbij
      rw [h.hit j hj hl t hd, putAll_hit a0 vs' t i j hji hd (fun i' hi' hne hd' => hne (hok.uniq i' j t (by omega) hj hd' hd)) (hok.lt j t hj hd), hvs j hj hl]
    · have hnl : listed.getD j false ≠ true := fun hl => by
        have hjs : j < ops.size := by
          rcases Nat.lt_or_ge j ops.size with h' | h'
          · exact h'
          · simp [dstAt, Array.getElem?_eq_none h'] at hd
        have := bef_spec h.closed hbji (Array.getElem?_eq_getElem hjs) (h.closed j _ (Array.getElem?_eq_getElem hjs) hl)
        rw [hun] at this; cases this
      rw [h.miss t (fun j' hj' hl' hd' => hnl (by rw [← hok.uniq j' j t hj' hj hd' hd]; exact hl')), putAll_miss a0 vs' t i (fun j' hj' hd' => by
        have := hok.uniq j' j t (by omega) hj hd' hd; omega)]
  · have hno : ∀ j, j < n → dstAt ops j ≠ some t := fun j hj hd => hex ⟨j, hj, hd⟩
    rw [h.miss t (fun j hj _ => hno j hj), putAll_miss a0 vs' t i (fun j hj => hno j (by omega))]

/-- One more operation has run. -/
theorem InvX.next {listed : Array Bool} {vs : Nat → Value} {a : Act} {w : World} (hok : OkX ops n a0.tmps.size) (hCe : ∀ w w', C w → Ext w w' → C w') (hVe : ∀ k V, As k = some (.inr V) → ∀ v w w', V w v → Ext w w' → V w' v)
    (h : InvX P ops C As n a0 listed vs a w) {i : Nat} (hi : i ∈ Region.ready .any ops listed) (hin : i < n) {o : Oper} (ho : ops[i]? = some o) (v : Value) (w' : World) (he : Ext w w')
    (hv : ∀ (vs' : Nat → Value), (∀ j, j < n → listed.getD j false = true → vs' j = vs j) → OutX P ops As i o (putAll ops a0 vs' i) w w' v) :
    InvX P ops C As n a0 (listed.setIfInBounds i true) (fun j => if j = i then v else vs j) (a.put o.dst v) w' := by
  have hr := mem_ready.1 hi
  have hun : listed.getD i false = false := getD_both hr.1
  have his : i < listed.size := by rw [h.head.size]; exact (Array.getElem?_eq_some_iff.1 ho).1
  have hd : dstAt ops i = o.dst := by simp [dstAt, ho]
  have hset : ∀ j, (listed.setIfInBounds i true).getD j false = true → j = i ∨ listed.getD j false = true := fun j hj => by
    by_cases hji : i = j
    · exact .inl hji.symm
    · rw [getD_set_ne false hji] at hj; exact .inr hj
  have hseti : (listed.setIfInBounds i true).getD i false = true := by simp [his]
  have hdeps : ∀ j, bef ops i j = true → listed.getD j false = true := by
    obtain ⟨_, o', ho', hall⟩ := hr
    obtain rfl : o = o' := Option.some.inj (ho.symm.trans ho')
    exact fun j hb => bef_spec h.closed hb ho hall
  -- rows of values that agree with the new one agree with the old one
  have hvs' : ∀ (vs' : Nat → Value), (∀ j, j < n → (listed.setIfInBounds i true).getD j false = true → vs' j = (fun j => if j = i then v else vs j) j) → ∀ j, j < n → listed.getD j false = true → vs' j = vs j := by
    intro vs' hag j hj hl
    have hji : j ≠ i := fun e => by rw [e, hun] at hl; cases hl
    have := hag j hj (getD_set_true hl)
    simp only [if_neg hji] at this
    exact this
  refine ⟨h.head.set hi hin, fun j hj hl d hdj => ?_, fun t ht => ?_, by rw [put_size]; exact h.size, by rw [put_defers']; exact h.defers, hCe _ _ h.cls he, fun k ok hk hok' hl => ?_⟩
  · by_cases hji : j = i
    · subst hji
      rw [hd] at hdj
      simp only [if_pos]
      rw [hdj, put_hit _ _ _ (by rw [h.size]; exact hok.lt j d hj (by rw [hd]; exact hdj))]
    · have hlj := (hset j hl).resolve_left hji
      simp only [if_neg hji]
      rw [put_get _ _ _ _ (fun e => hji (hok.uniq j i d hj hin hdj (by rw [hd]; exact e)))]
      exact h.hit j hj hlj d hdj
  · have h1 : o.dst ≠ some t := by rw [← hd]; exact ht i hin hseti
    rw [put_get _ _ _ _ h1]
    exact h.miss t fun j hj hlj => ht j hj (getD_set_true hlj)
  · by_cases hki : k = i
    · subst hki
      obtain rfl : o = ok := Option.some.inj (ho.symm.trans hok')
      refine ⟨w, h.cls, he, fun vs' hag => ?_⟩
      have hag' := hvs' vs' hag
      refine ⟨h.facts k (by omega) hdeps vs' hag', ?_⟩
      simp only [if_pos]
      exact hv vs' hag'
    · have hlk := (hset k hl).resolve_left hki
      obtain ⟨wk, hc, hext, hout⟩ := h.out k ok hk hok' hlk
      refine ⟨wk, hc, hext.trans he, fun vs' hag => ?_⟩
      have hag' := hvs' vs' hag
      obtain ⟨r1, r2⟩ := hout vs' hag'
      refine ⟨r1, ?_⟩
      simp only [if_neg hki]
      unfold OutX at r2 ⊢
      split
      · rename_i hw
        rw [if_pos hw] at r2
        cases hA : As k with
        | none => rw [hA] at r2; exact r2
        | some s =>
          cases s with
          | inl v0 => rw [hA] at r2; exact r2
          | inr V => rw [hA] at r2; exact hVe k V hA _ _ _ r2 he
      · rename_i hw
        rw [if_neg hw] at r2; exact r2

/-- A ready operation runs, and what was agreed holds on. -/
theorem InvX.run {Q' : Exit → Act → World → Prop} {listed : Array Bool} {vs : Nat → Value} {a : Act} {w : World} (hn : n ≤ ops.size) (hok : OkX ops n a0.tmps.size) (hCe : ∀ w w', C w → Ext w w' → C w') (hVe : ∀ k V, As k = some (.inr V) → ∀ v w w', V w v → Ext w w' → V w' v)
    (h : InvX P ops C As n a0 listed vs a w) (h0 : wpX P ops C As Q (ops.toList.take n) 0 [] a0) {i : Nat} (hi : i ∈ Region.ready .any ops listed) (hin : i < n) {K : Act → World → Prop}
    (hK : ∀ vs' a' w', InvX P ops C As n a0 (listed.setIfInBounds i true) vs' a' w' → K a' w') : wpOp P ops Q' i K a w := by
  have hr := mem_ready.1 hi
  have hun : listed.getD i false = false := getD_both hr.1
  obtain ⟨_, o, ho, hall⟩ := hr
  have hdeps : ∀ j, bef ops i j = true → listed.getD j false = true := fun j hb => bef_spec h.closed hb ho hall
  obtain ⟨vs', hvs, hG⟩ := h.path hn h0 i (by omega)
  have hG := wpX_at ho hin (hG i (Nat.le_refl _))
  have hag := h.agree hok hin ho hdeps hun vs' hvs
  have hfacts := h.facts i (by omega) hdeps vs' hvs
  have hsel := hok.sel i o ho
  -- what holds for one row of values that agrees holds for every such row
  have other : ∀ (vs'' : Nat → Value), (∀ j, j < n → listed.getD j false = true → vs'' j = vs j) → Agree ops o (putAll ops a0 vs' i) (putAll ops a0 vs'' i) := fun vs'' hvs'' t ht => by
    rw [← hag t ht, h.agree hok hin ho hdeps hun vs'' hvs'' t ht]
  unfold wpX at hG
  unfold wpOp
  simp only [ho]
  rw [hag.wanted]
  by_cases hw : Region.wanted o (yielded ops (putAll ops a0 vs' i).tmps) = true
  · rw [if_pos hw] at hG
    rw [if_pos hw]
    refine .inl ?_
    unfold Oper.wp
    rw [hag.exec hsel]
    have outOf : ∀ (v : Value) (w' : World), (∀ (A : Act), Agree ops o (putAll ops a0 vs' i) A → match As i with | none => nowX P o A w v | some (.inl v0) => v = v0 | some (.inr V) => V w' v) →
        ∀ (vs'' : Nat → Value), (∀ j, j < n → listed.getD j false = true → vs'' j = vs j) → OutX P ops As i o (putAll ops a0 vs'' i) w w' v := fun v w' hm vs'' hvs'' => by
      have hA := other vs'' hvs''
      unfold OutX
      rw [if_pos (by rw [← hA.wanted]; exact hw)]
      exact hm _ hA
    cases hA : As i with
    | none =>
      rw [hA] at hG outOf
      obtain ⟨v, hv, _⟩ := hG
      have hnow := hv w h.cls hfacts
      have hx : ∀ A, Agree ops o (putAll ops a0 vs' i) A → nowX P o A w v := fun A hA' => by
        unfold nowX at hnow ⊢; rw [← hA'.exec hsel]; exact hnow
      have hinv := h.next hok hCe hVe hi hin ho v w (Ext.refl w) (outOf v w hx)
      rcases hnow with hnow | ⟨hnow, rfl⟩ <;> (rw [hnow]; simp only [Oper.upon]; exact hK _ _ _ hinv)
    | some s =>
      have fin : ∀ (V : World → Value → Prop), fineX P o (putAll ops a0 vs' i) w V → (∀ v w', V w' v → match As i with | none => False | some (.inl v0) => v = v0 | some (.inr V) => V w' v) → Oper.upon P o a K Q' ((execOp (putAll ops a0 vs' i).eval o).run P w) := by
        intro V hf hm
        unfold fineX at hf
        have go : ∀ v w', Ext w w' → V w' v → K (a.put o.dst v) w' := fun v w' he hv => by
          refine hK _ _ _ (h.next hok hCe hVe hi hin ho v w' he (outOf v w' fun A _ => ?_))
          have := hm v w' hv
          rw [hA] at this ⊢
          cases s <;> exact this
        generalize (execOp (putAll ops a0 vs' i).eval o).run P w = r at hf ⊢
        cases r with
        | ok x w' =>
          cases x <;> simp only [fineUpon] at hf <;> simp only [Oper.upon]
          case value v => exact go v w' hf.1 hf.2
          case skip => exact go undef w' hf.1 hf.2
          case enter f args =>
            refine hf.2.mono fun e w'' hr => ?_
            obtain ⟨v, rfl, he, hv⟩ := hr
            exact go v w'' (hf.1.trans he) hv
        | halt x w' => simp only [fineUpon] at hf
      cases s with
      | inl v0 =>
        rw [hA] at hG
        exact fin _ (hG.1 w h.cls hfacts) fun v w' hv => by rw [hA]; exact hv
      | inr V =>
        rw [hA] at hG
        exact fin _ (hG.1 w h.cls hfacts) fun v w' hv => by rw [hA]; exact hv
  · rw [if_neg hw] at hG
    rw [if_neg hw]
    refine hK _ _ _ (h.next hok hCe hVe hi hin ho undef w (Ext.refl w) fun vs'' hvs'' => ?_)
    unfold OutX
    rw [if_neg (by rw [← (other vs'' hvs'').wanted]; exact hw)]

/-- What has been listed when the head is through. -/
def headListed (n size : Nat) : Array Bool := ((List.range size).map fun j => decide (j < n)).toArray
/-- The check on a whole region: its first n operations as above; the others come behind them, one by one. -/
def Region.okAll (ops : Array Oper) (n size : Nat) : Bool :=
  decide (n ≤ ops.size) && Region.okX ops n size && (decide (n = ops.size) || (Region.sinkB .any ops n && Region.chainB .any ops n)) && Region.seqB .any ops (ops.size - n) n (headListed n ops.size) &&
  (List.range ops.size).all fun i => match ops[i]? with | some o => o.after.all fun e => !Region.binds .any e || decide (e.on < i) | none => true

/-- The operations that have not run yet, in a list. -/
theorem InvX.any {Q' : Exit → Act → World → Prop} (hall : Region.okAll ops n a0.tmps.size = true) (hCe : ∀ w w', C w → Ext w w' → C w') (hVe : ∀ k V, As k = some (.inr V) → ∀ v w w', V w v → Ext w w' → V w' v)
    (h0 : wpX P ops C As (fun a w => wpList P ops Q' (ops.toList.drop n) a w) (ops.toList.take n) 0 [] a0) :
    ∀ (f : Nat) (un : List Nat) (listed : Array Bool) (vs : Nat → Value) (a : Act) (w : World), un.length = f → un.Nodup → (∀ j, j ∈ un ↔ j < n ∧ listed.getD j false = false) → InvX P ops C As n a0 listed vs a w →
      wpAny P .any ops Q' (f + (ops.size - n)) listed a w := by
  simp only [Region.okAll, Bool.and_eq_true, Bool.or_eq_true, decide_eq_true_eq] at hall
  obtain ⟨⟨⟨⟨hn, hok0⟩, htail⟩, hseq⟩, hback⟩ := hall
  have hok := Region.okX_spec hok0
  intro f
  induction f with
  | zero =>
    intro un listed vs a w hl _ hun h
    obtain rfl : un = [] := List.length_eq_zero_iff.1 hl
    have hdone : ∀ j, j < n → listed.getD j false = true := fun j hj => by
      cases hb : listed.getD j false with
      | true => rfl
      | false => have := (hun j).2 ⟨hj, hb⟩; simp at this
    have hlisted : listed = headListed n ops.size := by
      apply Array.ext_getElem?
      intro j
      by_cases hj : j < ops.size
      · have hjl : j < listed.size := by rw [h.head.size]; exact hj
        have e : (headListed n ops.size)[j]? = some (decide (j < n)) := by simp [headListed, hj]
        rw [e, Array.getElem?_eq_getElem hjl]
        congr 1
        by_cases hjn : j < n
        · have := hdone j hjn; simpa [hjl, hjn] using this
        · have := h.head.tail j (by omega) hj; simpa [hjl, hjn] using this
      · rw [Array.getElem?_eq_none (by rw [h.head.size]; omega), Array.getElem?_eq_none (by simp [headListed]; omega)]
    obtain ⟨vs', hvs, hG⟩ := h.path hn h0 n (Nat.le_refl _)
    have hGn := hG n (Nat.le_refl _)
    have e0 : (ops.toList.take n).drop n = [] := List.drop_of_length_le (by simp; omega)
    rw [e0] at hGn
    have ha : a = putAll ops a0 vs' n := by
      have e1 : a.tmps = (putAll ops a0 vs' n).tmps := by
        apply Array.ext_getElem?
        intro t
        by_cases hex : ∃ j, j < n ∧ dstAt ops j = some t
        · obtain ⟨j, hj, hd⟩ := hex
          rw [h.hit j hj (hdone j hj) t hd, putAll_hit a0 vs' t n j hj hd (fun i hi hne hd' => hne (hok.uniq i j t hi hj hd' hd)) (hok.lt j t hj hd), hvs j hj (hdone j hj)]
        · have hno : ∀ j, j < n → dstAt ops j ≠ some t := fun j hj hd => hex ⟨j, hj, hd⟩
          rw [h.miss t (fun j hj _ => hno j hj), putAll_miss a0 vs' t n hno]
      have e2 : a.defers = (putAll ops a0 vs' n).defers := by rw [h.defers, putAll_defers]
      cases a
      simp only at e1 e2
      rw [e1, e2]
    have hq := hGn w h.cls (fun x hx => by
      obtain ⟨j, o, V, hj, ho, hw, hV, rfl⟩ := mem_Hs hx
      obtain ⟨wk, _, _, hout⟩ := h.out j o hj ho (hdone j hj)
      have := (hout vs' hvs).2
      unfold OutX at this
      rw [if_pos hw, hV] at this
      simp only at this ⊢
      rw [hvs j hj (hdone j hj)]
      exact this)
    rw [← ha] at hq
    have hdl : (ops.toList.drop n).length = ops.size - n := by simp
    have := wpAny_of_seq (md := .any) (Q' := Q') (ops.toList.drop n) n listed a w (fun j => by simp [List.getElem?_drop]) (by rw [hdl, hlisted]; exact hseq) hq
    rw [hdl] at this
    rw [Nat.zero_add]
    exact this
  | succ f ih =>
    intro un listed vs a w hl hnd hun h
    obtain ⟨i0, hi0⟩ : ∃ i0, i0 ∈ un := by cases un with | nil => simp at hl | cons x _ => exact ⟨x, List.mem_cons_self⟩
    have hlt0 : n ≤ ops.size := hn
    -- the least one that has not run may run
    have least : ∀ m i, i ≤ m → i ∈ un → ∃ j, j ∈ Region.ready .any ops listed := by
      intro m
      induction m with
      | zero =>
        intro i him hiu
        obtain ⟨hin, hb⟩ := (hun i).1 hiu
        have his : i < listed.size := by rw [h.head.size]; omega
        refine ⟨i, mem_ready.2 ⟨getD_in his hb, ops[i]'(by omega), Array.getElem?_eq_getElem (by omega), fun e he hbind => ?_⟩⟩
        have := List.all_eq_true.1 hback i (List.mem_range.2 (by omega))
        rw [Array.getElem?_eq_getElem (show i < ops.size by omega)] at this
        have := Array.all_eq_true_iff_forall_mem.1 this e he
        simp only [hbind, Bool.not_true, Bool.false_or, decide_eq_true_eq] at this
        omega
      | succ m ihm =>
        intro i him hiu
        obtain ⟨hin, hb⟩ := (hun i).1 hiu
        have his : i < listed.size := by rw [h.head.size]; omega
        by_cases hall : ∀ e ∈ (ops[i]'(by omega)).after, Region.binds .any e = true → listed.getD e.on false = true
        · exact ⟨i, mem_ready.2 ⟨getD_in his hb, _, Array.getElem?_eq_getElem (by omega), hall⟩⟩
        · have : ∃ e ∈ (ops[i]'(by omega)).after, Region.binds .any e = true ∧ listed.getD e.on false = false := by
            apply Classical.byContradiction
            intro hc
            apply hall
            intro e he hbind
            cases hlb : listed.getD e.on false with
            | true => rfl
            | false => exact absurd ⟨e, he, hbind, hlb⟩ hc
          obtain ⟨e, he, hbind, hlb⟩ := this
          have hlt := List.all_eq_true.1 hback i (List.mem_range.2 (by omega))
          rw [Array.getElem?_eq_getElem (show i < ops.size by omega)] at hlt
          have hlt := Array.all_eq_true_iff_forall_mem.1 hlt e he
          simp only [hbind, Bool.not_true, Bool.false_or, decide_eq_true_eq] at hlt
          exact ihm e.on (by omega) ((hun e.on).2 ⟨by omega, hlb⟩)
    rw [show f + 1 + (ops.size - n) = (f + (ops.size - n)) + 1 by omega]
    refine ⟨fun hnil => ?_, fun i hi => ?_⟩
    · obtain ⟨j, hj⟩ := least i0 i0 (Nat.le_refl _) hi0
      rw [hnil] at hj; cases hj
    · have hun0 := (mem_ready.1 hi).1
      have hin : i < n := by
        rcases Nat.lt_or_ge i n with hlt | hge
        · exact hlt
        · obtain ⟨_, o, ho, _⟩ := mem_ready.1 hi
          have his : i < ops.size := (Array.getElem?_eq_some_iff.1 ho).1
          rcases htail with he | ⟨hs, hc⟩
          · omega
          · obtain ⟨hi0n, hb0⟩ := (hun i0).1 hi0
            exact absurd hi (tail_waits hs hc (by omega) h.head _ i0 rfl hi0n (getD_in (by rw [h.head.size]; omega) hb0) i hge)
      refine h.run hn hok hCe hVe h0 hi hin fun vs' a' w' h' => ?_
      have himem : i ∈ un := (hun i).2 ⟨hin, getD_both hun0⟩
      refine ih (un.erase i) _ vs' a' w' (by rw [List.length_erase_of_mem himem, hl]; rfl) (hnd.erase i) (fun j => ?_) h'
      rw [hnd.mem_erase_iff, hun j]
      by_cases hji : j = i
      · subst hji
        have his : j < listed.size := by rw [h.head.size]; omega
        simp [his]
      · rw [getD_set_ne false (fun e => hji e.symm)]
        simp [hji]

/-- **ONE WALK IN THE ORDER OF THE TEXT SERVES EVERY ORDER**, where what the first n operations find lasts, and each leaves what was there as it was; the others follow one by one. -/
theorem wp_region_X {Q' : Exit → Act → World → Prop} {a : Act} {w : World} {id : Nat} {l : List Oper} (n : Nat) (C : World → Prop) (As : Nat → Option (Value ⊕ (World → Value → Prop))) (hm : P.follows .mixedOrders = true)
    (hall : Region.okAll l.toArray n a.tmps.size = true) (hC0 : C w.drew) (hCe : ∀ w w', C w → Ext w w' → C w') (hVe : ∀ k V, As k = some (.inr V) → ∀ v w w', V w v → Ext w w' → V w' v)
    (h : wpX P l.toArray C As (fun a w => wpList P l.toArray Q' (l.drop n) a w) (l.take n) 0 [] a) : (Code.region id l.toArray true).wp P Q' a w := by
  refine wp_region_any hm ?_
  have hn : n ≤ l.length := by
    simp only [Region.okAll, Bool.and_eq_true, decide_eq_true_eq] at hall
    simpa using hall.1.1.1.1
  have hinv : InvX P l.toArray C As n a (Array.replicate l.toArray.size false) (fun _ => undef) a w.drew :=
    ⟨⟨by simp, fun j oj _ hl => (by rw [getD_replicate_false] at hl; cases hl), fun t _ ht => getD_in (by simpa using ht) (getD_replicate_false _ _)⟩,
      fun j _ hl => (by rw [getD_replicate_false] at hl; cases hl), fun t _ => rfl, rfl, rfl, hC0, fun k o _ _ hl => (by rw [getD_replicate_false] at hl; cases hl)⟩
  have := InvX.any (Q' := Q') hall hCe hVe (by simpa using h) n (List.range n) _ _ _ _ (by simp) List.nodup_range (fun j => by rw [getD_replicate_false]; simp) hinv
  have e : n + (l.toArray.size - n) = l.toArray.size := by simp; omega
  rw [e] at this
  exact this
end

section
variable {P : Program} {ops : Array Oper} {C : World → Prop} {As : Nat → Option (Value ⊕ (World → Value → Prop))} {Q : Act → World → Prop} {l : List Oper} {k : Nat} {H : List (Nat × (World → Prop))} {a : Act} {o : Oper}
/-- A step whose value hangs on the frame alone. -/
theorem wpX_free (hA : As k = none) (hw : Region.wanted o (yielded ops a.tmps) = true) (v : Value) (hv : ∀ w, (execOp a.eval o).run P w = .ok (.value v) w) (a' : Act) (ha : a.put o.dst v = a') (hn : wpX P ops C As Q l (k + 1) H a') : wpX P ops C As Q (o :: l) k H a := by
  subst ha
  unfold wpX; rw [if_pos hw, hA]
  exact ⟨v, fun w _ _ => .inl (hv w), hn⟩
/-- A step that reads. -/
theorem wpX_read (hA : As k = none) (hw : Region.wanted o (yielded ops a.tmps) = true) (v : Value) (hv : ∀ w, C w → (∀ x ∈ H, bef ops k x.1 = true → x.2 w) → (execOp a.eval o).run P w = .ok (.value v) w) (a' : Act) (ha : a.put o.dst v = a') (hn : wpX P ops C As Q l (k + 1) H a') : wpX P ops C As Q (o :: l) k H a := by
  subst ha
  unfold wpX; rw [if_pos hw, hA]
  exact ⟨v, fun w hc hh => .inl (hv w hc hh), hn⟩
/-- A step with a known value. -/
theorem wpX_val (v0 : Value) (hA : As k = some (.inl v0)) (hw : Region.wanted o (yielded ops a.tmps) = true) (hv : ∀ w, C w → (∀ x ∈ H, bef ops k x.1 = true → x.2 w) → fineX P o a w (fun _ v => v = v0)) (a' : Act) (ha : a.put o.dst v0 = a') (hn : wpX P ops C As Q l (k + 1) H a') : wpX P ops C As Q (o :: l) k H a := by
  subst ha
  unfold wpX; rw [if_pos hw, hA]
  exact ⟨hv, hn⟩
/-- A step of whose value a lasting property is known. -/
theorem wpX_prop (V : World → Value → Prop) (hA : As k = some (.inr V)) (hw : Region.wanted o (yielded ops a.tmps) = true) (hv : ∀ w, C w → (∀ x ∈ H, bef ops k x.1 = true → x.2 w) → fineX P o a w V)
    (hn : ∀ v a', a.put o.dst v = a' → wpX P ops C As Q l (k + 1) ((k, fun w => V w v) :: H) a') : wpX P ops C As Q (o :: l) k H a := by
  unfold wpX; rw [if_pos hw, hA]
  exact ⟨hv, fun v => hn v _ rfl⟩
theorem wpX_prop' (V : World → Value → Prop) (hA : As k = some (.inr V)) (hw : Region.wanted o (yielded ops a.tmps) = true) (hv : ∀ w, C w → (∀ x ∈ H, bef ops k x.1 = true → x.2 w) → fineX P o a w V)
    (f : Value → Act) (ha : ∀ v, a.put o.dst v = f v) (hn : ∀ v, wpX P ops C As Q l (k + 1) ((k, fun w => V w v) :: H) (f v)) : wpX P ops C As Q (o :: l) k H a :=
  wpX_prop V hA hw hv fun v a' h => by rw [← h, ha v]; exact hn v
theorem wpX_pass (hw : Region.wanted o (yielded ops a.tmps) = false) (a' : Act) (ha : a.put o.dst undef = a') (hn : wpX P ops C As Q l (k + 1) H a') : wpX P ops C As Q (o :: l) k H a := by
  subst ha
  unfold wpX; rw [if_neg (by rw [hw]; simp)]
  exact hn
/-- A call of a Go function. -/
theorem fine_call {w : World} {V : World → Value → Prop} (f : FuncId) (args : Array Value) (hr : (execOp a.eval o).run P w = .ok (.enter f args) w) (h : Calls P f args w (fun e w' => ∃ v, e = .returned v ∧ Ext w w' ∧ V w' v)) : fineX P o a w V := by
  unfold fineX; rw [hr]; exact ⟨Ext.refl w, h⟩
/-- A new block. -/
theorem fine_value {w w' : World} {V : World → Value → Prop} (v : Value) (hr : (execOp a.eval o).run P w = .ok (.value v) w') (he : Ext w w') (hv : V w' v) : fineX P o a w V := by
  unfold fineX; rw [hr]; exact ⟨he, hv⟩
end
/-- A pointer to a row of its own. -/
def NewRow (B : Nat) (cs : Array Value) (t : TypeId) (w : World) (v : Value) : Prop := ∃ b, v = .pointer (some ⟨b, 0, none⟩) ∧ B ≤ b ∧ Has w b cs t
theorem NewRow.ext {B : Nat} {cs : Array Value} {t : TypeId} (v : Value) (w w' : World) (h : NewRow B cs t w v) (he : Ext w w') : NewRow B cs t w' v := by
  obtain ⟨b, e, hb, h⟩ := h; exact ⟨b, e, hb, h.ext he⟩

theorem exec_load_has {P : Program} {o : Oper} {a : Act} {w : World} (ty : TypeId) (x : Operand) (ho : o.op = .load ty x) (b : Nat) (t : TypeId) (cs : Array Value) (d : TypeDesc) (hx : a.eval x = .pointer (some ⟨b, 0, none⟩)) (h : Has w b cs t)
    (hu : P.underlying ty = some d) (hd : d.isRow = true) (hi : (P.info? ty).map (·.size) = some cs.size) : (execOp a.eval o).run P w = .ok (.value (.agg cs)) w := by
  have hr := run_loadVar_row (P := P) w b t ty cs (0, 0) d h hu (by cases d <;> first | rfl | cases hd) hi
  simp only [execOp, ho, hx, Instr.loadAt, Instr.sureAddr, Sem.run_bind, Sem.run_pure, Result.andThen_ok, hr]
theorem exec_alloc_has {P : Program} {o : Oper} {a : Act} {w : World} (ty : TypeId) (ho : o.op = .alloc ty) (z : Value) (hz : ∀ w, (zeroValue ty).run P w = .ok z w) : (execOp a.eval o).run P w = .ok (.value (.pointer (some ⟨w.heap.size, 0, none⟩))) (w.alloc (.cells z.cells ty)) := by
  simp only [execOp, ho, Instr.alloc, Sem.run_bind, hz, Result.andThen_ok, newVar, newRow]
  rfl
theorem fine_alloc {P : Program} {o : Oper} {a : Act} {w W : World} {B : Nat} {cs : Array Value} (ty : TypeId) (ho : o.op = .alloc ty) (z : Value) (hz : ∀ w, (zeroValue ty).run P w = .ok z w) (hc : z.cells = cs) (hW : Ext W w) (hB : B ≤ W.heap.size) : fineX P o a w (NewRow B cs ty) := by
  refine fine_value _ (exec_alloc_has ty ho z hz) ((Ext.refl w).alloc (Nat.le_refl _) _) ⟨w.heap.size, rfl, Nat.le_trans hB hW.size, ?_⟩
  rw [hc]; exact Has.new _ _ _
theorem Has.setRow_if {w : World} {b b' : Nat} {cs X : Array Value} {t t' : TypeId} (h : Has w b cs t) (h' : Has w b' X t') (c : Array Value) (hx : b = b' → X = cs) (hX : c = cs) : Has (w.setRow b' c) b cs t := by
  by_cases e : b = b'
  · subst e; rw [hX]; have := h.setRow cs; exact this
  · exact h.other b' e c
/-- The claims on the steps of a region, as a list. -/
def asOf : List (Nat × (Value ⊕ (World → Value → Prop))) → Nat → Option (Value ⊕ (World → Value → Prop))
  | [], _ => none
  | (j, x) :: l, k => if k = j then some x else asOf l k
def Lasting (V : World → Value → Prop) : Prop := ∀ v w w', V w v → Ext w w' → V w' v
def allLast : List (Nat × (Value ⊕ (World → Value → Prop))) → Prop
  | [] => True
  | (_, .inl _) :: l => allLast l
  | (_, .inr V) :: l => Lasting V ∧ allLast l
theorem asOf_last : ∀ (l : List (Nat × (Value ⊕ (World → Value → Prop)))), allLast l → ∀ k V, asOf l k = some (.inr V) → Lasting V
  | [], _, k, V, h => by simp [asOf] at h
  | (j, .inl x) :: l, hl, k, V, h => by
    unfold asOf at h; split at h
    · cases h
    · exact asOf_last l hl k V h
  | (j, .inr x) :: l, hl, k, V, h => by
    unfold asOf at h; split at h
    · cases h; exact hl.1
    · exact asOf_last l hl.2 k V h
theorem Sl.lasting (l : List (BitVec 8)) : Lasting fun w v => Sl w v l := fun _ _ _ h he => h.below he
theorem NewRow.lasting (B : Nat) (cs : Array Value) (t : TypeId) : Lasting (NewRow B cs t) := fun v w w' h he => NewRow.ext v w w' h he
end Go.Proofs.Ytgapnakhecdliaa
