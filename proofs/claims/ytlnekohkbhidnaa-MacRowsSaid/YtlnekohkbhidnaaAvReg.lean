/- Regions whose order Go leaves open: what comes surely ahead of what; the checks. -/
import Derived.Test.YtlnekohkbhidnaaMem
namespace Go.Proofs.Ytlnekohkbhidnaa
open Go.RowKit

section
variable (ops : Array Oper)
/-- Which operations are surely behind an operation (bits). -/
def rowBits (o : Oper) (acc : Array Nat) : Nat := o.after.toList.foldl (fun s e => if Region.binds .any e then s ||| 2 ^ e.on ||| acc.getD e.on 0 else s) 0
def allBits : List Oper → Array Nat → Array Nat
  | [], acc => acc
  | o :: l, acc => allBits l (acc.push (rowBits o acc))
def bef (i j : Nat) : Bool := ((allBits ops.toList #[]).getD i 0).testBit j

def dstAt (k : Nat) : Option Tmp := (ops[k]?).bind (·.dst)
end
section
variable {ops : Array Oper}
/-! ### The bits -/
theorem rowBits_spec (o : Oper) (acc : Array Nat) (j : Nat) (h : (rowBits o acc).testBit j = true) : ∃ e ∈ o.after, Region.binds .any e = true ∧ (j = e.on ∨ (acc.getD e.on 0).testBit j = true) := by
  have key : ∀ (l : List Edge) (s : Nat), (l.foldl (fun s e => if Region.binds .any e then s ||| 2 ^ e.on ||| acc.getD e.on 0 else s) s).testBit j = true → s.testBit j = true ∨ ∃ e ∈ l, Region.binds .any e = true ∧ (j = e.on ∨ (acc.getD e.on 0).testBit j = true) := by
    intro l
    induction l with
    | nil => intro s h; exact .inl h
    | cons e l ih =>
      intro s h
      simp only [List.foldl_cons] at h
      rcases ih _ h with h | ⟨e', he', hb⟩
      · split at h
        · rename_i hbind
          simp only [Nat.testBit_or, Bool.or_eq_true] at h
          rcases h with (h | h) | h
          · exact .inl h
          · refine .inr ⟨e, List.mem_cons_self, hbind, .inl ?_⟩
            rw [Nat.testBit_two_pow] at h
            simpa using (of_decide_eq_true h).symm
          · exact .inr ⟨e, List.mem_cons_self, hbind, .inr h⟩
        · exact .inl h
      · exact .inr ⟨e', List.mem_cons_of_mem _ he', hb⟩
  rcases key _ _ h with h | ⟨e, he, hb⟩
  · simp at h
  · exact ⟨e, by simpa using he, hb⟩

/-- 'listed' is closed under what must come ahead. -/
def Closed (ops : Array Oper) (listed : Nat → Bool) : Prop := ∀ j oj, ops[j]? = some oj → listed j = true → ∀ e ∈ oj.after, Region.binds .any e = true → listed e.on = true

theorem allBits_spec {listed : Nat → Bool} (hc : Closed ops listed) : ∀ (l : List Oper) (acc : Array Nat), (∀ j, l[j]? = ops[acc.size + j]?) →
    (∀ i, i < acc.size → ∀ j, (acc.getD i 0).testBit j = true → ∀ o, ops[i]? = some o → (∀ e ∈ o.after, Region.binds .any e = true → listed e.on = true) → listed j = true) →
    ∀ i j, ((allBits l acc).getD i 0).testBit j = true → ∀ o, ops[i]? = some o → (∀ e ∈ o.after, Region.binds .any e = true → listed e.on = true) → listed j = true := by
  intro l
  induction l with
  | nil =>
    intro acc _ hacc i j hb o ho hd
    by_cases hi : i < acc.size
    · exact hacc i hi j hb o ho hd
    · simp [allBits, Array.getElem?_eq_none (Nat.le_of_not_lt hi)] at hb
  | cons o l ih =>
    intro acc hl hacc
    have h0 : ops[acc.size]? = some o := by simpa using (hl 0).symm
    refine ih (acc.push (rowBits o acc)) (fun j => by have := hl (j + 1); simpa [Nat.add_assoc, Nat.add_comm 1 j] using this) ?_
    intro i hi j hb oi hoi hd
    simp only [Array.size_push] at hi
    by_cases hlt : i < acc.size
    · have e : (acc.push (rowBits o acc)).getD i 0 = acc.getD i 0 := by
        simp [Array.getElem?_push, Nat.ne_of_lt hlt]
      rw [e] at hb
      exact hacc i hlt j hb oi hoi hd
    · obtain rfl : i = acc.size := by omega
      have e : (acc.push (rowBits o acc)).getD acc.size 0 = rowBits o acc := by simp
      rw [e] at hb
      obtain rfl : o = oi := Option.some.inj (h0.symm.trans hoi)
      obtain ⟨e, he, hbind, hj | hj⟩ := rowBits_spec o acc j hb
      · rw [hj]; exact hd e he hbind
      · by_cases hlt2 : e.on < acc.size
        · have hon := hd e he hbind
          obtain ⟨oe, hoe⟩ : ∃ oe, ops[e.on]? = some oe := by
            have : acc.size < ops.size := (Array.getElem?_eq_some_iff.1 h0).1
            exact ⟨ops[e.on]'(by omega), Array.getElem?_eq_getElem (by omega)⟩
          exact hacc e.on hlt2 j hj oe hoe (fun e' he' hb' => hc e.on oe hoe hon e' he' hb')
        · simp [Array.getElem?_eq_none (Nat.le_of_not_lt hlt2)] at hj
theorem bef_spec {listed : Nat → Bool} (hc : Closed ops listed) {i j : Nat} (hb : bef ops i j = true) {o : Oper} (ho : ops[i]? = some o) (hd : ∀ e ∈ o.after, Region.binds .any e = true → listed e.on = true) : listed j = true :=
  allBits_spec hc ops.toList #[] (by simp) (fun i hi => absurd hi (by simp)) i j hb o ho hd

/-! ### The check on a region -/
def noSelectB (o : Oper) : Bool := match o.op with | .select .. => false | _ => true
theorem noSelectB_spec {o : Oper} (h : noSelectB o = true) : ∀ cs b, o.op ≠ .select cs b := by
  intro cs b e; simp [noSelectB, e] at h
/-- The first n operations: no two have one destination; what one reads is written surely ahead of it or surely behind it; destinations lie in the frame. -/
def Region.okX (ops : Array Oper) (n size : Nat) : Bool :=
  ops.toList.all noSelectB &&
  (List.range n).all fun i =>
    (match dstAt ops i with | some d => decide (d < size) && (List.range n).all (fun j => decide (i = j) || dstAt ops j != some d) | none => true) &&
    (match ops[i]? with
     | some o => (o.looksAt ops).all fun t => (List.range n).all fun j => dstAt ops j != some t || (decide (j < i) && bef ops i j) || (decide (i < j) && bef ops j i)
     | none => true)
structure OkX (ops : Array Oper) (n size : Nat) : Prop where
  sel : ∀ (j : Nat) (o : Oper), ops[j]? = some o → ∀ cs b, o.op ≠ .select cs b
  lt : ∀ i d, i < n → dstAt ops i = some d → d < size
  uniq : ∀ i j d, i < n → j < n → dstAt ops i = some d → dstAt ops j = some d → i = j
  look : ∀ i o t j, i < n → ops[i]? = some o → t ∈ o.looksAt ops → j < n → dstAt ops j = some t → (j < i ∧ bef ops i j = true) ∨ (i < j ∧ bef ops j i = true)
theorem Region.okX_spec {n size : Nat} (h : Region.okX ops n size = true) : OkX ops n size := by
  simp only [Region.okX, Bool.and_eq_true, List.all_eq_true, List.mem_range] at h
  obtain ⟨h1, h2⟩ := h
  refine ⟨fun j o ho => noSelectB_spec (h1 o ?_), fun i d hi hd => ?_, fun i j d hi hj hd hd' => ?_, fun i o t j hi ho ht hj hd => ?_⟩
  · have := Array.mem_of_getElem? ho
    simpa using this
  · have := (h2 i hi).1
    rw [hd] at this
    simp only [Bool.and_eq_true, decide_eq_true_eq] at this
    exact this.1
  · have := (h2 i hi).1
    rw [hd] at this
    simp only [Bool.and_eq_true, decide_eq_true_eq, List.all_eq_true, List.mem_range, Bool.or_eq_true] at this
    rcases this.2 j hj with h | h
    · exact h
    · rw [hd'] at h; simp at h
  · have := (h2 i hi).2
    rw [ho] at this
    simp only [List.all_eq_true, List.mem_range, Bool.or_eq_true, Bool.and_eq_true, decide_eq_true_eq] at this
    rcases this t ht j hj with (h | h) | h
    · rw [hd] at h; simp at h
    · exact .inl h
    · exact .inr h
end

/-- What has been listed when the head is through. -/
def headListed (n size : Nat) : Array Bool := ((List.range size).map fun j => decide (j < n)).toArray
/-- The check on a whole region: its first n operations as above; the others come behind them, one by one. -/
def Region.okAll (ops : Array Oper) (n size : Nat) : Bool :=
  decide (n ≤ ops.size) && Region.okX ops n size && (decide (n = ops.size) || (Region.sinkB .any ops n && Region.chainB .any ops n)) && Region.seqB .any ops (ops.size - n) n (headListed n ops.size) &&
  (List.range ops.size).all fun i => match ops[i]? with | some o => o.after.all fun e => !Region.binds .any e || decide (e.on < i) | none => true

end Go.Proofs.Ytlnekohkbhidnaa
