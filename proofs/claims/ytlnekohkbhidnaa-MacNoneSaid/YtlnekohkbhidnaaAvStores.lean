/- Abstract data: a region whose order is open, of operations that look at no row, and of stores, one behind the other. -/
import Derived.Test.YtlnekohkbhidnaaAvDraw
namespace Go.Proofs.Ytlnekohkbhidnaa
open Go.RowKit

structure OkS (ops : Array Oper) (size : Nat) : Prop where
  ok : OkX ops ops.size size
  guard : ∀ (i : Nat) (o : Oper), ops[i]? = some o → o.guard = none
  dst : ∀ (i : Nat) (o : Oper), ops[i]? = some o → isStore o = true → o.dst = none
  chain : ∀ (i j : Nat) (o o' : Oper), i < j → ops[i]? = some o → ops[j]? = some o' → isStore o = true → isStore o' = true → bef ops j i = true
  back : ∀ (i : Nat) (o : Oper) (e : Edge), ops[i]? = some o → e ∈ o.after → Region.binds .any e = true → e.on < i
theorem Region.okStores_spec {ops : Array Oper} {size : Nat} (h : Region.okStores ops size = true) : OkS ops size := by
  simp only [Region.okStores, Bool.and_eq_true, List.all_eq_true, List.mem_range] at h
  obtain ⟨h1, h2⟩ := h
  have lt : ∀ {i : Nat} {o : Oper}, ops[i]? = some o → i < ops.size := fun ho => (Array.getElem?_eq_some_iff.1 ho).1
  refine ⟨Region.okX_spec h1, fun i o ho => ?_, fun i o ho hs => ?_, fun i j o o' hij ho ho' hs hs' => ?_, fun i o e ho he hb => ?_⟩
  · have := h2 i (lt ho)
    rw [ho] at this
    simp only [Bool.and_eq_true, Option.isNone_iff_eq_none] at this
    exact this.1.1
  · have := h2 i (lt ho)
    rw [ho] at this
    simp only [Bool.and_eq_true, Bool.or_eq_true, hs, Bool.not_true, Bool.false_eq_true, false_or, Option.isNone_iff_eq_none] at this
    exact this.1.2.1
  · have := h2 i (lt ho)
    rw [ho] at this
    simp only [Bool.and_eq_true, Bool.or_eq_true, hs, Bool.not_true, Bool.false_eq_true, false_or, List.all_eq_true, List.mem_range] at this
    have := this.1.2.2 j (lt ho')
    rw [ho'] at this
    simpa [hs', hij] using this
  · have := h2 i (lt ho)
    rw [ho] at this
    simp only [Bool.and_eq_true] at this
    have := Array.all_eq_true_iff_forall_mem.1 this.2 e he
    simpa [hb] using this

structure LineS (P : Program) (ops : Array Oper) (A : Nat → St) (V : Nat → AV) (N0 : Nat) : Prop where
  h0 : (A 0).n = N0
  pure : ∀ (i : Nat) (o : Oper), ops[i]? = some o → isStore o = false → evVal P (opnd (A i).t) (deadMem (A 0).m.length) o.op = some (V i) ∧ A (i + 1) = ⟨N0, putT (A i).t o.dst (V i), (A i).m⟩
  store : ∀ (i : Nat) (o : Oper), ops[i]? = some o → isStore o = true → ∃ v m', evMem P (opnd (A i).t) (A i).m o.op = some (v, m') ∧ m'.length = (A i).m.length ∧ A (i + 1) = ⟨N0, (A i).t, m'⟩
section
variable {P : Program} {ops : Array Oper} {A : Nat → St} {V : Nat → AV} {N0 : Nat}
theorem LineS.tmp1 (h : LineS P ops A V N0) {i : Nat} (hi : i < ops.size) {t : Nat} (ht : dstAt ops i ≠ some t) : (A (i + 1)).t t = (A i).t t := by
  have ho : ops[i]? = some (ops[i]'hi) := Array.getElem?_eq_getElem hi
  have hd : dstAt ops i = (ops[i]'hi).dst := by simp [dstAt, ho]
  rw [hd] at ht
  cases hs : isStore (ops[i]'hi) with
  | true => obtain ⟨v, m', _, _, e⟩ := h.store i _ ho hs; rw [e]
  | false =>
    obtain ⟨_, e⟩ := h.pure i _ ho hs
    rw [e]
    show putT (A i).t (ops[i]'hi).dst (V i) t = _
    cases hdd : (ops[i]'hi).dst with
    | none => rfl
    | some d => rw [hdd] at ht; exact upd_ne _ _ (fun e => ht (by rw [e]))
theorem LineS.len1 (h : LineS P ops A V N0) {i : Nat} (hi : i < ops.size) : (A (i + 1)).m.length = (A i).m.length := by
  have ho : ops[i]? = some (ops[i]'hi) := Array.getElem?_eq_getElem hi
  cases hs : isStore (ops[i]'hi) with
  | true => obtain ⟨v, m', _, hl, e⟩ := h.store i _ ho hs; rw [e]; exact hl
  | false => obtain ⟨_, e⟩ := h.pure i _ ho hs; rw [e]
theorem LineS.len (h : LineS P ops A V N0) : ∀ i, i ≤ ops.size → (A i).m.length = (A 0).m.length
  | 0, _ => rfl
  | i + 1, hi => by rw [h.len1 (by omega), LineS.len h i (by omega)]
theorem LineS.slot (h : LineS P ops A V N0) {i t : Nat} : ∀ d, i + d ≤ ops.size → (∀ j, i ≤ j → j < i + d → dstAt ops j ≠ some t) → (A (i + d)).t t = (A i).t t
  | 0, _, _ => rfl
  | d + 1, hd, hno => by
    rw [show i + (d + 1) = i + d + 1 by omega, h.tmp1 (by omega) (hno _ (by omega) (by omega)), LineS.slot h d (by omega) fun j h1 h2 => hno j h1 (by omega)]
theorem LineS.slot' (h : LineS P ops A V N0) {i j t : Nat} (hij : i ≤ j) (hj : j ≤ ops.size) (hno : ∀ l, i ≤ l → l < j → dstAt ops l ≠ some t) : (A j).t t = (A i).t t := by
  have := h.slot (i := i) (t := t) (j - i) (by omega) (fun l h1 h2 => hno l h1 (by omega))
  rwa [show i + (j - i) = j by omega] at this
theorem LineS.mem (h : LineS P ops A V N0) {i : Nat} : ∀ d, i + d ≤ ops.size → (∀ j o, i ≤ j → j < i + d → ops[j]? = some o → isStore o = false) → (A (i + d)).m = (A i).m
  | 0, _, _ => rfl
  | d + 1, hd, hno => by
    have hlt : i + d < ops.size := by omega
    have ho : ops[i + d]? = some (ops[i + d]'hlt) := Array.getElem?_eq_getElem hlt
    obtain ⟨_, e⟩ := h.pure (i + d) _ ho (hno _ _ (by omega) (by omega) ho)
    rw [show i + (d + 1) = i + d + 1 by omega, e]
    exact LineS.mem h d (by omega) fun j o h1 h2 => hno j o h1 (by omega)
theorem LineS.mem' (h : LineS P ops A V N0) {i j : Nat} (hij : i ≤ j) (hj : j ≤ ops.size) (hno : ∀ l o, i ≤ l → l < j → ops[l]? = some o → isStore o = false) : (A j).m = (A i).m := by
  have := h.mem (i := i) (j - i) (by omega) (fun l o h1 h2 => hno l o h1 (by omega))
  rwa [show i + (j - i) = j by omega] at this

structure InvS (ops : Array Oper) (A : Nat → St) (k : Nat) (ι0 : Emb) (w0 : World) (a0 : Act) (listed : Array Bool) (a : Act) (w : World) : Prop where
  cut : ∃ j, j ≤ ops.size ∧ (∀ i o, ops[i]? = some o → isStore o = true → (listed.getD i false = true ↔ i < j)) ∧ Step k ι0 (A 0).m w0 ι0 (A j).m w
  hit : ∀ j, j < ops.size → listed.getD j false = true → ∀ d, dstAt ops j = some d → ((A (j + 1)).t d).rel ι0 (a.tmps.getD d undef)
  miss : ∀ t, (∀ j, j < ops.size → listed.getD j false = true → dstAt ops j ≠ some t) → a.tmps.getD t undef = a0.tmps.getD t undef
  size : a.tmps.size = a0.tmps.size
  defers : a.defers = a0.defers
  head : HeadInv .any ops ops.size listed
theorem put_other (a : Act) {d : Option Tmp} {t : Nat} (u : Value) (h : d ≠ some t) : (a.put d u).tmps.getD t undef = a.tmps.getD t undef := by
  cases d with
  | none => rfl
  | some d =>
    simp only [Act.put, Array.getD_eq_getD_getElem?]
    rw [Array.getElem?_setIfInBounds_ne (fun e => h (by rw [e]))]
theorem InvS.agree (hl : LineS P ops A V N0) {k : Nat} {ι0 : Emb} {w0 : World} {a0 : Act} (hok : OkX ops ops.size a0.tmps.size) (hf : FRel ι0 (A 0) a0) {listed : Array Bool} {a : Act} {w : World} (h : InvS ops A k ι0 w0 a0 listed a w)
    {i : Nat} (hin : i < ops.size) {o : Oper} (ho : ops[i]? = some o) (hb : ∀ j, bef ops i j = true → listed.getD j false = true) (hun : listed.getD i false = false) :
    ∀ t ∈ o.looksAt ops, ((A i).t t).rel ι0 (a.tmps.getD t undef) := by
  intro t ht
  by_cases hex : ∃ j, j < ops.size ∧ dstAt ops j = some t
  · obtain ⟨j, hj, hd⟩ := hex
    rcases hok.look i o t j hin ho ht hj hd with ⟨hji, hbij⟩ | ⟨hij, hbji⟩
    · have hlj := hb j hbij
      rw [hl.slot' (i := j + 1) (by omega) (Nat.le_of_lt hin) (fun l h1 h2 hd' => by have := hok.uniq l j t (by omega) hj hd' hd; omega)]
      exact h.hit j hj hlj t hd
    · have hnl : listed.getD j false ≠ true := fun hlt => by
        have := bef_spec h.head.closed hbji (Array.getElem?_eq_getElem hj) (h.head.closed j _ (Array.getElem?_eq_getElem hj) hlt)
        rw [hun] at this; cases this
      rw [h.miss t (fun j' hj' hl' hd' => hnl (by rw [← hok.uniq j' j t hj' hj hd' hd]; exact hl')), hl.slot' (i := 0) (Nat.zero_le i) (Nat.le_of_lt hin) (fun l _ h2 hd' => by have := hok.uniq l j t (by omega) hj hd' hd; omega)]
      exact hf.rel t
  · have hno : ∀ j, j < ops.size → dstAt ops j ≠ some t := fun j hj hd => hex ⟨j, hj, hd⟩
    rw [h.miss t (fun j hj _ => hno j hj), hl.slot' (i := 0) (Nat.zero_le i) (Nat.le_of_lt hin) (fun l _ h2 => hno l (by omega))]
    exact hf.rel t
theorem InvS.next {k : Nat} {ι0 : Emb} {w0 : World} {a0 : Act} (hok : OkX ops ops.size a0.tmps.size) {listed : Array Bool} {a : Act} {w : World} (h : InvS ops A k ι0 w0 a0 listed a w)
    {i : Nat} (hi : i ∈ Region.ready .any ops listed) {o : Oper} (ho : ops[i]? = some o) {u : Value} {w' : World}
    (hcut : ∃ j, j ≤ ops.size ∧ (∀ i' o, ops[i']? = some o → isStore o = true → ((listed.setIfInBounds i true).getD i' false = true ↔ i' < j)) ∧ Step k ι0 (A 0).m w0 ι0 (A j).m w')
    (hu : ∀ d, o.dst = some d → ((A (i + 1)).t d).rel ι0 u) : InvS ops A k ι0 w0 a0 (listed.setIfInBounds i true) (a.put o.dst u) w' := by
  have hin : i < ops.size := (Array.getElem?_eq_some_iff.1 ho).1
  have his : i < listed.size := by rw [h.head.size]; exact hin
  have hd : dstAt ops i = o.dst := by simp [dstAt, ho]
  have hset : ∀ j, (listed.setIfInBounds i true).getD j false = true → j = i ∨ listed.getD j false = true := fun j hj => by
    by_cases hji : i = j
    · exact .inl hji.symm
    · rw [getD_set_ne false hji] at hj; exact .inr hj
  have hseti : (listed.setIfInBounds i true).getD i false = true := by simp [his]
  refine ⟨hcut, fun j hj hlj d hdj => ?_, fun t ht => ?_, by rw [show (a.put o.dst u).tmps.size = a.tmps.size by cases o.dst <;> simp [Act.put]]; exact h.size, by rw [show (a.put o.dst u).defers = a.defers by cases o.dst <;> rfl]; exact h.defers, h.head.set hi hin⟩
  · by_cases hji : j = i
    · subst hji
      rw [hd] at hdj
      rw [hdj, getD_put a d d u (by rw [h.size]; exact hok.lt j d hj (by rw [hd]; exact hdj)), if_pos rfl]
      exact hu d hdj
    · have hlj' := (hset j hlj).resolve_left hji
      have hne : o.dst ≠ some d := fun e => hji (hok.uniq j i d hj hin hdj (by rw [hd]; exact e))
      rw [put_other a u hne]
      exact h.hit j hj hlj' d hdj
  · have h1 : o.dst ≠ some t := by rw [← hd]; exact ht i hin hseti
    rw [put_other a u h1]
    exact h.miss t fun j hj hlj => ht j hj (getD_set_true hlj)
theorem dead_R {ι : Emb} {n : Nat} {w : World} (h : ∀ b, n ≤ b → ι b = none) : R ι (deadMem n) w := by
  have no : ∀ (b : Nat) (own : Bool) (x : Arr), (deadMem n)[b]? = some (.row own x) → False := fun b own x hb => by
    unfold deadMem at hb
    rw [List.getElem?_replicate] at hb
    split at hb <;> cases hb
  exact ⟨fun b hb => h b (by simpa [deadMem] using hb), fun b l own x _ hm => (no _ _ _ hm).elim, fun b b' l l' own own' x x' _ _ _ hm _ _ => (no _ _ _ hm).elim⟩
theorem InvS.run {Q' : Exit → Act → World → Prop} (hl : LineS P ops A V N0) {k : Nat} {ι0 : Emb} {w0 : World} {a0 : Act} (hS : OkS ops a0.tmps.size) (hf : FRel ι0 (A 0) a0) (hR0 : R ι0 (A 0).m w0) (hk : k ≤ (A 0).m.length) {listed : Array Bool} {a : Act} {w : World} (h : InvS ops A k ι0 w0 a0 listed a w)
    {i : Nat} (hi : i ∈ Region.ready .any ops listed) {K : Act → World → Prop} (hK : ∀ a' w', InvS ops A k ι0 w0 a0 (listed.setIfInBounds i true) a' w' → K a' w') : wpOp P ops Q' i K a w := by
  have hok := hS.ok
  have hr := mem_ready.1 hi
  have hun : listed.getD i false = false := getD_both hr.1
  obtain ⟨_, o, ho, hall⟩ := hr
  have hin : i < ops.size := (Array.getElem?_eq_some_iff.1 ho).1
  have hdeps : ∀ j, bef ops i j = true → listed.getD j false = true := fun j hb => bef_spec h.head.closed hb ho hall
  have hag := h.agree hl hok hf hin ho hdeps hun
  have hopnd : ∀ x ∈ o.op.operands, (opnd (A i).t x).rel ι0 (a.eval x) := by
    intro x hx
    cases x with
    | tmp t => exact hag t (List.mem_append_left _ (List.mem_filterMap.2 ⟨.tmp t, by simpa using hx, rfl⟩))
    | const v => exact AV.rel_of0 (absV_rel _ v)
    | global g => trivial
    | func f => rfl
  obtain ⟨c, hc, hcl, hst⟩ := h.cut
  have his : i < listed.size := by rw [h.head.size]; exact hin
  unfold wpOp
  simp only [ho]
  rw [show Region.wanted o (yielded ops a.tmps) = true by unfold Region.wanted; rw [hS.guard i o ho], if_pos rfl]
  refine .inl ?_
  unfold Oper.wp
  cases hs : isStore o with
  | false =>
    obtain ⟨hv, hstep⟩ := hl.pure i o ho hs
    obtain ⟨u, hu, hrel⟩ := evVal_sound hv (dead_R (w := w) hR0.dom) hopnd
    rw [hu]
    refine hK _ _ (h.next hok hi ho ⟨c, hc, fun i' o' ho' hs' => ?_, hst⟩ fun d hd => ?_)
    · have hne : i ≠ i' := fun e => by subst e; rw [ho] at ho'; cases ho'; rw [hs] at hs'; cases hs'
      rw [getD_set_ne false hne]
      exact hcl i' o' ho' hs'
    · rw [hstep]
      show (putT (A i).t o.dst (V i) d).rel _ _
      rw [hd]
      show (upd (A i).t d (V i) d).rel _ _
      rw [upd_eq]
      exact hrel
  | true =>
    obtain ⟨v, m', hv, hlen, hstep⟩ := hl.store i o ho hs
    have hci : c ≤ i := by
      have := (hcl i o ho hs).2
      rcases Nat.lt_or_ge i c with h' | h'
      · rw [this h'] at hun; cases hun
      · exact h'
    have hm : (A i).m = (A c).m := by
      refine hl.mem' hci (Nat.le_of_lt hin) fun l o' h1 h2 ho' => ?_
      cases hs' : isStore o' with
      | false => rfl
      | true =>
        have := (hcl l o' ho' hs').1 (hdeps l (hS.chain l i o' o h2 ho' ho hs' hs))
        omega
    rw [← hm] at hst
    obtain ⟨u, w', ι', hrun, hrel, hst2⟩ := evMem_sound hv hst.r hopnd
    have hii : ι' = ι0 := by
      funext b
      rcases Nat.lt_or_ge b (A i).m.length with hb | hb
      · exact hst2.ext b hb
      · rw [hst2.r.dom b (by rw [hlen]; exact hb), hst.r.dom b hb]
    subst hii
    have hst3 : Step k ι' (A 0).m w0 ι' (A (i + 1)).m w' := by
      rw [hstep]
      exact hst.comp (hst2.low (by rw [hl.len i (Nat.le_of_lt hin)]; exact hk))
    have fin : ∀ u : Value, K (a.put o.dst u) w' := fun u => by
      refine hK _ _ (h.next hok hi ho ⟨i + 1, hin, fun i' o' ho' hs' => ?_, hst3⟩ fun d hd => ?_)
      · by_cases hne : i = i'
        · subst hne; simp [his]
        · rw [getD_set_ne false hne]
          constructor
          · intro hli
            rcases Nat.lt_or_ge i' (i + 1) with h' | h'
            · exact h'
            · have := bef_spec h.head.closed (hS.chain i i' o o' (by omega) ho ho' hs hs') ho' (h.head.closed i' o' ho' hli)
              rw [hun] at this; cases this
          · intro hlt
            exact hdeps i' (hS.chain i' i o' o (by omega) ho' ho hs' hs)
      · rw [hS.dst i o ho hs] at hd; cases hd
    rcases hrun with hrun | ⟨hrun, rfl⟩
    · rw [hrun]; exact fin u
    · rw [hrun]; exact fin undef
theorem InvS.any {Q' : Exit → Act → World → Prop} (hl : LineS P ops A V N0) {k : Nat} {ι0 : Emb} {w0 : World} {a0 : Act} (hS : OkS ops a0.tmps.size) (hf : FRel ι0 (A 0) a0) (hR0 : R ι0 (A 0).m w0) (hk : k ≤ (A 0).m.length)
    (hQ : ∀ a' w', FRel ι0 (A ops.size) a' → a'.defers = a0.defers → Step k ι0 (A 0).m w0 ι0 (A ops.size).m w' → Q' .normal a' w') :
    ∀ (f : Nat) (un : List Nat) (listed : Array Bool) (a : Act) (w : World), un.length = f → un.Nodup → (∀ j, j ∈ un ↔ j < ops.size ∧ listed.getD j false = false) → InvS ops A k ι0 w0 a0 listed a w → wpAny P .any ops Q' f listed a w := by
  have hok := hS.ok
  intro f
  induction f with
  | zero =>
    intro un listed a w hlu _ hun h
    obtain rfl : un = [] := List.length_eq_zero_iff.1 hlu
    have hdone : ∀ j, j < ops.size → listed.getD j false = true := fun j hj => by
      cases hb : listed.getD j false with
      | true => rfl
      | false => have := (hun j).2 ⟨hj, hb⟩; simp at this
    have hnil : Region.ready .any ops listed = [] := by
      cases hr : Region.ready .any ops listed with
      | nil => rfl
      | cons x xs =>
        have hx : x ∈ Region.ready .any ops listed := by rw [hr]; exact List.mem_cons_self
        obtain ⟨h1, o, ho, _⟩ := mem_ready.1 hx
        have := hdone x (Array.getElem?_eq_some_iff.1 ho).1
        rw [getD_both h1] at this; cases this
    refine ⟨hnil, ?_⟩
    obtain ⟨c, hc, hcl, hst⟩ := h.cut
    have hm : (A ops.size).m = (A c).m := by
      refine hl.mem' hc (Nat.le_refl _) fun l o' h1 h2 ho' => ?_
      cases hs' : isStore o' with
      | false => rfl
      | true => have := (hcl l o' ho' hs').1 (hdone l h2); omega
    rw [← hm] at hst
    have hnn : (A ops.size).n = N0 := by
      cases hz : ops.size with
      | zero => exact hl.h0
      | succ z =>
        have hlt : z < ops.size := by omega
        have ho : ops[z]? = some (ops[z]'hlt) := Array.getElem?_eq_getElem hlt
        cases hs : isStore (ops[z]'hlt) with
        | true => obtain ⟨v, m', _, _, e⟩ := hl.store z _ ho hs; rw [e]
        | false => obtain ⟨_, e⟩ := hl.pure z _ ho hs; rw [e]
    refine hQ a w ⟨by rw [h.size, hf.size, hl.h0, hnn], fun t => ?_⟩ h.defers hst
    by_cases hex : ∃ j, j < ops.size ∧ dstAt ops j = some t
    · obtain ⟨j, hj, hd⟩ := hex
      rw [hl.slot' (i := j + 1) (by omega) (Nat.le_refl _) (fun l h1 h2 hd' => by have := hok.uniq l j t (by omega) hj hd' hd; omega)]
      exact h.hit j hj (hdone j hj) t hd
    · have hno : ∀ j, j < ops.size → dstAt ops j ≠ some t := fun j hj hd => hex ⟨j, hj, hd⟩
      rw [h.miss t (fun j hj _ => hno j hj), hl.slot' (i := 0) (Nat.zero_le _) (Nat.le_refl _) (fun l _ h2 => hno l (by omega))]
      exact hf.rel t
  | succ f ih =>
    intro un listed a w hlu hnd hun h
    refine ⟨fun hnil => ?_, fun i hi => ?_⟩
    · obtain ⟨i0, hi0⟩ : ∃ i0, i0 ∈ un := by cases un with | nil => simp at hlu | cons x _ => exact ⟨x, List.mem_cons_self⟩
      have least : ∀ m i, i ≤ m → i ∈ un → ∃ j, j ∈ Region.ready .any ops listed := by
        intro m
        induction m with
        | zero =>
          intro i him hiu
          obtain ⟨hin, hb⟩ := (hun i).1 hiu
          refine ⟨i, mem_ready.2 ⟨getD_in (by rw [h.head.size]; exact hin) hb, ops[i]'hin, Array.getElem?_eq_getElem hin, fun e he hbind => ?_⟩⟩
          have := hS.back i _ e (Array.getElem?_eq_getElem hin) he hbind
          omega
        | succ m ihm =>
          intro i him hiu
          obtain ⟨hin, hb⟩ := (hun i).1 hiu
          by_cases hall : ∀ e ∈ (ops[i]'hin).after, Region.binds .any e = true → listed.getD e.on false = true
          · exact ⟨i, mem_ready.2 ⟨getD_in (by rw [h.head.size]; exact hin) hb, _, Array.getElem?_eq_getElem hin, hall⟩⟩
          · have : ∃ e ∈ (ops[i]'hin).after, Region.binds .any e = true ∧ listed.getD e.on false = false := by
              apply Classical.byContradiction
              intro hc
              apply hall
              intro e he hbind
              cases hlb : listed.getD e.on false with
              | true => rfl
              | false => exact absurd ⟨e, he, hbind, hlb⟩ hc
            obtain ⟨e, he, hbind, hlb⟩ := this
            have hlt := hS.back i _ e (Array.getElem?_eq_getElem hin) he hbind
            exact ihm e.on (by omega) ((hun e.on).2 ⟨by omega, hlb⟩)
      obtain ⟨j, hj⟩ := least i0 i0 (Nat.le_refl _) hi0
      rw [hnil] at hj; cases hj
    · obtain ⟨hun0, o, ho, _⟩ := mem_ready.1 hi
      have hin : i < ops.size := (Array.getElem?_eq_some_iff.1 ho).1
      refine h.run hl hS hf hR0 hk hi fun a' w' h' => ?_
      have himem : i ∈ un := (hun i).2 ⟨hin, getD_both hun0⟩
      refine ih (un.erase i) _ a' w' (by rw [List.length_erase_of_mem himem, hlu]; rfl) (hnd.erase i) (fun j => ?_) h'
      rw [hnd.mem_erase_iff, hun j]
      by_cases hji : j = i
      · subst hji
        have his : j < listed.size := by rw [h.head.size]; exact hin
        simp [his]
      · rw [getD_set_ne false (fun e => hji e.symm)]
        simp [hji]
theorem stores_sound {Q : Exit → Act → World → Prop} {id k : Nat} (hm : P.follows .mixedOrders = true) (hl : LineS P ops A V (A 0).n) (hall : Region.okStores ops (A 0).n = true) {ι : Emb} {w : World} {a : Act} (hf : FRel ι (A 0) a) (hR : R ι (A 0).m w) (hk : k ≤ (A 0).m.length)
    (hQ : ∀ a' w', FRel ι (A ops.size) a' → a'.defers = a.defers → Step k ι (A 0).m w ι (A ops.size).m w' → Q .normal a' w') : (Code.region id ops true).wp P Q a w := by
  refine wp_region_any hm ?_
  have hRd : R ι (A 0).m w.drew := ⟨hR.dom, hR.rows, hR.inj⟩
  have hinv : InvS ops A k ι w.drew a (Array.replicate ops.size false) a w.drew :=
    ⟨⟨0, Nat.zero_le _, fun i o _ _ => by rw [getD_replicate_false]; simp, Step.refl hRd hk⟩, fun j _ hl => (by rw [getD_replicate_false] at hl; cases hl), fun _ _ => rfl, rfl, rfl,
      ⟨by simp, fun j oj _ hl => (by rw [getD_replicate_false] at hl; cases hl), fun t ht ht' => by omega⟩⟩
  exact InvS.any (Q' := Q) hl (Region.okStores_spec (by rw [hf.size]; exact hall)) hf hRd hk
    (fun a' w' h1 h2 h3 => hQ a' w' h1 h2 ⟨h3.r, ⟨h3.trans.os, h3.trans.tape, h3.trans.output, h3.trans.size, h3.trans.keep, h3.trans.fresh⟩, h3.ext, h3.len, h3.ro, h3.old, h3.news⟩) ops.size (List.range ops.size) _ _ _ (by simp) List.nodup_range (fun j => by rw [getD_replicate_false]; simp) hinv
end
end Go.Proofs.Ytlnekohkbhidnaa
