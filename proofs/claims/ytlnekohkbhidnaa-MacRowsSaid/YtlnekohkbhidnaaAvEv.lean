/- Abstract data: what a function of the program answers, told by rules; and that the machine answers so. -/
import Derived.Test.YtlnekohkbhidnaaAvCanon
import Derived.Test.YtlnekohkbhidnaaAvReg
import Derived.Scope
namespace Go.Proofs.Ytlnekohkbhidnaa
open Go.RowKit

structure St where
  n : Nat
  t : Nat → AV
  m : Mem
def upd (t : Nat → AV) (d : Nat) (v : AV) : Nat → AV := fun i => if i = d then v else t i
theorem upd_eq (t : Nat → AV) (d : Nat) (v : AV) : upd t d v d = v := if_pos rfl
theorem upd_ne (t : Nat → AV) {d i : Nat} (v : AV) (h : i ≠ d) : upd t d v i = t i := if_neg h
def putT (t : Nat → AV) (d : Option Tmp) (v : AV) : Nat → AV := match d with | none => t | some d => upd t d v
def dstOk (n : Nat) : Option Tmp → Bool
  | none => true
  | some d => decide (d < n)
def evWanted (ops : Array Oper) (t : Nat → AV) (o : Oper) : Option Bool :=
  match o.guard with
  | none => some true
  | some (j, want) => match (ops[j]?).bind (·.dst) with
    | some d => match t d with
      | .c (.val (.bool b)) => some (b == want)
      | _ => none
    | none => none
def noT : Nat → AV := fun _ => .c .any
def keepT : List Nat → List AV → Nat → AV
  | x :: ks, v :: vs => upd (keepT ks vs) x v
  | _, _ => noT
/-- Names made anew; only the slots in 'keep' are known on. -/
def clean (k : Nat) (keep : List Nat) (s : St) : Option St :=
  match canon k (keep.map s.t) s.m with
  | some (vs, m, _) => some ⟨s.n, keepT keep vs, m⟩
  | none => none
def backRows (bs : List Nat) (mc : Mem) (ρ : Nat → Option Nat) : Nat → Mem → Mem
  | _, [] => []
  | i, .row true x :: l => (match idx i bs 0 with | some j => (mc.getD j .dead).ren ρ | none => .row true x) :: backRows bs mc ρ (i + 1) l
  | i, r :: l => r :: backRows bs mc ρ (i + 1) l
def backRen (bs : List Nat) (n : Nat) (i : Nat) : Option Nat := if i < bs.length then bs[i]? else some (i - bs.length + n)
/-- What a call leaves, under the caller's names. -/
def linkOut (bs : List Nat) (m : Mem) (v : AV) (mc : Mem) : AV × Mem :=
  (v.ren (backRen bs m.length), backRows bs mc (backRen bs m.length) 0 m ++ (mc.drop bs.length).map (Row.ren (backRen bs m.length)))
def argT (args : List AV) (i : Nat) : AV := args.getD i (.c .any)
def resOne (P : Program) (s : St) : ResultVar → Option AV
  | .tmp t => match s.t t with
    | .tup _ => none
    | v => some v
  | .cell a ty => match s.t a with
    | .c (.ptr b o) => match s.m[b]? with
      | some (.row _ x) => partA P ty x o
      | _ => none
    | _ => none
def resList (P : Program) (s : St) : List ResultVar → Option (List AV)
  | [] => some []
  | r :: l => match resOne P s r, resList P s l with
    | some v, some vs => some (v :: vs)
    | _, _ => none
def resV : List AV → AV
  | [v] => v
  | vs => .tup vs
structure ExtIs (P : Program) (f : FuncId) (e : Array Value → Sem Value) : Prop where
  h : ∃ fn, P.funcs[f]? = some fn ∧ (fn.name == "runtime.NumGoroutine") = false ∧ fn.body.isNone = true ∧ Extern.findNext fn = none ∧ Extern.find fn = some e
def roRow : Row → Row
  | .row _ x => .row false x
  | .dead => .dead
def roMem (m : Mem) : Mem := m.map roRow

def isStore (o : Oper) : Bool := match o.op with | .store .. => true | _ => false
def deadMem (n : Nat) : Mem := List.replicate n .dead
def Region.okStores (ops : Array Oper) (size : Nat) : Bool :=
  Region.okX ops ops.size size && (List.range ops.size).all fun i => match ops[i]? with
    | some o => o.guard.isNone && (!isStore o || (o.dst.isNone && (List.range ops.size).all fun j => match ops[j]? with | some o' => !isStore o' || !decide (i < j) || bef ops j i | none => true)) && o.after.all fun e => !Region.binds .any e || decide (e.on < i)
    | none => true

/-- Less is known: rows under other names, a nil slice as an empty piece of some row. -/
def noRen : Nat → Option Nat := fun _ => none
inductive WeakC (ρ : Nat → Option Nat) : Cell → Cell → Prop
  | same {x : Cell} (h : x.ren noRen = x) : WeakC ρ x x
  | ptr {b b' o : Nat} (h : ρ b' = some b) : WeakC ρ (.ptr b o) (.ptr b' o)
  | sl {b b' o len cap sz : Nat} (h : ρ b' = some b) : WeakC ρ (.sl b o len cap sz) (.sl b' o len cap sz)
  | nil {b' sz : Nat} : WeakC ρ .nsl (.sl b' 0 0 0 sz)
  | emp {b' sz : Nat} : WeakC ρ .esl (.sl b' 0 0 0 sz)
inductive WeakL (ρ : Nat → Option Nat) : List AV → List AV → Prop
  | nil : WeakL ρ [] []
  | c {x y : Cell} {l m : List AV} (h : WeakC ρ x y) (hl : WeakL ρ l m) : WeakL ρ (.c x :: l) (.c y :: m)
  | agg {x : Arr} {l m : List AV} (h : x.ren noRen = x) (hl : WeakL ρ l m) : WeakL ρ (.agg x :: l) (.agg x :: m)
def viewRen (ρ : Nat → Option Nat) (n m j : Nat) : Option Nat := if j < n then ρ j else some (j - n + m)
inductive Ex where
  | normal
  | exit (id : Nat)
  | ret
inductive Task where
  | op (o : Op) (e : Operand → AV) (m : Mem)
  | ops (k : Nat) (ops : Array Oper) (l : List Oper) (s : St)
  | code (k : Nat) (c : Code) (s : St)
  | call (f : FuncId) (args : List AV) (m : Mem)
inductive Res where
  | val (v : AV) (m : Mem)
  | out (e : Ex) (s : St)
def Ex.block (id : Nat) : Ex → Ex
  | .exit i => if i = id then .normal else .exit i
  | e => e
def addC (x y c : BitVec 64) : BitVec 64 := BitVec.ofNat 64 ((x.toNat + y.toNat + c.toNat) / 18446744073709551616)
def subC (x y c : BitVec 64) : BitVec 64 := if x.toNat < y.toNat + c.toNat then 1#64 else 0#64
def ev64 (f : BitVec 64 → BitVec 64 → BitVec 64 → AV) : List AV → Option AV
  | [.c (.val a), .c (.val b), .c (.val c)] => match w64? a, w64? b, w64? c with
    | some x, some y, some z => if z.toNat ≤ 1 then some (f x y z) else none
    | _, _, _ => none
  | _ => none
def addAV (x y c : BitVec 64) : AV := .tup [.c (.val (U64 (x + y + c))), .c (.val (U64 (addC x y c)))]
def subAV (x y c : BitVec 64) : AV := .tup [.c (.val (U64 (x - y - c))), .c (.val (U64 (subC x y c)))]
def sub64Entry : Array Value → Sem Value := fun args => do
  let (x, y, b) ← Extern.MathBitsCarry.three "Sub64" args
  pure (Extern.MathBitsCarry.pair ((x + Extern.MathBitsCarry.m64 - y - b) % Extern.MathBitsCarry.m64) (if x < y + b then 1 else 0))

/-! ### Frames -/
structure FRel (ι : Emb) (s : St) (a : Act) : Prop where
  size : a.tmps.size = s.n
  rel : ∀ t, (s.t t).rel ι (a.tmps.getD t undef)
theorem FRel.mono {ι ι' : Emb} {s : St} {a : Act} (h : FRel ι s a) (hle : ι.le ι') (m : Mem) : FRel ι' ⟨s.n, s.t, m⟩ a := ⟨h.size, fun t => AV.rel_mono hle (h.rel t)⟩
theorem getD_put (a : Act) (d t : Nat) (v : Value) (hd : d < a.tmps.size) : (a.put (some d) v).tmps.getD t undef = if t = d then v else a.tmps.getD t undef := by
  simp only [Act.put, Array.getD_eq_getD_getElem?, Array.getElem?_setIfInBounds]
  by_cases e : d = t
  · subst e; simp [hd]
  · rw [if_neg e, if_neg (fun h => e h.symm)]
theorem FRel.put {ι : Emb} {s : St} {a : Act} (h : FRel ι s a) {d : Option Tmp} {v : AV} {u : Value} (hd : dstOk s.n d = true) (hv : v.rel ι u) (m : Mem) : FRel ι ⟨s.n, putT s.t d v, m⟩ (a.put d u) := by
  cases d with
  | none => exact ⟨h.size, h.rel⟩
  | some d =>
    simp only [dstOk, decide_eq_true_eq] at hd
    refine ⟨by simp [Act.put, h.size], fun t => ?_⟩
    rw [getD_put a d t u (by rw [h.size]; exact hd)]
    show (upd s.t d v t).rel ι _
    by_cases e : t = d
    · subst e; rw [upd_eq, if_pos rfl]; exact hv
    · rw [upd_ne _ _ e, if_neg e]; exact h.rel t
theorem opnd_rel {ι : Emb} {s : St} {a : Act} (h : FRel ι s a) (x : Operand) : (opnd s.t x).rel ι (a.eval x) := by
  cases x with
  | tmp t => exact h.rel t
  | const v => exact AV.rel_of0 (absV_rel ι v)
  | global g => trivial
  | func f => rfl
theorem wanted_rel {ι : Emb} {t : Nat → AV} {a : Act} {ops : Array Oper} {o : Oper} {b : Bool} (h : ∀ d, (∃ g, o.guard = some g ∧ (ops[g.1]?).bind (·.dst) = some d) → (t d).rel ι (a.tmps.getD d undef)) (hw : evWanted ops t o = some b) : Region.wanted o (yielded ops a.tmps) = b := by
  unfold evWanted at hw
  unfold Region.wanted
  split at hw
  · rename_i hg; rw [hg]; cases hw; rfl
  · rename_i j want hg
    rw [hg]
    split at hw
    · rename_i d hd
      split at hw
      · rename_i x hx
        cases hw
        have := h d ⟨_, hg, hd⟩
        rw [hx] at this
        have hv : a.tmps.getD d undef = .bool x := this
        have hs : a.tmps[d]? = some (.bool x) := by
          rw [Array.getD_eq_getD_getElem?] at hv
          cases he : a.tmps[d]? with
          | none => rw [he] at hv; simp [undef] at hv
          | some y => rw [he] at hv; simp at hv; rw [hv]
        unfold yielded
        simp only [hd, Option.bind_some, hs]
        cases x <;> cases want <;> rfl
      · cases hw
    · cases hw

/-! ### What the rules say of the machine -/
def OpGood (P : Program) (ρ : Operand → Value) (O : Oper) (ι : Emb) (m : Mem) (w : World) (v : AV) (m' : Mem) : Prop :=
  OpOk P ι m w v m' (execOp ρ O) ∨ ∃ f args, (execOp ρ O).run P w = .ok (.enter f args) w ∧ Calls P f args w fun e w' => ∃ u ι', e = .returned u ∧ v.rel ι' u ∧ Step m.length ι m w ι' m' w'
def Ex.out : Ex → Exit
  | .normal => .normal
  | .exit id => .exit id
  | .ret => .ret
def ArgsRel (ι : Emb) : List AV → List Value → Prop
  | [], [] => True
  | a :: l, v :: m => a.rel ι v ∧ ArgsRel ι l m
  | _, _ => False
inductive Ev (P : Program) : Task → Res → Prop
  | val {o e m v} (h : evVal P e m o = some v) : Ev P (.op o e m) (.val v m)
  | mem {o e m v m'} (h : evMem P e m o = some (v, m')) : Ev P (.op o e m) (.val v m')
  | fn {c : Call} {e m args mc bs v mc'} (f : FuncId) (hc : c.callee = .value (.func f)) (he : e (.func f) = .c (.val (.func (.func f) #[] #[]))) (hf : (P.funcs[f]?).any (fun fn => fn.body.isSome && !(fn.name == "runtime.NumGoroutine")) = true) (hin : canon 0 (c.args.toList.map e) m = some (args, mc, bs))
      (h : Ev P (.call f args mc) (.val v mc')) : Ev P (.op (.call c) e m) (.val (linkOut bs m v mc').1 (linkOut bs m v mc').2)
  | add64 {c : Call} {e m v} (f : FuncId) (hc : c.callee = .value (.func f)) (he : e (.func f) = .c (.val (.func (.func f) #[] #[]))) (hf : ExtIs P f add64Entry) (h : ev64 addAV (c.args.toList.map e) = some v) : Ev P (.op (.call c) e m) (.val v m)
  | sub64 {c : Call} {e m v} (f : FuncId) (hc : c.callee = .value (.func f)) (he : e (.func f) = .c (.val (.func (.func f) #[] #[]))) (hf : ExtIs P f sub64Entry) (h : ev64 subAV (c.args.toList.map e) = some v) : Ev P (.op (.call c) e m) (.val v m)
  | ro {o e m v N} (h : Ev P (.op o e (roMem m)) (.val v (roMem m ++ N))) : Ev P (.op o e m) (.val v (m ++ N))
  | nil {k ops s} : Ev P (.ops k ops [] s) (.out .normal s)
  | cons {k ops o l s v m' r} (hw : evWanted ops s.t o = some true) (hd : dstOk s.n o.dst = true) (h : Ev P (.op o.op (opnd s.t) s.m) (.val v m')) (hk : Ev P (.ops k ops l ⟨s.n, putT s.t o.dst v, m'⟩) (.out .normal r)) : Ev P (.ops k ops (o :: l) s) (.out .normal r)
  | skip {k ops o l s r} (hw : evWanted ops s.t o = some false) (hd : dstOk s.n o.dst = true) (hk : Ev P (.ops k ops l ⟨s.n, putT s.t o.dst (.c .any), s.m⟩) (.out .normal r)) : Ev P (.ops k ops (o :: l) s) (.out .normal r)
  | region {k id ops s r} (h : Ev P (.ops k ops ops.toList s) (.out .normal r)) : Ev P (.code k (.region id ops false) s) (.out .normal r)
  | draw {k id ops s r} (n : Nat) (A : Nat → St) (W : Nat → Bool) (V : Nat → AV) (N : Nat → Mem) (hm : P.follows .mixedOrders = true) (hok : Region.okAll ops n s.n = true) (hA : A 0 = s)
      (hW : ∀ i o, i < n → ops[i]? = some o → evWanted ops (A i).t o = some (W i))
      (hV : ∀ i o, i < n → ops[i]? = some o → W i = true → Ev P (.op o.op (opnd (A i).t) (roMem (A i).m)) (.val (V i) (roMem (A i).m ++ N i)))
      (hS : ∀ i o, i < n → ops[i]? = some o → A (i + 1) = if W i = true then ⟨s.n, putT (A i).t o.dst (V i), (A i).m ++ N i⟩ else ⟨s.n, putT (A i).t o.dst (.c .any), (A i).m⟩)
      (hk : Ev P (.ops k ops (ops.toList.drop n) (A n)) (.out .normal r)) : Ev P (.code k (.region id ops true) s) (.out .normal r)
  | stores {k id ops s} (A : Nat → St) (V : Nat → AV) (hm : P.follows .mixedOrders = true) (hok : Region.okStores ops s.n = true) (hA : A 0 = s)
      (hP : ∀ i o, ops[i]? = some o → isStore o = false → evVal P (opnd (A i).t) (deadMem s.m.length) o.op = some (V i) ∧ A (i + 1) = ⟨s.n, putT (A i).t o.dst (V i), (A i).m⟩)
      (hS : ∀ i o, ops[i]? = some o → isStore o = true → ∃ v m', evMem P (opnd (A i).t) (A i).m o.op = some (v, m') ∧ m'.length = (A i).m.length ∧ A (i + 1) = ⟨s.n, (A i).t, m'⟩) : Ev P (.code k (.region id ops true) s) (.out .normal (A ops.size))
  | clean {k c s s1 r} (keep : List Nat) (hc : clean k keep s = some s1) (h : Ev P (.code k c s1) r) : Ev P (.code k c s) r
  | tidy {k c s e s1 s2} (keep : List Nat) (h : Ev P (.code k c s) (.out e s1)) (hc : clean k keep s1 = some s2) : Ev P (.code k c s) (.out e s2)
  | cskip {k s} : Ev P (.code k .skip s) (.out .normal s)
  | label {k s l} : Ev P (.code k (.label l) s) (.out .normal s)
  | seq {k a b s s1 r} (h1 : Ev P (.code k a s) (.out .normal s1)) (h2 : Ev P (.code k b s1) r) : Ev P (.code k (.seq a b) s) r
  | seqx {k a b s s1 e} (h1 : Ev P (.code k a s) (.out e s1)) (he : e ≠ .normal) : Ev P (.code k (.seq a b) s) (.out e s1)
  | cond {k c a b s r} (t : Bool) (hc : opnd s.t c = .c (.val (.bool t))) (h : Ev P (.code k (if t then a else b) s) r) : Ev P (.code k (.cond c a b) s) r
  | block {k id c s s1 e} (h : Ev P (.code k c s) (.out e s1)) : Ev P (.code k (.block id c) s) (.out (e.block id) s1)
  | loop {k c s s1 r} (h1 : Ev P (.code k c s) (.out .normal s1)) (h2 : Ev P (.code k (.loop c) s1) r) : Ev P (.code k (.loop c) s) r
  | loopx {k c s s1 e} (h1 : Ev P (.code k c s) (.out e s1)) (he : e ≠ .normal) : Ev P (.code k (.loop c) s) (.out e s1)
  | exit {k id s} : Ev P (.code k (.exit id) s) (.out (.exit id) s)
  | ret {k s} : Ev P (.code k .ret s) (.out .ret s)
  | scope {k c s s1 e} (h : Ev P (.code k c s) (.out e s1)) : Ev P (.code k (.scope c) s) (.out e s1)
  | view {f args m args' m' v N} (ρ : Nat → Option Nat) (hρ : ∀ j i, ρ j = some i → j < m'.length ∧ ∃ own x, m[i]? = some (.row own x) ∧ m'[j]? = some (.row false x) ∧ x.ren noRen = x) (ha : WeakL ρ args args')
      (h : Ev P (.call f args' m') (.val v (m' ++ N))) : Ev P (.call f args m) (.val (v.ren (viewRen ρ m'.length m.length)) (m ++ N.map (Row.ren (viewRen ρ m'.length m.length))))
  | call {f fn c args m e s' vs v m' ids} (hf : P.funcs[f]? = some fn) (hb : fn.body = some c) (hn : args.length ≤ fn.ntmps) (h : Ev P (.code m.length c ⟨fn.ntmps, argT args, m⟩) (.out e s')) (he : e = .normal ∨ e = .ret)
      (hres : resList P s' fn.results.toList = some vs) (hcan : canon m.length [resV vs] s'.m = some ([v], m', ids)) : Ev P (.call f args m) (.val v m')
  | weak {k c s s1 r} (hw : ∀ (ι : Emb) (w : World) (a : Act), k ≤ s.m.length → R ι s.m w → FRel ι s a → ∃ ι', FRel ι' s1 a ∧ Step k ι s.m w ι' s1.m w) (h : Ev P (.code k c s1) r) : Ev P (.code k c s) r
  | sem {o e m v m'} (h : ∀ (O : Oper) (ι : Emb) (w : World) (ρ : Operand → Value), O.op = o → R ι m w → (∀ x ∈ o.operands, (e x).rel ι (ρ x)) → OpGood P ρ O ι m w v m') : Ev P (.op o e m) (.val v m')
  | semF {f args m v m'} (h : ∀ (ι : Emb) (w : World) (vs : Array Value), R ι m w → ArgsRel ι args vs.toList → Calls P f vs w fun e w' => ∃ u ι', e = .returned u ∧ v.rel ι' u ∧ Step m.length ι m w ι' m' w') : Ev P (.call f args m) (.val v m')

/-- A loop from the round on. -/
def LoopAt (P : Program) (c : Code) (Q : Exit → Act → World → Prop) (a : Act) (w : World) : Prop :=
  ∀ (b : Frame) (k : List Item) (cs : List Frame), ∃ e a' w', Q e a' w' ∧ Arrives P (lone (b.at a (.code c :: .inLoop c :: k)) cs w) b k cs e a' w'
def wpC (P : Program) (c : Code) (Q : Exit → Act → World → Prop) (a : Act) (w : World) : Prop :=
  match c with
  | .loop c => LoopAt P c Q a w
  | c => c.wp P Q a w
theorem wpC_wp {P : Program} {c : Code} {Q : Exit → Act → World → Prop} {a : Act} {w : World} (h : wpC P c Q a w) : c.wp P Q a w := by
  cases c with
  | loop c => intro b k cs; obtain ⟨e, a', w', q, r⟩ := h b k cs; exact ⟨e, a', w', q, .of_steps (.one step_loop) r⟩
  | _ => exact h
theorem loopAt_next {P : Program} {c : Code} {Q : Exit → Act → World → Prop} {a : Act} {w : World} (h : c.wp P (Exit.then (LoopAt P c Q) Q) a w) : LoopAt P c Q a w := by
  intro b k cs
  obtain ⟨e, a₁, w₁, hq, harr⟩ := h b (.inLoop c :: k) cs
  cases e with
  | normal =>
    obtain ⟨e₂, a₂, w₂, hq₂, harr₂⟩ := hq b k cs
    exact ⟨e₂, a₂, w₂, hq₂, .of_steps (Steps.trans harr (.one step_inLoop)) harr₂⟩
  | exit id => exact ⟨_, a₁, w₁, hq, .pass (x := .inLoop c) rfl (fun _ _ => .inl (by simp)) harr⟩
  | goto l => exact ⟨_, a₁, w₁, hq, .pass (x := .inLoop c) rfl (fun _ _ => .inl (by simp)) harr⟩
  | ret => exact ⟨_, a₁, w₁, hq, .pass (x := .inLoop c) rfl (fun _ _ => .inl (by simp)) harr⟩
  | panic ch => exact ⟨_, a₁, w₁, hq, .pass (x := .inLoop c) rfl (fun _ _ => .inl (by simp)) harr⟩
  | outgrown => exact ⟨_, a₁, w₁, hq, .pass (x := .inLoop c) rfl (fun _ _ => .inl (by simp)) harr⟩
def Sound (P : Program) : Task → Res → Prop
  | .op o e m, .val v m' => ∀ (O : Oper) (ι : Emb) (w : World) (ρ : Operand → Value), O.op = o → R ι m w → (∀ x ∈ o.operands, (e x).rel ι (ρ x)) → OpGood P ρ O ι m w v m'
  | .ops k ops l s, .out e s' => e = .normal → ∀ (ι : Emb) (w : World) (a : Act), k ≤ s.m.length → R ι s.m w → FRel ι s a → ∀ Q : Exit → Act → World → Prop,
      (∀ ι' a' w', FRel ι' s' a' → a'.defers = a.defers → Step k ι s.m w ι' s'.m w' → Q .normal a' w') → wpList P ops Q l a w
  | .code k c s, .out e s' => ∀ (ι : Emb) (w : World) (a : Act), k ≤ s.m.length → R ι s.m w → FRel ι s a → ∀ Q : Exit → Act → World → Prop,
      (∀ ι' a' w', FRel ι' s' a' → a'.defers = a.defers → Step k ι s.m w ι' s'.m w' → Q e.out a' w') → wpC P c Q a w
  | .call f args m, .val v m' => ∀ (ι : Emb) (w : World) (vs : Array Value), R ι m w → ArgsRel ι args vs.toList → Calls P f vs w fun e w' => ∃ u ι', e = .returned u ∧ v.rel ι' u ∧ Step m.length ι m w ι' m' w'
  | _, _ => True
theorem OpGood.wp {P : Program} {ρ : Operand → Value} {O : Oper} {ι : Emb} {m m' : Mem} {w : World} {v : AV} {a : Act} (ha : ρ = a.eval) (h : OpGood P ρ O ι m w v m') {K : Act → World → Prop} {Q : Exit → Act → World → Prop}
    (hK : ∀ u w' ι', v.rel ι' u → Step m.length ι m w ι' m' w' → K (a.put O.dst u) w') : O.wp P a w K Q := by
  subst ha
  unfold Oper.wp
  rcases h with ⟨u, w', ι', hr, hv, hs⟩ | ⟨f, args, hr, hc⟩
  · rcases hr with hr | ⟨hr, rfl⟩
    · rw [hr]; exact hK u w' ι' hv hs
    · rw [hr]; exact hK undef w' ι' hv hs
  · rw [hr]
    refine hc.mono fun e w' he => ?_
    obtain ⟨u, ι', rfl, hv, hs⟩ := he
    exact hK u w' ι' hv hs
end Go.Proofs.Ytlnekohkbhidnaa
