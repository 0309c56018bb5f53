/- The texts AvEv, AvLink, AvDraw, AvStores, AvView, AvSound, AvPart, AvTac, AvNum, merged into one. -/
import Derived.Test.YtcgncafhonlmlaaGT1
import Derived.Scope
namespace Go.Proofs.Ytcgncafhonlmlaa
open Go.RowKit
structure St where
  n : Nat
  t : Nat → AV
  m : Mem
def upd (t : Nat → AV) (d : Nat) (v : AV) : Nat → AV := fun i => if i = d then v else t i
theorem upd_eq (t : Nat → AV) (d : Nat) (v : AV) : upd t d v d = v := if_pos rfl
theorem upd_ne (t : Nat → AV) {d i : Nat} (v : AV) (h : i ≠ d) : upd t d v i = t i := if_neg h
def putT (t : Nat → AV) (d : Option Tmp) (v : AV) : Nat → AV := match d with | none => t | some d => upd t d v
def dstOk (n : Nat) : Option Tmp → Bool
  | none => true
  | some d => decide (d < n)
def evWanted (ops : Array Oper) (t : Nat → AV) (o : Oper) : Option Bool :=
  match o.guard with
  | none => some true
  | some (j, want) => match (ops[j]?).bind (·.dst) with
    | some d => match t d with
      | .c (.val (.bool b)) => some (b == want)
      | .c (.val (.tuple _)) => some false
      | _ => none
    | none => none
abbrev noV : AV := .c (.val undef)
def noT : Nat → AV := fun _ => .c .any
def keepT : List Nat → List AV → Nat → AV
  | x :: ks, v :: vs => upd (keepT ks vs) x v
  | _, _ => noT
def clean (k : Nat) (keep : List Nat) (s : St) : Option St :=
  match canon k (keep.map s.t) s.m with
  | some (vs, m, _) => some ⟨s.n, keepT keep vs, m⟩
  | none => none
def backRows (bs : List Nat) (mc : Mem) (ρ : Nat → Option Nat) : Nat → Mem → Mem
  | _, [] => []
  | i, .row true x :: l => (match idx i bs 0 with | some j => (mc.getD j .dead).ren ρ | none => .row true x) :: backRows bs mc ρ (i + 1) l
  | i, r :: l => r :: backRows bs mc ρ (i + 1) l
def backRen (bs : List Nat) (n : Nat) (i : Nat) : Option Nat := if i < bs.length then bs[i]? else some (i - bs.length + n)
def linkOut (bs : List Nat) (m : Mem) (v : AV) (mc : Mem) : AV × Mem :=
  (v.ren (backRen bs m.length), backRows bs mc (backRen bs m.length) 0 m ++ (mc.drop bs.length).map (Row.ren (backRen bs m.length)))
def argT (args : List AV) (i : Nat) : AV := args.getD i (.c .any)
def resOne (P : Program) (s : St) : ResultVar → Option AV
  | .tmp t => match s.t t with
    | .tup _ => none
    | v => some v
  | .cell a ty => match s.t a with
    | .c (.ptr b o) => match s.m[b]? with
      | some (.row _ x) => partA P ty x o
      | _ => none
    | _ => none
def resList (P : Program) (s : St) : List ResultVar → Option (List AV)
  | [] => some []
  | r :: l => match resOne P s r, resList P s l with
    | some v, some vs => some (v :: vs)
    | _, _ => none
def resV : List AV → AV
  | [v] => v
  | vs => .tup vs
structure ExtIs (P : Program) (f : FuncId) (e : Array Value → Sem Value) : Prop where
  h : ∃ fn, P.funcs[f]? = some fn ∧ (fn.name == "runtime.NumGoroutine") = false ∧ fn.body.isNone = true ∧ Extern.findNext fn = none ∧ Extern.find fn = some e
def roRow : Row → Row
  | .row _ x => .row false x
  | .dead => .dead
def roMem (m : Mem) : Mem := m.map roRow
def isStore (o : Oper) : Bool := match o.op with | .store .. => true | _ => false
def deadMem (n : Nat) : Mem := List.replicate n .dead
def Region.okStores (ops : Array Oper) (size : Nat) : Bool :=
  Region.okX ops ops.size size && (List.range ops.size).all fun i => match ops[i]? with
    | some o => o.guard.isNone && (!isStore o || (o.dst.isNone && (List.range ops.size).all fun j => match ops[j]? with | some o' => !isStore o' || !decide (i < j) || bef ops j i | none => true)) && o.after.all fun e => !Region.binds .any e || decide (e.on < i)
    | none => true
def early (ops : Array Oper) (i : Nat) : Bool := (List.range ops.size).all fun j => match ops[j]? with | some o' => !isStore o' || bef ops j i | none => true
def noRen : Nat → Option Nat := fun _ => none
inductive WeakC (ρ : Nat → Option Nat) : Cell → Cell → Prop
  | same {x : Cell} (h : x.ren noRen = x) : WeakC ρ x x
  | ptr {b b' o : Nat} (h : ρ b' = some b) : WeakC ρ (.ptr b o) (.ptr b' o)
  | sl {b b' o len cap sz : Nat} (h : ρ b' = some b) : WeakC ρ (.sl b o len cap sz) (.sl b' o len cap sz)
  | nil {b' sz : Nat} : WeakC ρ .nsl (.sl b' 0 0 0 sz)
  | emp {b' sz : Nat} : WeakC ρ .esl (.sl b' 0 0 0 sz)
inductive WeakL (ρ : Nat → Option Nat) : List AV → List AV → Prop
  | nil : WeakL ρ [] []
  | c {x y : Cell} {l m : List AV} (h : WeakC ρ x y) (hl : WeakL ρ l m) : WeakL ρ (.c x :: l) (.c y :: m)
  | agg {x : Arr} {l m : List AV} (h : x.ren noRen = x) (hl : WeakL ρ l m) : WeakL ρ (.agg x :: l) (.agg x :: m)
def viewRen (ρ : Nat → Option Nat) (n m j : Nat) : Option Nat := if j < n then ρ j else some (j - n + m)
inductive Ex where
  | normal
  | exit (id : Nat)
  | ret
inductive Task where
  | op (o : Op) (e : Operand → AV) (m : Mem)
  | ops (k : Nat) (ops : Array Oper) (l : List Oper) (s : St)
  | code (k : Nat) (c : Code) (s : St)
  | call (f : FuncId) (args : List AV) (m : Mem)
inductive Res where
  | val (v : AV) (m : Mem)
  | out (e : Ex) (s : St)
def Ex.block (id : Nat) : Ex → Ex
  | .exit i => if i = id then .normal else .exit i
  | e => e
def addC (x y c : BitVec 64) : BitVec 64 := BitVec.ofNat 64 ((x.toNat + y.toNat + c.toNat) / 18446744073709551616)
def subC (x y c : BitVec 64) : BitVec 64 := if x.toNat < y.toNat + c.toNat then 1#64 else 0#64
def ev64 (f : BitVec 64 → BitVec 64 → BitVec 64 → AV) : List AV → Option AV
  | [.c (.val a), .c (.val b), .c (.val c)] => match w64? a, w64? b, w64? c with
    | some x, some y, some z => if z.toNat ≤ 1 then some (f x y z) else none
    | _, _, _ => none
  | _ => none
def addAV (x y c : BitVec 64) : AV := .tup [.c (.val (U64 (x + y + c))), .c (.val (U64 (addC x y c)))]
def subAV (x y c : BitVec 64) : AV := .tup [.c (.val (U64 (x - y - c))), .c (.val (U64 (subC x y c)))]
def sub64Entry : Array Value → Sem Value := fun args => do
  let (x, y, b) ← Extern.MathBitsCarry.three "Sub64" args
  pure (Extern.MathBitsCarry.pair ((x + Extern.MathBitsCarry.m64 - y - b) % Extern.MathBitsCarry.m64) (if x < y + b then 1 else 0))
structure FRel (ι : Emb) (s : St) (a : Act) : Prop where
  size : a.tmps.size = s.n
  rel : ∀ t, (s.t t).rel ι (a.tmps.getD t undef)
theorem FRel.mono {ι ι' : Emb} {s : St} {a : Act} (h : FRel ι s a) (hle : ι.le ι') (m : Mem) : FRel ι' ⟨s.n, s.t, m⟩ a := ⟨h.size, fun t => AV.rel_mono hle (h.rel t)⟩
theorem getD_put (a : Act) (d t : Nat) (v : Value) (hd : d < a.tmps.size) : (a.put (some d) v).tmps.getD t undef = if t = d then v else a.tmps.getD t undef := by
  simp only [Act.put, Array.getD_eq_getD_getElem?, Array.getElem?_setIfInBounds]
  by_cases e : d = t
  · subst e; simp [hd]
  · rw [if_neg e, if_neg (fun h => e h.symm)]
theorem FRel.put {ι : Emb} {s : St} {a : Act} (h : FRel ι s a) {d : Option Tmp} {v : AV} {u : Value} (hd : dstOk s.n d = true) (hv : v.rel ι u) (m : Mem) : FRel ι ⟨s.n, putT s.t d v, m⟩ (a.put d u) := by
  cases d with
  | none => exact ⟨h.size, h.rel⟩
  | some d =>
    simp only [dstOk, decide_eq_true_eq] at hd
    refine ⟨by simp [Act.put, h.size], fun t => ?_⟩
    rw [getD_put a d t u (by rw [h.size]; exact hd)]
    show (upd s.t d v t).rel ι _
    by_cases e : t = d
    · subst e; rw [upd_eq, if_pos rfl]; exact hv
    · rw [upd_ne _ _ e, if_neg e]; exact h.rel t
theorem opnd_rel {ι : Emb} {s : St} {a : Act} (h : FRel ι s a) (x : Operand) : (opnd s.t x).rel ι (a.eval x) := by
  cases x with
  | tmp t => exact h.rel t
  | const v => exact AV.rel_of0 (absV_rel ι v)
  | global g => trivial
  | func f => rfl
theorem wanted_rel {ι : Emb} {t : Nat → AV} {a : Act} {ops : Array Oper} {o : Oper} {b : Bool} (h : ∀ d, (∃ g, o.guard = some g ∧ (ops[g.1]?).bind (·.dst) = some d) → (t d).rel ι (a.tmps.getD d undef)) (hw : evWanted ops t o = some b) : Region.wanted o (yielded ops a.tmps) = b := by
  unfold evWanted at hw
  unfold Region.wanted
  split at hw
  · rename_i hg; rw [hg]; cases hw; rfl
  · rename_i j want hg
    rw [hg]
    split at hw
    · rename_i d hd
      split at hw
      · rename_i x hx
        cases hw
        have := h d ⟨_, hg, hd⟩
        rw [hx] at this
        have hv : a.tmps.getD d undef = .bool x := this
        have hs : a.tmps[d]? = some (.bool x) := by
          rw [Array.getD_eq_getD_getElem?] at hv
          cases he : a.tmps[d]? with
          | none => rw [he] at hv; simp [undef] at hv
          | some y => rw [he] at hv; simp at hv; rw [hv]
        unfold yielded
        simp only [hd, Option.bind_some, hs]
        cases x <;> cases want <;> rfl
      · rename_i y hy
        cases hw
        have := h d ⟨_, hg, hd⟩
        rw [hy] at this
        have hv : a.tmps.getD d undef = .tuple y := this
        unfold yielded
        simp only [hd, Option.bind_some]
        rw [Array.getD_eq_getD_getElem?] at hv
        cases he : a.tmps[d]? with
        | none => rfl
        | some z => rw [he] at hv; simp at hv; subst hv; rfl
      · cases hw
    · cases hw
def OpGood (P : Program) (ρ : Operand → Value) (O : Oper) (ι : Emb) (m : Mem) (w : World) (v : AV) (m' : Mem) : Prop :=
  OpOk P ι m w v m' (execOp ρ O) ∨ ∃ f args, (execOp ρ O).run P w = .ok (.enter f args) w ∧ Calls P f args w fun e w' => ∃ u ι', e = .returned u ∧ v.rel ι' u ∧ Step m.length ι m w ι' m' w'
def Ex.out : Ex → Exit
  | .normal => .normal
  | .exit id => .exit id
  | .ret => .ret
def ArgsRel (ι : Emb) : List AV → List Value → Prop
  | [], [] => True
  | a :: l, v :: m => a.rel ι v ∧ ArgsRel ι l m
  | _, _ => False
inductive Ev (P : Program) : Task → Res → Prop
  | val {o e m v} (h : evVal P e m o = some v) : Ev P (.op o e m) (.val v m)
  | mem {o e m v m'} (h : evMem P e m o = some (v, m')) : Ev P (.op o e m) (.val v m')
  | fn {c : Call} {e m args mc bs v mc'} (f : FuncId) (hc : c.callee = .value (.func f)) (he : e (.func f) = .c (.val (.func (.func f) #[] #[]))) (hf : (P.funcs[f]?).any (fun fn => fn.body.isSome && !(fn.name == "runtime.NumGoroutine")) = true) (hin : canon 0 (c.args.toList.map e) m = some (args, mc, bs))
      (h : Ev P (.call f args mc) (.val v mc')) : Ev P (.op (.call c) e m) (.val (linkOut bs m v mc').1 (linkOut bs m v mc').2)
  | add64 {c : Call} {e m v} (f : FuncId) (hc : c.callee = .value (.func f)) (he : e (.func f) = .c (.val (.func (.func f) #[] #[]))) (hf : ExtIs P f add64Entry) (h : ev64 addAV (c.args.toList.map e) = some v) : Ev P (.op (.call c) e m) (.val v m)
  | sub64 {c : Call} {e m v} (f : FuncId) (hc : c.callee = .value (.func f)) (he : e (.func f) = .c (.val (.func (.func f) #[] #[]))) (hf : ExtIs P f sub64Entry) (h : ev64 subAV (c.args.toList.map e) = some v) : Ev P (.op (.call c) e m) (.val v m)
  | ro {o e m v N} (h : Ev P (.op o e (roMem m)) (.val v (roMem m ++ N))) : Ev P (.op o e m) (.val v (m ++ N))
  | nil {k ops s} : Ev P (.ops k ops [] s) (.out .normal s)
  | cons {k ops o l s v m' r} (hw : evWanted ops s.t o = some true) (hd : dstOk s.n o.dst = true) (h : Ev P (.op o.op (opnd s.t) s.m) (.val v m')) (hk : Ev P (.ops k ops l ⟨s.n, putT s.t o.dst v, m'⟩) (.out .normal r)) : Ev P (.ops k ops (o :: l) s) (.out .normal r)
  | skip {k ops o l s r} (hw : evWanted ops s.t o = some false) (hd : dstOk s.n o.dst = true) (hk : Ev P (.ops k ops l ⟨s.n, putT s.t o.dst noV, s.m⟩) (.out .normal r)) : Ev P (.ops k ops (o :: l) s) (.out .normal r)
  | region {k id ops s r} (h : Ev P (.ops k ops ops.toList s) (.out .normal r)) : Ev P (.code k (.region id ops false) s) (.out .normal r)
  | draw {k id ops s r} (n : Nat) (A : Nat → St) (W : Nat → Bool) (V : Nat → AV) (N : Nat → Mem) (hm : P.follows .mixedOrders = true) (hok : Region.okAll ops n s.n = true) (hA : A 0 = s)
      (hW : ∀ i o, i < n → ops[i]? = some o → evWanted ops (A i).t o = some (W i))
      (hV : ∀ i o, i < n → ops[i]? = some o → W i = true → Ev P (.op o.op (opnd (A i).t) (roMem (A i).m)) (.val (V i) (roMem (A i).m ++ N i)))
      (hS : ∀ i o, i < n → ops[i]? = some o → A (i + 1) = if W i = true then ⟨s.n, putT (A i).t o.dst (V i), (A i).m ++ N i⟩ else ⟨s.n, putT (A i).t o.dst noV, (A i).m⟩)
      (hk : Ev P (.ops k ops (ops.toList.drop n) (A n)) (.out .normal r)) : Ev P (.code k (.region id ops true) s) (.out .normal r)
  | late {k id ops s r} (n i0 : Nat) (A : Nat → St) (W : Nat → Bool) (V : Nat → AV) (N : Nat → Mem) (hm : P.follows .mixedOrders = true) (hc : lateCheck ops n i0 = true) (hok : Region.okAll (lateOps ops n i0) n s.n = true) (hA : A 0 = s)
      (hW : ∀ i o, i < n → (lateOps ops n i0)[i]? = some o → evWanted (lateOps ops n i0) (A i).t o = some (W i))
      (hV : ∀ i o, i < n → (lateOps ops n i0)[i]? = some o → W i = true → Ev P (.op o.op (opnd (A i).t) (roMem (A i).m)) (.val (V i) (roMem (A i).m ++ N i)))
      (hS : ∀ i o, i < n → (lateOps ops n i0)[i]? = some o → A (i + 1) = if W i = true then ⟨s.n, putT (A i).t o.dst (V i), (A i).m ++ N i⟩ else ⟨s.n, putT (A i).t o.dst noV, (A i).m⟩)
      (hk : Ev P (.ops k (lateOps ops n i0) ((lateOps ops n i0).toList.drop n) (A n)) (.out .normal r)) : Ev P (.code k (.region id ops true) s) (.out .normal r)
  | stores {k id ops s} (A : Nat → St) (V : Nat → AV) (hm : P.follows .mixedOrders = true) (hok : Region.okStores ops s.n = true) (hA : A 0 = s)
      (hP : ∀ i o, ops[i]? = some o → isStore o = false → evVal P (opnd (A i).t) (deadMem s.m.length) o.op = some (V i) ∧ A (i + 1) = ⟨s.n, putT (A i).t o.dst (V i), (A i).m⟩)
      (hS : ∀ i o, ops[i]? = some o → isStore o = true → ∃ v m', evMem P (opnd (A i).t) (A i).m o.op = some (v, m') ∧ m'.length = (A i).m.length ∧ A (i + 1) = ⟨s.n, (A i).t, m'⟩) : Ev P (.code k (.region id ops true) s) (.out .normal (A ops.size))
  | stores2 {k id ops s} (A : Nat → St) (V : Nat → AV) (E : Nat → Bool) (hm : P.follows .mixedOrders = true) (hok : Region.okStores ops s.n = true) (hA : A 0 = s)
      (hP : ∀ i o, ops[i]? = some o → isStore o = false → E i = false → ∃ Mk : Mem, (∀ c, c ≤ ops.size → ∀ (ι : Emb) (w : World), R ι (A c).m w → R ι Mk w) ∧ evVal P (opnd (A i).t) Mk o.op = some (V i))
      (hE : ∀ i o, ops[i]? = some o → isStore o = false → E i = true → Ev P (.op o.op (opnd (A i).t) s.m) (.val (V i) s.m))
      (hE2 : ∀ i o, ops[i]? = some o → isStore o = false → (E i = true → early ops i = true) ∧ A (i + 1) = ⟨s.n, putT (A i).t o.dst (V i), (A i).m⟩)
      (hS : ∀ i o, ops[i]? = some o → isStore o = true → ∃ v m', evMem P (opnd (A i).t) (A i).m o.op = some (v, m') ∧ m'.length = (A i).m.length ∧ A (i + 1) = ⟨s.n, (A i).t, m'⟩) : Ev P (.code k (.region id ops true) s) (.out .normal (A ops.size))
  | clean {k c s s1 r} (keep : List Nat) (hc : clean k keep s = some s1) (h : Ev P (.code k c s1) r) : Ev P (.code k c s) r
  | tidy {k c s e s1 s2} (keep : List Nat) (h : Ev P (.code k c s) (.out e s1)) (hc : clean k keep s1 = some s2) : Ev P (.code k c s) (.out e s2)
  | cskip {k s} : Ev P (.code k .skip s) (.out .normal s)
  | label {k s l} : Ev P (.code k (.label l) s) (.out .normal s)
  | seq {k a b s s1 r} (h1 : Ev P (.code k a s) (.out .normal s1)) (h2 : Ev P (.code k b s1) r) : Ev P (.code k (.seq a b) s) r
  | seqx {k a b s s1 e} (h1 : Ev P (.code k a s) (.out e s1)) (he : e ≠ .normal) : Ev P (.code k (.seq a b) s) (.out e s1)
  | cond {k c a b s r} (t : Bool) (hc : opnd s.t c = .c (.val (.bool t))) (h : Ev P (.code k (if t then a else b) s) r) : Ev P (.code k (.cond c a b) s) r
  | block {k id c s s1 e} (h : Ev P (.code k c s) (.out e s1)) : Ev P (.code k (.block id c) s) (.out (e.block id) s1)
  | loop {k c s s1 r} (h1 : Ev P (.code k c s) (.out .normal s1)) (h2 : Ev P (.code k (.loop c) s1) r) : Ev P (.code k (.loop c) s) r
  | loopx {k c s s1 e} (h1 : Ev P (.code k c s) (.out e s1)) (he : e ≠ .normal) : Ev P (.code k (.loop c) s) (.out e s1)
  | exit {k id s} : Ev P (.code k (.exit id) s) (.out (.exit id) s)
  | ret {k s} : Ev P (.code k .ret s) (.out .ret s)
  | scope {k c s s1 e} (h : Ev P (.code k c s) (.out e s1)) : Ev P (.code k (.scope c) s) (.out e s1)
  | view {f args m args' m' v N} (ρ : Nat → Option Nat) (hρ : ∀ j i, ρ j = some i → j < m'.length ∧ ∃ own x, m[i]? = some (.row own x) ∧ m'[j]? = some (.row false x) ∧ x.ren noRen = x) (ha : WeakL ρ args args')
      (h : Ev P (.call f args' m') (.val v (m' ++ N))) : Ev P (.call f args m) (.val (v.ren (viewRen ρ m'.length m.length)) (m ++ N.map (Row.ren (viewRen ρ m'.length m.length))))
  | call {f fn c args m e s' vs v m' ids} (hf : P.funcs[f]? = some fn) (hb : fn.body = some c) (hn : args.length ≤ fn.ntmps) (h : Ev P (.code m.length c ⟨fn.ntmps, argT args, m⟩) (.out e s')) (he : e = .normal ∨ e = .ret)
      (hres : resList P s' fn.results.toList = some vs) (hcan : canon m.length [resV vs] s'.m = some ([v], m', ids)) : Ev P (.call f args m) (.val v m')
  | weak {k c s s1 r} (hw : ∀ (ι : Emb) (w : World) (a : Act), k ≤ s.m.length → R ι s.m w → FRel ι s a → ∃ ι', FRel ι' s1 a ∧ Step k ι s.m w ι' s1.m w) (h : Ev P (.code k c s1) r) : Ev P (.code k c s) r
  | sem {o e m v m'} (h : ∀ (O : Oper) (ι : Emb) (w : World) (ρ : Operand → Value), O.op = o → R ι m w → (∀ x ∈ o.operands, (e x).rel ι (ρ x)) → OpGood P ρ O ι m w v m') : Ev P (.op o e m) (.val v m')
  | semF {f args m v m'} (h : ∀ (ι : Emb) (w : World) (vs : Array Value), R ι m w → ArgsRel ι args vs.toList → Calls P f vs w fun e w' => ∃ u ι', e = .returned u ∧ v.rel ι' u ∧ Step m.length ι m w ι' m' w') : Ev P (.call f args m) (.val v m')
def LoopAt (P : Program) (c : Code) (Q : Exit → Act → World → Prop) (a : Act) (w : World) : Prop :=
  ∀ (b : Frame) (k : List Item) (cs : List Frame), ∃ e a' w', Q e a' w' ∧ Arrives P (lone (b.at a (.code c :: .inLoop c :: k)) cs w) b k cs e a' w'
def wpC (P : Program) (c : Code) (Q : Exit → Act → World → Prop) (a : Act) (w : World) : Prop :=
  match c with
  | .loop c => LoopAt P c Q a w
  | c => c.wp P Q a w
theorem wpC_wp {P : Program} {c : Code} {Q : Exit → Act → World → Prop} {a : Act} {w : World} (h : wpC P c Q a w) : c.wp P Q a w := by
  cases c with
  | loop c => intro b k cs; obtain ⟨e, a', w', q, r⟩ := h b k cs; exact ⟨e, a', w', q, .of_steps (.one step_loop) r⟩
  | _ => exact h
theorem loopAt_next {P : Program} {c : Code} {Q : Exit → Act → World → Prop} {a : Act} {w : World} (h : c.wp P (Exit.then (LoopAt P c Q) Q) a w) : LoopAt P c Q a w := by
  intro b k cs
  obtain ⟨e, a₁, w₁, hq, harr⟩ := h b (.inLoop c :: k) cs
  cases e with
  | normal =>
    obtain ⟨e₂, a₂, w₂, hq₂, harr₂⟩ := hq b k cs
    exact ⟨e₂, a₂, w₂, hq₂, .of_steps (Steps.trans harr (.one step_inLoop)) harr₂⟩
  | exit id => exact ⟨_, a₁, w₁, hq, .pass (x := .inLoop c) rfl (fun _ _ => .inl (by simp)) harr⟩
  | goto l => exact ⟨_, a₁, w₁, hq, .pass (x := .inLoop c) rfl (fun _ _ => .inl (by simp)) harr⟩
  | ret => exact ⟨_, a₁, w₁, hq, .pass (x := .inLoop c) rfl (fun _ _ => .inl (by simp)) harr⟩
  | panic ch => exact ⟨_, a₁, w₁, hq, .pass (x := .inLoop c) rfl (fun _ _ => .inl (by simp)) harr⟩
  | outgrown => exact ⟨_, a₁, w₁, hq, .pass (x := .inLoop c) rfl (fun _ _ => .inl (by simp)) harr⟩
def Sound (P : Program) : Task → Res → Prop
  | .op o e m, .val v m' => ∀ (O : Oper) (ι : Emb) (w : World) (ρ : Operand → Value), O.op = o → R ι m w → (∀ x ∈ o.operands, (e x).rel ι (ρ x)) → OpGood P ρ O ι m w v m'
  | .ops k ops l s, .out e s' => e = .normal → ∀ (ι : Emb) (w : World) (a : Act), k ≤ s.m.length → R ι s.m w → FRel ι s a → ∀ Q : Exit → Act → World → Prop,
      (∀ ι' a' w', FRel ι' s' a' → a'.defers = a.defers → Step k ι s.m w ι' s'.m w' → Q .normal a' w') → wpList P ops Q l a w
  | .code k c s, .out e s' => ∀ (ι : Emb) (w : World) (a : Act), k ≤ s.m.length → R ι s.m w → FRel ι s a → ∀ Q : Exit → Act → World → Prop,
      (∀ ι' a' w', FRel ι' s' a' → a'.defers = a.defers → Step k ι s.m w ι' s'.m w' → Q e.out a' w') → wpC P c Q a w
  | .call f args m, .val v m' => ∀ (ι : Emb) (w : World) (vs : Array Value), R ι m w → ArgsRel ι args vs.toList → Calls P f vs w fun e w' => ∃ u ι', e = .returned u ∧ v.rel ι' u ∧ Step m.length ι m w ι' m' w'
  | _, _ => True
theorem OpGood.wp {P : Program} {ρ : Operand → Value} {O : Oper} {ι : Emb} {m m' : Mem} {w : World} {v : AV} {a : Act} (ha : ρ = a.eval) (h : OpGood P ρ O ι m w v m') {K : Act → World → Prop} {Q : Exit → Act → World → Prop}
    (hK : ∀ u w' ι', v.rel ι' u → Step m.length ι m w ι' m' w' → K (a.put O.dst u) w') : O.wp P a w K Q := by
  subst ha
  unfold Oper.wp
  rcases h with ⟨u, w', ι', hr, hv, hs⟩ | ⟨f, args, hr, hc⟩
  · rcases hr with hr | ⟨hr, rfl⟩
    · rw [hr]; exact hK u w' ι' hv hs
    · rw [hr]; exact hK undef w' ι' hv hs
  · rw [hr]
    refine hc.mono fun e w' he => ?_
    obtain ⟨u, ι', rfl, hv, hs⟩ := he
    exact hK u w' ι' hv hs
end Go.Proofs.Ytcgncafhonlmlaa
namespace Go.Proofs.Ytcgncafhonlmlaa
open Go.RowKit
theorem backRows_length (bs : List Nat) (mc : Mem) (ρ : Nat → Option Nat) : ∀ (m : Mem) (i : Nat), (backRows bs mc ρ i m).length = m.length
  | [], _ => rfl
  | .dead :: l, i => by simp [backRows, backRows_length bs mc ρ l (i + 1)]
  | .row true x :: l, i => by simp [backRows, backRows_length bs mc ρ l (i + 1)]
  | .row false x :: l, i => by simp [backRows, backRows_length bs mc ρ l (i + 1)]
theorem backRows_get (bs : List Nat) (mc : Mem) (ρ : Nat → Option Nat) : ∀ (m : Mem) (i b : Nat), (backRows bs mc ρ i m)[b]? = (m[b]?).map fun r => match r with
    | .row true x => (match idx (i + b) bs 0 with | some j => (mc.getD j .dead).ren ρ | none => .row true x)
    | r => r
  | [], i, b => by simp [backRows]
  | r :: l, i, b => by
    cases b with
    | zero => cases r with
      | dead => simp [backRows]
      | row own x =>
        cases own
        · simp [backRows]
        · simp only [backRows, List.getElem?_cons_zero, Option.map_some, Nat.add_zero]
          all_goals (cases idx i bs 0 <;> rfl)
    | succ b =>
      have ih := backRows_get bs mc ρ l (i + 1) b
      rw [show i + (b + 1) = i + 1 + b by omega]
      cases r with
      | dead => simp only [backRows, List.getElem?_cons_succ]; exact ih
      | row own x => cases own <;> (simp only [backRows, List.getElem?_cons_succ]; exact ih)
theorem row_ren {r : Row} {ρ : Nat → Option Nat} {own : Bool} {x : Arr} (h : r.ren ρ = .row own x) : ∃ y, r = .row own y ∧ x = y.ren ρ := by
  cases r with
  | dead => cases h
  | row o y => cases h; exact ⟨y, rfl, rfl⟩
theorem getD_row {m : Mem} {b : Nat} {own : Bool} {x : Arr} (h : m.getD b .dead = .row own x) : m[b]? = some (.row own x) := by
  rw [List.getD_eq_getElem?_getD] at h
  cases hm : m[b]? with
  | none => rw [hm] at h; cases h
  | some r => rw [hm] at h; simp at h; rw [h]
def linkEmb (n k : Nat) (ι ιc : Emb) : Emb := fun b => if b < n then ι b else ιc (b - n + k)
theorem link_sound {m : Mem} {bs : List Nat} (hok : canOk 0 m bs = true) {ι : Emb} {w : World} (hR : R ι m w) {ιc' : Emb} {mc' : Mem} {w' : World}
    (h : Step bs.length (canEmb 0 bs ι) (canMem 0 m bs) w ιc' mc' w') {v : AV} {u : Value} (hv : v.rel ιc' u) :
    (linkOut bs m v mc').1.rel (linkEmb m.length bs.length ι ιc') u ∧ Step m.length ι m w (linkEmb m.length bs.length ι ιc') (linkOut bs m v mc').2 w' := by
  have hok' := hok
  simp only [canOk, Bool.and_eq_true, decide_eq_true_eq, List.all_eq_true] at hok'
  obtain ⟨⟨⟨_, hd⟩, hlt⟩, _⟩ := hok'
  have hblt : ∀ i b, bs[i]? = some b → b < m.length := fun i b hb => (hlt b (List.mem_of_getElem? hb)).2
  have hcl : (canMem 0 m bs).length = bs.length := by simp [canMem]
  -- names
  have emb0 : ∀ i b, bs[i]? = some b → canEmb 0 bs ι i = ι b := fun i b hb => by unfold canEmb; rw [if_neg (by omega), Nat.sub_zero, hb]
  have lnew : ∀ b, m.length ≤ b → linkEmb m.length bs.length ι ιc' b = ιc' (b - m.length + bs.length) := fun b hb => by unfold linkEmb; rw [if_neg (by omega)]
  have lold : ∀ b, b < m.length → linkEmb m.length bs.length ι ιc' b = ι b := fun b hb => if_pos hb
  have same : Same (backRen bs m.length) ιc' (linkEmb m.length bs.length ι ιc') := by
    intro i b hb
    unfold backRen at hb
    by_cases hi : i < bs.length
    · rw [if_pos hi] at hb
      rw [h.ext i hi, emb0 i b hb, lold b (hblt i b hb)]
    · rw [if_neg hi] at hb
      cases hb
      rw [lnew _ (by omega)]
      congr 1
      omega
  have hle : ι.le (linkEmb m.length bs.length ι ιc') := fun b l hb => by
    have : b < m.length := by
      rcases Nat.lt_or_ge b m.length with h | h
      · exact h
      · rw [hR.dom b h] at hb; cases hb
    rw [lold b this]; exact hb
  have pick : ∀ {b : Nat} {own : Bool} {x : Arr}, (linkOut bs m v mc').2[b]? = some (.row own x) →
      (b < m.length ∧ m[b]? = some (.row own x) ∧ (own = true → b ∉ bs)) ∨
      (b < m.length ∧ ∃ (j : Nat) (x0 y : Arr), bs[j]? = some b ∧ m[b]? = some (.row true x0) ∧ mc'[j]? = some (.row own y) ∧ x = y.ren (backRen bs m.length)) ∨
      (m.length ≤ b ∧ ∃ y : Arr, mc'[b - m.length + bs.length]? = some (.row own y) ∧ x = y.ren (backRen bs m.length)) := by
    intro b own x hb
    simp only [linkOut] at hb
    by_cases hbm : b < m.length
    · rw [List.getElem?_append_left (by rw [backRows_length]; exact hbm), backRows_get, Nat.zero_add] at hb
      obtain ⟨r, hr, e⟩ := Option.map_eq_some_iff.1 hb
      split at e
      · rename_i x0
        split at e
        · rename_i j hj
          obtain ⟨_, hj2⟩ := idx_some hj
          rw [Nat.sub_zero] at hj2
          obtain ⟨y, hy, hx⟩ := row_ren e
          exact .inr (.inl ⟨hbm, j, x0, y, hj2, hr, getD_row hy, hx⟩)
        · rename_i hj
          cases e
          refine .inl ⟨hbm, hr, fun _ hmem => ?_⟩
          have none_mem : ∀ (l : List Nat) (i : Nat), idx b l i = none → b ∉ l := by
            intro l
            induction l with
            | nil => intro i _ h; cases h
            | cons y l ih =>
              intro i hi hm
              unfold idx at hi
              split at hi
              · cases hi
              · rename_i hne
                rcases List.mem_cons.1 hm with e | e
                · exact hne e.symm
                · exact ih _ hi e
          exact none_mem bs 0 hj hmem
      · cases e
        rename_i hne
        refine .inl ⟨hbm, hr, fun ho => ?_⟩
        subst ho
        exact absurd rfl (hne x)
    · rw [List.getElem?_append_right (by rw [backRows_length]; omega), backRows_length, List.getElem?_map, List.getElem?_drop] at hb
      obtain ⟨r, hr, e⟩ := Option.map_eq_some_iff.1 hb
      obtain ⟨y, rfl, hx⟩ := row_ren e
      refine .inr (.inr ⟨by omega, y, ?_, hx⟩)
      rw [Nat.add_comm]; exact hr
  -- what the callee may write
  have callee : ∀ c, Owned (canEmb 0 bs ι) (canMem 0 m bs) c → ∃ (b : Nat) (l : Loc) (x : Arr), b ∈ bs ∧ ι b = some l ∧ m[b]? = some (.row true x) ∧ l.c = c := by
    rintro c ⟨j, l, x, hj, hm, rfl⟩
    obtain ⟨b, y, hy, _, hb⟩ := canMem_row (Nat.zero_le _) hm
    rcases hb with ⟨hb, _⟩ | ⟨_, hb⟩
    · omega
    · rw [Nat.sub_zero] at hb
      rw [emb0 j b hb] at hj
      exact ⟨b, l, y, List.mem_of_getElem? hb, hj, hy, rfl⟩
  have calleeOwned : ∀ c, Owned (canEmb 0 bs ι) (canMem 0 m bs) c → Owned ι m c := fun c hc => by
    obtain ⟨b, l, x, _, hb, hm, rfl⟩ := callee c hc
    exact ⟨b, l, x, hb, hm, rfl⟩
  have apart : ∀ {b : Nat} {l : Loc} {own : Bool} {x : Arr}, ι b = some l → m[b]? = some (.row own x) → (own = true → b ∉ bs) → ¬ Owned (canEmb 0 bs ι) (canMem 0 m bs) l.c := by
    intro b l own x hb hm ho hc
    obtain ⟨b2, l2, x2, hmem, hb2, hm2, e⟩ := callee _ hc
    by_cases hbb : b2 = b
    · subst hbb
      rw [hm] at hm2
      cases hm2
      exact ho rfl hmem
    · exact hR.inj b2 b l2 l true own x2 x hbb hb2 hb hm2 hm (.inl rfl) e
  have news : ∀ {i : Nat} {l : Loc} {own : Bool} {y : Arr}, bs.length ≤ i → ιc' i = some l → mc'[i]? = some (.row own y) → w.heap.size ≤ l.c ∨ Owned (canEmb 0 bs ι) (canMem 0 m bs) l.c := by
    intro i l own y hi h1 h2
    rcases h.news i l own y hi h1 h2 with h3 | h3 | ⟨b0, l0, o0, x0, hb0, _, h5, _⟩
    · exact .inl h3
    · exact .inr h3
    · exact (no_row (by rw [hcl]; exact hb0) h5).elim
  have fromB : ∀ {b j : Nat} {l : Loc}, b < m.length → bs[j]? = some b → linkEmb m.length bs.length ι ιc' b = some l → ι b = some l ∧ ιc' j = some l := by
    intro b j l hb hj h1
    rw [lold b hb] at h1
    have hj' : j < bs.length := (List.getElem?_eq_some_iff.1 hj).1
    exact ⟨h1, by rw [h.ext j hj', emb0 j b hj]; exact h1⟩
  refine ⟨AV.ren_rel same hv, ⟨fun b hb => ?_, fun b l own x h1 h2 => ?_, fun b b' l l' own own' x x' hne h1 h1' h2 h2' ho => ?_⟩, ⟨h.trans.os, h.trans.tape, h.trans.output, h.trans.size, fun c hc hn => h.trans.keep c hc (fun hq => hn (calleeOwned c hq)), fun c hc => ?_⟩,
    fun b hb => lold b hb, by simp [linkOut, backRows_length], fun b x hb hm => ?_, fun b own x hb hm => ?_, fun b l own x hb h1 h2 => ?_⟩
  · have hl := h.len
    simp only [linkOut, List.length_append, backRows_length, List.length_map, List.length_drop] at hb
    rw [lnew b (by omega)]
    exact h.r.dom _ (by omega)
  · rcases pick h2 with ⟨hb, hm, ho⟩ | ⟨hb, j, x0, y, hj, hm, hy, rfl⟩ | ⟨hb, y, hy, rfl⟩
    · rw [lold b hb] at h1
      obtain ⟨cs, t, fr, k1, k2, k3, k4⟩ := hR.rows b l own x h1 hm
      exact ⟨cs, t, fr, by rw [h.trans.keep l.c (hR.lt h1 hm) (apart h1 hm ho)]; exact k1, k2, k3.mono' hle, k4⟩
    · obtain ⟨h3, h4⟩ := fromB hb hj h1
      obtain ⟨cs, t, fr, k1, k2, k3, k4⟩ := h.r.rows j l own y h4 hy
      exact ⟨cs, t, fr, k1, by rw [Arr.ren_size]; exact k2, Arr.ren_rel same k3, k4⟩
    · rw [lnew b hb] at h1
      obtain ⟨cs, t, fr, k1, k2, k3, k4⟩ := h.r.rows _ l own y h1 hy
      exact ⟨cs, t, fr, k1, by rw [Arr.ren_size]; exact k2, Arr.ren_rel same k3, k4⟩
  · rcases pick h2 with ⟨hb, hm, hq⟩ | ⟨hb, j, x0, y, hj, hm, hy, _⟩ | ⟨hb, y, hy, _⟩ <;> rcases pick h2' with ⟨hb', hm', hq'⟩ | ⟨hb', j', x0', y', hj', hm', hy', _⟩ | ⟨hb', y', hy', _⟩
    · rw [lold b hb] at h1; rw [lold b' hb'] at h1'
      exact hR.inj b b' l l' own own' x x' hne h1 h1' hm hm' ho
    · rw [lold b hb] at h1; rw [lold b' hb'] at h1'
      exact hR.inj b b' l l' own true x x0' hne h1 h1' hm hm' (.inr rfl)
    · rw [lold b hb] at h1; rw [lnew b' hb'] at h1'
      rcases news (by omega) h1' hy' with h3 | h3
      · have := hR.lt h1 hm; omega
      · exact fun e => apart h1 hm hq (by rw [e]; exact h3)
    · rw [lold b hb] at h1; rw [lold b' hb'] at h1'
      exact hR.inj b b' l l' true own' x0 x' hne h1 h1' hm hm' (.inl rfl)
    · rw [lold b hb] at h1; rw [lold b' hb'] at h1'
      exact hR.inj b b' l l' true true x0 x0' hne h1 h1' hm hm' (.inl rfl)
    · obtain ⟨_, h4⟩ := fromB hb hj h1
      rw [lnew b' hb'] at h1'
      have hj2 : j < bs.length := (List.getElem?_eq_some_iff.1 hj).1
      exact h.r.inj j _ l l' own own' y y' (by omega) h4 h1' hy hy' ho
    · rw [lnew b hb] at h1; rw [lold b' hb'] at h1'
      rcases news (by omega) h1 hy with h3 | h3
      · have := hR.lt h1' hm'; omega
      · exact fun e => apart h1' hm' hq' (by rw [← e]; exact h3)
    · obtain ⟨_, h4⟩ := fromB hb' hj' h1'
      rw [lnew b hb] at h1
      have hj2 : j' < bs.length := (List.getElem?_eq_some_iff.1 hj').1
      exact h.r.inj _ j' l l' own own' y y' (by omega) h1 h4 hy hy' ho
    · rw [lnew b hb] at h1; rw [lnew b' hb'] at h1'
      exact h.r.inj _ _ l l' own own' y y' (by omega) h1 h1' hy hy' ho
  · obtain ⟨b, l, x, h1, h2, rfl⟩ := hc
    rcases pick h2 with ⟨hb, hm, hq⟩ | ⟨hb, j, x0, y, hj, hm, hy, _⟩ | ⟨hb, y, hy, _⟩
    · rw [lold b hb] at h1; exact .inr ⟨b, l, x, h1, hm, rfl⟩
    · rw [lold b hb] at h1; exact .inr ⟨b, l, x0, h1, hm, rfl⟩
    · rw [lnew b hb] at h1
      rcases h.trans.fresh l.c ⟨_, l, y, h1, hy, rfl⟩ with h3 | h3
      · exact .inl h3
      · exact .inr (calleeOwned _ h3)
  · simp only [linkOut]
    rw [List.getElem?_append_left (by rw [backRows_length]; exact hb), backRows_get, hm]
    rfl
  · rcases pick hm with ⟨_, hm, _⟩ | ⟨_, j, x0, y, hj, hm, hy, _⟩ | ⟨hb', _⟩
    · exact ⟨x, hm⟩
    · obtain ⟨x1, hx1⟩ := h.old j own y (List.getElem?_eq_some_iff.1 hj).1 hy
      obtain ⟨b2, y2, hy2, _, hb2⟩ := canMem_row (Nat.zero_le _) hx1
      rcases hb2 with ⟨hb2, _⟩ | ⟨_, hb2⟩
      · omega
      · rw [Nat.sub_zero, hj] at hb2
        cases hb2
        exact ⟨y2, hy2⟩
    · omega
  · rcases pick h2 with ⟨hb', _⟩ | ⟨hb', _⟩ | ⟨_, y, hy, _⟩
    · omega
    · omega
    · rw [lnew b hb] at h1
      rcases news (by omega) h1 hy with h3 | h3
      · exact .inl h3
      · exact .inr (.inl (calleeOwned _ h3))
end Go.Proofs.Ytcgncafhonlmlaa
namespace Go.Proofs.Ytcgncafhonlmlaa
open Go.RowKit
def Emb.upto (c : Nat) (ι : Emb) : Emb := fun b => if b < c then ι b else none
theorem upto_le (c : Nat) (ι : Emb) : (ι.upto c).le ι := fun b l h => by
  unfold Emb.upto at h
  split at h
  · exact h
  · cases h
theorem upto_mono {c : Nat} {ι ι' : Emb} (h : ι.le ι') : (ι.upto c).le (ι'.upto c) := fun b l hb => by
  unfold Emb.upto at hb ⊢
  split at hb
  · rename_i hc; rw [if_pos hc]; exact h b l hb
  · cases hb
theorem upto_up {c c' : Nat} (ι : Emb) (h : c ≤ c') : (ι.upto c).le (ι.upto c') := fun b l hb => by
  unfold Emb.upto at hb ⊢
  split at hb
  · rw [if_pos (by omega)]; exact hb
  · cases hb
theorem roMem_row {m : Mem} {b : Nat} {own : Bool} {x : Arr} (h : (roMem m)[b]? = some (.row own x)) : own = false ∧ ∃ o, m[b]? = some (.row o x) := by
  unfold roMem at h
  rw [List.getElem?_map] at h
  obtain ⟨r, hr, e⟩ := Option.map_eq_some_iff.1 h
  cases r with
  | dead => cases e
  | row o y => cases e; exact ⟨rfl, o, hr⟩
theorem roMem_length (m : Mem) : (roMem m).length = m.length := by simp [roMem]
structure Line (ops : Array Oper) (n : Nat) (A : Nat → St) (W : Nat → Bool) (V : Nat → AV) (N : Nat → Mem) (N0 : Nat) : Prop where
  hn : n ≤ ops.size
  h0 : (A 0).n = N0
  step : ∀ i o, i < n → ops[i]? = some o → A (i + 1) = if W i = true then ⟨N0, putT (A i).t o.dst (V i), (A i).m ++ N i⟩ else ⟨N0, putT (A i).t o.dst noV, (A i).m⟩
section
variable {ops : Array Oper} {n : Nat} {A : Nat → St} {W : Nat → Bool} {V : Nat → AV} {N : Nat → Mem} {N0 : Nat}
theorem Line.at (h : Line ops n A W V N N0) {i : Nat} (hi : i < n) : ∃ o, ops[i]? = some o := ⟨ops[i]'(by have := h.hn; omega), Array.getElem?_eq_getElem _⟩
theorem Line.mem1 (h : Line ops n A W V N N0) {i : Nat} (hi : i < n) : (A i).m.length ≤ (A (i + 1)).m.length ∧ ∀ b, b < (A i).m.length → (A (i + 1)).m[b]? = (A i).m[b]? := by
  obtain ⟨o, ho⟩ := h.at hi
  rw [h.step i o hi ho]
  split
  · exact ⟨by simp, fun b hb => List.getElem?_append_left hb⟩
  · exact ⟨Nat.le_refl _, fun b _ => rfl⟩
theorem Line.mem (h : Line ops n A W V N N0) {i : Nat} : ∀ d, i + d ≤ n → (A i).m.length ≤ (A (i + d)).m.length ∧ ∀ b, b < (A i).m.length → (A (i + d)).m[b]? = (A i).m[b]?
  | 0, _ => ⟨Nat.le_refl _, fun _ _ => rfl⟩
  | d + 1, hd => by
    obtain ⟨h1, h2⟩ := Line.mem h (i := i) d (by omega)
    obtain ⟨h3, h4⟩ := h.mem1 (i := i + d) (by omega)
    exact ⟨Nat.le_trans h1 h3, fun b hb => by rw [show i + (d + 1) = i + d + 1 by omega, h4 b (by omega), h2 b hb]⟩
theorem Line.len (h : Line ops n A W V N N0) {i j : Nat} (hij : i ≤ j) (hj : j ≤ n) : (A i).m.length ≤ (A j).m.length := by
  have := (h.mem (i := i) (j - i) (by omega)).1
  rwa [show i + (j - i) = j by omega] at this
theorem Line.row (h : Line ops n A W V N N0) {i j b : Nat} (hij : i ≤ j) (hj : j ≤ n) (hb : b < (A i).m.length) : (A j).m[b]? = (A i).m[b]? := by
  have := (h.mem (i := i) (j - i) (by omega)).2 b hb
  rwa [show i + (j - i) = j by omega] at this
theorem Line.tmp1 (h : Line ops n A W V N N0) {i : Nat} (hi : i < n) {t : Nat} (ht : dstAt ops i ≠ some t) : (A (i + 1)).t t = (A i).t t := by
  obtain ⟨o, ho⟩ := h.at hi
  have hd : dstAt ops i = o.dst := by simp [dstAt, ho]
  rw [hd] at ht
  rw [h.step i o hi ho]
  have key : ∀ v, putT (A i).t o.dst v t = (A i).t t := by
    intro v
    cases hdd : o.dst with
    | none => rfl
    | some d =>
      rw [hdd] at ht
      exact upd_ne _ _ (fun e => ht (by rw [e]))
  split
  · exact key _
  · exact key _
theorem Line.tmp (h : Line ops n A W V N N0) {i t : Nat} : ∀ d, i + d ≤ n → (∀ j, i ≤ j → j < i + d → dstAt ops j ≠ some t) → (A (i + d)).t t = (A i).t t
  | 0, _, _ => rfl
  | d + 1, hd, hno => by
    rw [show i + (d + 1) = i + d + 1 by omega, h.tmp1 (by omega) (hno _ (by omega) (by omega)), Line.tmp h d (by omega) fun j h1 h2 => hno j h1 (by omega)]
theorem Line.slot (h : Line ops n A W V N N0) {i j t : Nat} (hij : i ≤ j) (hj : j ≤ n) (hno : ∀ l, i ≤ l → l < j → dstAt ops l ≠ some t) : (A j).t t = (A i).t t := by
  have := h.tmp (i := i) (t := t) (j - i) (by omega) (fun l h1 h2 => hno l h1 (by omega))
  rwa [show i + (j - i) = j by omega] at this
def CellsUp (n : Nat) (A : Nat → St) (ι : Emb) (w : World) : Prop := ∀ i b l own x, i ≤ n → b < (A i).m.length → ι b = some l → (A n).m[b]? = some (.row own x) → ∀ cs t fr, w.heap[l.c]? = some (.cells cs t fr) → x.relAt (ι.upto (A i).m.length) cs l.off
structure InvD (ops : Array Oper) (n : Nat) (A : Nat → St) (ι0 : Emb) (w0 : World) (a0 : Act) (listed : Array Bool) (ι : Emb) (a : Act) (w : World) : Prop where
  low : ∀ b, b < (A 0).m.length → ι b = ι0 b
  seg : ∀ b l, ι b = some l → b < (A 0).m.length ∨ ∃ j, j < n ∧ listed.getD j false = true ∧ (A j).m.length ≤ b ∧ b < (A (j + 1)).m.length
  r : R ι (A n).m w
  hit : ∀ j, j < n → listed.getD j false = true → ∀ d, dstAt ops j = some d → ((A (j + 1)).t d).rel (ι.upto (A (j + 1)).m.length) (a.tmps.getD d undef)
  miss : ∀ t, (∀ j, j < n → listed.getD j false = true → dstAt ops j ≠ some t) → a.tmps.getD t undef = a0.tmps.getD t undef
  size : a.tmps.size = a0.tmps.size
  defers : a.defers = a0.defers
  head : HeadInv .any ops n listed
  ext : Below w0.heap.size w0 w
  fresh : ∀ b l own x, (A 0).m.length ≤ b → ι b = some l → (A n).m[b]? = some (.row own x) → w0.heap.size ≤ l.c
  cells : CellsUp n A ι w
theorem InvD.next (hl : Line ops n A W V N N0) {ι0 : Emb} {w0 : World} {a0 : Act} (hok : OkX ops n a0.tmps.size) {listed : Array Bool} {ι : Emb} {a : Act} {w : World} (h : InvD ops n A ι0 w0 a0 listed ι a w)
    {i : Nat} (hi : i ∈ Region.ready .any ops listed) (hin : i < n) {o : Oper} (ho : ops[i]? = some o) {ι' : Emb} {u : Value} {w' : World} (hle : ι.le ι')
    (hseg : ∀ b, ¬ ((A i).m.length ≤ b ∧ b < (A (i + 1)).m.length) → ι' b = ι b) (hr : R ι' (A n).m w') (hu : ∀ d, o.dst = some d → ((A (i + 1)).t d).rel (ι'.upto (A (i + 1)).m.length) u) (hext : Below w.heap.size w w')
    (hfr : ∀ b l own x, (A i).m.length ≤ b → b < (A (i + 1)).m.length → ι' b = some l → (A n).m[b]? = some (.row own x) → w.heap.size ≤ l.c)
    (hce : ∀ b l own x, (A i).m.length ≤ b → b < (A (i + 1)).m.length → ι' b = some l → (A n).m[b]? = some (.row own x) → ∀ cs t fr, w'.heap[l.c]? = some (.cells cs t fr) → x.relAt (ι'.upto (A (i + 1)).m.length) cs l.off) :
    InvD ops n A ι0 w0 a0 (listed.setIfInBounds i true) ι' (a.put o.dst u) w' := by
  have hrd := mem_ready.1 hi
  have hun : listed.getD i false = false := getD_both hrd.1
  have his : i < listed.size := by rw [h.head.size]; exact (Array.getElem?_eq_some_iff.1 ho).1
  have hd : dstAt ops i = o.dst := by simp [dstAt, ho]
  have hset : ∀ j, (listed.setIfInBounds i true).getD j false = true → j = i ∨ listed.getD j false = true := fun j hj => by
    by_cases hji : i = j
    · exact .inl hji.symm
    · rw [getD_set_ne false hji] at hj; exact .inr hj
  have hseti : (listed.setIfInBounds i true).getD i false = true := by simp [his]
  have h0i := hl.len (Nat.zero_le i) (Nat.le_of_lt hin)
  refine ⟨fun b hb => by rw [hseg b (by omega), h.low b hb], fun b l hb => ?_, hr, fun j hj hlj d hdj => ?_, fun t ht => ?_, by rw [show (a.put o.dst u).tmps.size = a.tmps.size by cases o.dst <;> simp [Act.put]]; exact h.size, by rw [show (a.put o.dst u).defers = a.defers by cases o.dst <;> rfl]; exact h.defers, h.head.set hi hin, h.ext.trans (Below.mono hext h.ext.size), fun b l own x hb h1 h2 => ?_, fun j b l own x hj hb h1 h2 cs t fr hh => ?_⟩
  · by_cases hs : (A i).m.length ≤ b ∧ b < (A (i + 1)).m.length
    · exact .inr ⟨i, hin, hseti, hs⟩
    · rw [hseg b hs] at hb
      rcases h.seg b l hb with h1 | ⟨j, h1, h2, h3⟩
      · exact .inl h1
      · exact .inr ⟨j, h1, getD_set_true h2, h3⟩
  · by_cases hji : j = i
    · subst hji
      rw [hd] at hdj
      rw [hdj, getD_put a d d u (by rw [h.size]; exact hok.lt j d hj (by rw [hd]; exact hdj)), if_pos rfl]
      exact hu d hdj
    · have hlj' := (hset j hlj).resolve_left hji
      have hne : o.dst ≠ some d := fun e => hji (hok.uniq j i d hj hin hdj (by rw [hd]; exact e))
      have hg : (a.put o.dst u).tmps.getD d undef = a.tmps.getD d undef := by
        cases hod : o.dst with
        | none => rfl
        | some d' =>
          rw [hod] at hne
          simp only [Act.put, Array.getD_eq_getD_getElem?]
          rw [Array.getElem?_setIfInBounds_ne (fun e => hne (by rw [e]))]
      rw [hg]
      exact AV.rel_mono (upto_mono hle) (h.hit j hj hlj' d hdj)
  · have h1 : o.dst ≠ some t := by rw [← hd]; exact ht i hin hseti
    have hg : (a.put o.dst u).tmps.getD t undef = a.tmps.getD t undef := by
      cases hod : o.dst with
      | none => rfl
      | some d' =>
        rw [hod] at h1
        simp only [Act.put, Array.getD_eq_getD_getElem?]
        rw [Array.getElem?_setIfInBounds_ne (fun e => h1 (by rw [e]))]
    rw [hg]
    exact h.miss t fun j hj hlj => ht j hj (getD_set_true hlj)
  · by_cases hs : (A i).m.length ≤ b ∧ b < (A (i + 1)).m.length
    · exact Nat.le_trans h.ext.size (hfr b l own x hs.1 hs.2 h1 h2)
    · rw [hseg b hs] at h1
      exact h.fresh b l own x hb h1 h2
  · by_cases hs : (A i).m.length ≤ b ∧ b < (A (i + 1)).m.length
    · have hij : i + 1 ≤ j := by
        rcases Nat.lt_or_ge i j with h' | h'
        · exact h'
        · have := hl.len h' (Nat.le_of_lt hin); omega
      exact Arr.relAt_mono (upto_up ι' (hl.len hij hj)) (hce b l own x hs.1 hs.2 h1 h2 cs t fr hh)
    · rw [hseg b hs] at h1
      have hlt := h.r.lt h1 h2
      rw [hext.block l.c hlt] at hh
      exact Arr.relAt_mono (upto_mono hle) (h.cells j b l own x hj hb h1 h2 cs t fr hh)
theorem upto_ro (hl : Line ops n A W V N N0) {ι : Emb} {w : World} (hR : R ι (A n).m w) (hc : CellsUp n A ι w) {i : Nat} (hi : i ≤ n) : R (ι.upto (A i).m.length) (roMem (A i).m) w := by
  refine ⟨fun b hb => if_neg (by rw [roMem_length] at hb; omega), fun b l own x h1 h2 => ?_, fun b b' l l' own own' x x' hne h1 h2 k1 k2 ho => ?_⟩
  · obtain ⟨rfl, o, hm⟩ := roMem_row h2
    have hb : b < (A i).m.length := (List.getElem?_eq_some_iff.1 hm).1
    have h1' : ι b = some l := upto_le _ _ b l h1
    have hm' : (A n).m[b]? = some (.row o x) := by rw [hl.row hi (Nat.le_refl _) hb]; exact hm
    obtain ⟨cs, t, fr, k1, k2, k3, k4⟩ := hR.rows b l o x h1' hm'
    exact ⟨cs, t, fr, k1, k2, hc i b l o x hi hb h1' hm' cs t fr k1, fun h => by cases h⟩
  · obtain ⟨rfl, _⟩ := roMem_row k1
    obtain ⟨rfl, _⟩ := roMem_row k2
    rcases ho with h | h <;> cases h
theorem ro_owned {ι : Emb} {m : Mem} {c : Nat} (h : Owned ι (roMem m) c) : False := by
  obtain ⟨b, l, x, _, hm, _⟩ := h
  obtain ⟨h, _⟩ := roMem_row hm
  cases h
theorem ro_R {ι : Emb} {m : Mem} {w : World} (h : R ι m w) : R ι (roMem m) w := by
  refine ⟨fun b hb => h.dom b (by rw [roMem_length] at hb; exact hb), fun b l own x h1 h2 => ?_, fun b b' l l' own own' x x' _ _ _ k1 k2 ho => ?_⟩
  · obtain ⟨rfl, o, hm⟩ := roMem_row h2
    obtain ⟨cs, t, fr, g1, g2, g3, _⟩ := h.rows b l o x h1 hm
    exact ⟨cs, t, fr, g1, g2, g3, fun h => by cases h⟩
  · obtain ⟨rfl, _⟩ := roMem_row k1
    obtain ⟨rfl, _⟩ := roMem_row k2
    rcases ho with h | h <;> cases h
theorem ro_step {ι ι' : Emb} {m N : Mem} {w w' : World} (hR : R ι m w) (h : Step m.length ι (roMem m) w ι' (roMem m ++ N) w') : Step m.length ι m w ι' (m ++ N) w' := by
  have hle : ι.le ι' := fun b l hb => by
    have : b < m.length := by
      rcases Nat.lt_or_ge b m.length with h' | h'
      · exact h'
      · rw [hR.dom b h'] at hb; cases hb
    rw [h.ext b this]; exact hb
  have new : ∀ {b own x}, m.length ≤ b → (m ++ N)[b]? = some (.row own x) → (roMem m ++ N)[b]? = some (.row own x) := fun {b own x} hb hm => by
    rw [List.getElem?_append_right hb] at hm
    rw [List.getElem?_append_right (by rw [roMem_length]; exact hb), roMem_length]; exact hm
  have old : ∀ {b own x}, b < m.length → (m ++ N)[b]? = some (.row own x) → m[b]? = some (.row own x) := fun {b own x} hb hm => by rw [List.getElem?_append_left hb] at hm; exact hm
  have far : ∀ {b l own x}, m.length ≤ b → ι' b = some l → (m ++ N)[b]? = some (.row own x) → w.heap.size ≤ l.c := fun {b l own x} hb hl hm => by
    rcases h.news b l own x hb hl (new hb hm) with h3 | h3 | ⟨b0, l0, o0, x0, h4, h5, h6, _⟩
    · exact h3
    · exact (ro_owned h3).elim
    · exact (no_row (by rw [roMem_length]; exact h4) h6).elim
  refine ⟨⟨fun b hb => h.r.dom b (by simpa [roMem_length] using hb), fun b l own x hb hm => ?_, fun b b' l l' own own' x x' hne hb hb' hm hm' hoo => ?_⟩, ⟨h.trans.os, h.trans.tape, h.trans.output, h.trans.size, fun c hc _ => h.trans.keep c hc ro_owned, fun c hc => ?_⟩, h.ext, by simp, fun b x hb hm => by rw [List.getElem?_append_left hb]; exact hm, fun b own x hb hm => ⟨x, old hb hm⟩, fun b l own x hb h1 h2 => .inl (far hb h1 h2)⟩
  · rcases Nat.lt_or_ge b m.length with hs | hs
    · rw [h.ext b hs] at hb
      obtain ⟨cs, t, fr, k1, k2, k3, k4⟩ := hR.rows b l own x hb (old hs hm)
      exact ⟨cs, t, fr, by rw [h.trans.keep l.c (hR.lt hb (old hs hm)) ro_owned]; exact k1, k2, k3.mono' hle, k4⟩
    · exact h.r.rows b l own x hb (new hs hm)
  · rcases Nat.lt_or_ge b m.length with hs | hs <;> rcases Nat.lt_or_ge b' m.length with hs' | hs'
    · rw [h.ext b hs] at hb
      rw [h.ext b' hs'] at hb'
      exact hR.inj b b' l l' own own' x x' hne hb hb' (old hs hm) (old hs' hm') hoo
    · rw [h.ext b hs] at hb
      have h1 := hR.lt hb (old hs hm)
      have h2 := far hs' hb' hm'
      omega
    · rw [h.ext b' hs'] at hb'
      have h1 := hR.lt hb' (old hs' hm')
      have h2 := far hs hb hm
      omega
    · exact h.r.inj b b' l l' own own' x x' hne hb hb' (new hs hm) (new hs' hm') hoo
  · obtain ⟨b, l, x, hb, hm, rfl⟩ := hc
    rcases Nat.lt_or_ge b m.length with hs | hs
    · rw [h.ext b hs] at hb
      exact .inr ⟨b, l, x, hb, old hs hm, rfl⟩
    · exact .inl (far hs hb hm)
theorem InvD.agree (hl : Line ops n A W V N N0) {ι0 : Emb} {w0 : World} {a0 : Act} (hok : OkX ops n a0.tmps.size) (hf : FRel ι0 (A 0) a0) (hR0 : R ι0 (A 0).m w0) {listed : Array Bool} {ι : Emb} {a : Act} {w : World} (h : InvD ops n A ι0 w0 a0 listed ι a w)
    {i : Nat} (hin : i < n) {o : Oper} (ho : ops[i]? = some o) (hb : ∀ j, bef ops i j = true → listed.getD j false = true) (hun : listed.getD i false = false) :
    ∀ t ∈ o.looksAt ops, ((A i).t t).rel (ι.upto (A i).m.length) (a.tmps.getD t undef) := by
  intro t ht
  have hlow : ι0.le (ι.upto (A i).m.length) := fun b l hbl => by
    have hb0 : b < (A 0).m.length := by
      rcases Nat.lt_or_ge b (A 0).m.length with h' | h'
      · exact h'
      · rw [hR0.dom b h'] at hbl; cases hbl
    have := hl.len (Nat.zero_le i) (Nat.le_of_lt hin)
    unfold Emb.upto
    rw [if_pos (by omega), h.low b hb0]; exact hbl
  by_cases hex : ∃ j, j < n ∧ dstAt ops j = some t
  · obtain ⟨j, hj, hd⟩ := hex
    rcases hok.look i o t j hin ho ht hj hd with ⟨hji, hbij⟩ | ⟨hij, hbji⟩
    · have hlj := hb j hbij
      rw [hl.slot (i := j + 1) (by omega) (Nat.le_of_lt hin) (fun l h1 h2 hd' => by have := hok.uniq l j t (by omega) hj hd' hd; omega)]
      exact AV.rel_mono (upto_up ι (hl.len (show j + 1 ≤ i by omega) (Nat.le_of_lt hin))) (h.hit j hj hlj t hd)
    · have hnl : listed.getD j false ≠ true := fun hlt => by
        have hjs : j < ops.size := by have := hl.hn; omega
        have := bef_spec h.head.closed hbji (Array.getElem?_eq_getElem hjs) (h.head.closed j _ (Array.getElem?_eq_getElem hjs) hlt)
        rw [hun] at this; cases this
      rw [h.miss t (fun j' hj' hl' hd' => hnl (by rw [← hok.uniq j' j t hj' hj hd' hd]; exact hl')), hl.slot (i := 0) (Nat.zero_le i) (Nat.le_of_lt hin) (fun l _ h2 hd' => by have := hok.uniq l j t (by omega) hj hd' hd; omega)]
      exact AV.rel_mono hlow (hf.rel t)
  · have hno : ∀ j, j < n → dstAt ops j ≠ some t := fun j hj hd => hex ⟨j, hj, hd⟩
    rw [h.miss t (fun j hj _ => hno j hj), hl.slot (i := 0) (Nat.zero_le i) (Nat.le_of_lt hin) (fun l _ h2 => hno l (by omega))]
    exact AV.rel_mono hlow (hf.rel t)
theorem InvD.run {P : Program} {Q' : Exit → Act → World → Prop} (hl : Line ops n A W V N N0) (hW : ∀ i o, i < n → ops[i]? = some o → evWanted ops (A i).t o = some (W i))
    (hV : ∀ i o, i < n → ops[i]? = some o → W i = true → Sound P (.op o.op (opnd (A i).t) (roMem (A i).m)) (.val (V i) (roMem (A i).m ++ N i)))
    {ι0 : Emb} {w0 : World} {a0 : Act} (hok : OkX ops n a0.tmps.size) (hf : FRel ι0 (A 0) a0) (hR0 : R ι0 (A 0).m w0) {listed : Array Bool} {ι : Emb} {a : Act} {w : World} (h : InvD ops n A ι0 w0 a0 listed ι a w)
    {i : Nat} (hi : i ∈ Region.ready .any ops listed) (hin : i < n) {K : Act → World → Prop} (hK : ∀ ι' a' w', InvD ops n A ι0 w0 a0 (listed.setIfInBounds i true) ι' a' w' → K a' w') : wpOp P ops Q' i K a w := by
  have hr := mem_ready.1 hi
  have hun : listed.getD i false = false := getD_both hr.1
  obtain ⟨_, o, ho, hall⟩ := hr
  have hdeps : ∀ j, bef ops i j = true → listed.getD j false = true := fun j hb => bef_spec h.head.closed hb ho hall
  have hag := h.agree hl hok hf hR0 hin ho hdeps hun
  have hwant : Region.wanted o (yielded ops a.tmps) = W i := by
    refine wanted_rel (ι := ι.upto (A i).m.length) (fun d ⟨g, hg, hd⟩ => hag d ?_) (hW i o hin ho)
    obtain ⟨g1, g2⟩ := g
    simp [Oper.looksAt, hg]
    exact .inr (by simpa using hd)
  have hRi := upto_ro hl h.r h.cells (Nat.le_of_lt hin)
  have hopnd : ∀ x ∈ o.op.operands, (opnd (A i).t x).rel (ι.upto (A i).m.length) (a.eval x) := by
    intro x hx
    cases x with
    | tmp t =>
      exact hag t (List.mem_append_left _ (List.mem_filterMap.2 ⟨.tmp t, by simpa using hx, rfl⟩))
    | const v => exact AV.rel_of0 (absV_rel _ v)
    | global g => trivial
    | func f => rfl
  have hstep := hl.step i o hin ho
  unfold wpOp
  simp only [ho]
  rw [hwant]
  by_cases hw : W i = true
  · rw [hw, if_pos rfl]
    rw [if_pos hw] at hstep
    refine .inl ?_
    have hgood := hV i o hin ho hw o (ι.upto (A i).m.length) w a.eval rfl hRi hopnd
    refine hgood.wp rfl fun u w' ι1 hv hst => ?_
    have hlenA : (A (i + 1)).m.length = (roMem (A i).m ++ N i).length := by rw [hstep]; simp [roMem_length]
    have hlo : (A i).m.length ≤ (A (i + 1)).m.length := (hl.mem1 hin).1
    have hhi : (A (i + 1)).m.length ≤ (A n).m.length := hl.len (by omega) (Nat.le_refl _)
    rw [roMem_length] at hst
    -- the places of all that has been made
    have hle1 : ∀ b l, ι1 b = some l → b < (A (i + 1)).m.length := fun b l hb => by
      rcases Nat.lt_or_ge b (A (i + 1)).m.length with h' | h'
      · exact h'
      · rw [hst.r.dom b (by rw [← hlenA]; exact h')] at hb; cases hb
    have segnone : ∀ b, (A i).m.length ≤ b → b < (A (i + 1)).m.length → ι b = none := fun b h1 h2 => by
      cases hb : ι b with
      | none => rfl
      | some l =>
        rcases h.seg b l hb with h3 | ⟨j, h3, h4, h5, h6⟩
        · have := hl.len (Nat.zero_le i) (Nat.le_of_lt hin); omega
        · have hij : j ≠ i := fun e => by rw [e, hun] at h4; cases h4
          rcases Nat.lt_or_ge j i with h7 | h7
          · have := hl.len (show j + 1 ≤ i by omega) (Nat.le_of_lt hin); omega
          · have := hl.len (show i + 1 ≤ j by omega) (Nat.le_of_lt h3); omega
    let ι2 : Emb := fun b => if (A i).m.length ≤ b ∧ b < (A (i + 1)).m.length then ι1 b else ι b
    have i2in : ∀ b, (A i).m.length ≤ b → b < (A (i + 1)).m.length → ι2 b = ι1 b := fun b h1 h2 => if_pos ⟨h1, h2⟩
    have i2out : ∀ b, ¬ ((A i).m.length ≤ b ∧ b < (A (i + 1)).m.length) → ι2 b = ι b := fun b hb => if_neg hb
    have hle : ι.le ι2 := fun b l hb => by
      by_cases hs : (A i).m.length ≤ b ∧ b < (A (i + 1)).m.length
      · rw [segnone b hs.1 hs.2] at hb; cases hb
      · rw [i2out b hs]; exact hb
    have h12 : ι1.le (ι2.upto (A (i + 1)).m.length) := fun b l hb => by
      have hlt := hle1 b l hb
      unfold Emb.upto
      rw [if_pos hlt]
      by_cases hs : (A i).m.length ≤ b
      · rw [i2in b hs hlt]; exact hb
      · rw [i2out b (by omega)]
        have := hst.ext b (by omega)
        rw [this] at hb
        exact upto_le _ _ b l hb
    have newrow : ∀ {b own x}, (A i).m.length ≤ b → b < (A (i + 1)).m.length → (A n).m[b]? = some (.row own x) → (roMem (A i).m ++ N i)[b]? = some (.row own x) := by
      intro b own x h1 h2 hm
      rw [hl.row (show i + 1 ≤ n by omega) (Nat.le_refl _) h2, hstep] at hm
      rw [List.getElem?_append_right (by omega)] at hm
      rw [List.getElem?_append_right (by rw [roMem_length]; omega), roMem_length]; exact hm
    have hext : Below w.heap.size w w' := ⟨hst.trans.os, hst.trans.tape, hst.trans.output, hst.trans.size, fun c hc => hst.trans.keep c hc ro_owned⟩
    have hfr : ∀ b l own x, (A i).m.length ≤ b → b < (A (i + 1)).m.length → ι2 b = some l → (A n).m[b]? = some (.row own x) → w.heap.size ≤ l.c := by
      intro b l own x h1 h2 hb hm
      rw [i2in b h1 h2] at hb
      rcases hst.news b l own x h1 hb (newrow h1 h2 hm) with h3 | h3 | ⟨b0, l0, o0, x0, h4, h5, h6, _⟩
      · exact h3
      · exact (ro_owned h3).elim
      · exact (no_row (by rw [roMem_length]; exact h4) h6).elim
    have hR2 : R ι2 (A n).m w' := by
      refine ⟨fun b hb => ?_, fun b l own x hb hm => ?_, fun b b' l l' own own' x x' hne hb hb' hm hm' hoo => ?_⟩
      · rw [i2out b (by omega)]; exact h.r.dom b hb
      · by_cases hs : (A i).m.length ≤ b ∧ b < (A (i + 1)).m.length
        · rw [i2in b hs.1 hs.2] at hb
          obtain ⟨cs, t, fr, k1, k2, k3, k4⟩ := hst.r.rows b l own x hb (newrow hs.1 hs.2 hm)
          exact ⟨cs, t, fr, k1, k2, Arr.relAt_mono (upto_le _ _) (Arr.relAt_mono h12 k3), k4⟩
        · rw [i2out b hs] at hb
          obtain ⟨cs, t, fr, k1, k2, k3, k4⟩ := h.r.rows b l own x hb hm
          exact ⟨cs, t, fr, by rw [hext.block l.c (h.r.lt hb hm)]; exact k1, k2, k3.mono' hle, k4⟩
      · by_cases hs : (A i).m.length ≤ b ∧ b < (A (i + 1)).m.length <;> by_cases hs' : (A i).m.length ≤ b' ∧ b' < (A (i + 1)).m.length
        · rw [i2in b hs.1 hs.2] at hb
          rw [i2in b' hs'.1 hs'.2] at hb'
          exact hst.r.inj b b' l l' own own' x x' hne hb hb' (newrow hs.1 hs.2 hm) (newrow hs'.1 hs'.2 hm') hoo
        · have h1 := hfr b l own x hs.1 hs.2 hb hm
          rw [i2out b' hs'] at hb'
          have h2 := h.r.lt hb' hm'
          omega
        · have h1 := hfr b' l' own' x' hs'.1 hs'.2 hb' hm'
          rw [i2out b hs] at hb
          have h2 := h.r.lt hb hm
          omega
        · rw [i2out b hs] at hb
          rw [i2out b' hs'] at hb'
          exact h.r.inj b b' l l' own own' x x' hne hb hb' hm hm' hoo
    refine hK ι2 _ _ (h.next hl hok hi hin ho hle i2out hR2 (fun d hd => ?_) hext hfr (fun b l own x h1 h2 hb hm cs t fr hh => ?_))
    · rw [hstep]
      show (putT (A i).t o.dst (V i) d).rel _ _
      rw [hd]
      show (upd (A i).t d (V i) d).rel _ _
      rw [upd_eq]
      have := AV.rel_mono h12 hv
      rw [hstep] at this
      exact this
    · rw [i2in b h1 h2] at hb
      obtain ⟨cs', t', fr', k1, k2, k3, k4⟩ := hst.r.rows b l own x hb (newrow h1 h2 hm)
      rw [hh] at k1; cases k1
      exact Arr.relAt_mono h12 k3
  · have hw' : W i = false := by cases hc : W i <;> simp_all
    rw [hw']
    rw [if_neg hw] at hstep
    have hm : (A (i + 1)).m = (A i).m := by rw [hstep]
    refine hK ι _ _ (h.next hl hok hi hin ho (fun _ _ h => h) (fun _ _ => rfl) h.r (fun d hd => ?_) (Below.refl _ _) (fun b l own x h1 h2 => by rw [hm] at h2; omega) (fun b l own x h1 h2 => by rw [hm] at h2; omega))
    rw [hstep]
    show (putT (A i).t o.dst noV d).rel _ _
    rw [hd]
    show (upd (A i).t d noV d).rel _ _
    rw [upd_eq]
    rfl
theorem InvD.any {P : Program} {Q' : Exit → Act → World → Prop} {k : Nat} (hl : Line ops n A W V N N0) (hW : ∀ i o, i < n → ops[i]? = some o → evWanted ops (A i).t o = some (W i))
    (hV : ∀ i o, i < n → ops[i]? = some o → W i = true → Sound P (.op o.op (opnd (A i).t) (roMem (A i).m)) (.val (V i) (roMem (A i).m ++ N i)))
    {ι0 : Emb} {w0 : World} {a0 : Act} (hall : Region.okAll ops n a0.tmps.size = true) (hf : FRel ι0 (A 0) a0) (hR0 : R ι0 (A 0).m w0) (hk : k ≤ (A 0).m.length)
    (hQ : ∀ ι' a' w', FRel ι' (A n) a' → a'.defers = a0.defers → Step k ι0 (A 0).m w0 ι' (A n).m w' → wpList P ops Q' (ops.toList.drop n) a' w') :
    ∀ (f : Nat) (un : List Nat) (listed : Array Bool) (ι : Emb) (a : Act) (w : World), un.length = f → un.Nodup → (∀ j, j ∈ un ↔ j < n ∧ listed.getD j false = false) → InvD ops n A ι0 w0 a0 listed ι a w →
      wpAny P .any ops Q' (f + (ops.size - n)) listed a w := by
  simp only [Region.okAll, Bool.and_eq_true, Bool.or_eq_true, decide_eq_true_eq] at hall
  obtain ⟨⟨⟨⟨hn, hok0⟩, htail⟩, hseq⟩, hback⟩ := hall
  have hok := Region.okX_spec hok0
  intro f
  induction f with
  | zero =>
    intro un listed ι a w hlu _ hun h
    obtain rfl : un = [] := List.length_eq_zero_iff.1 hlu
    have hdone : ∀ j, j < n → listed.getD j false = true := fun j hj => by
      cases hb : listed.getD j false with
      | true => rfl
      | false => have := (hun j).2 ⟨hj, hb⟩; simp at this
    have hlisted : listed = headListed n ops.size := by
      apply Array.ext_getElem?
      intro j
      by_cases hj : j < ops.size
      · have hjl : j < listed.size := by rw [h.head.size]; exact hj
        have e : (headListed n ops.size)[j]? = some (decide (j < n)) := by simp [headListed, hj]
        rw [e, Array.getElem?_eq_getElem hjl]
        congr 1
        by_cases hjn : j < n
        · have := hdone j hjn; simpa [hjl, hjn] using this
        · have := h.head.tail j (by omega) hj; simpa [hjl, hjn] using this
      · rw [Array.getElem?_eq_none (by rw [h.head.size]; omega), Array.getElem?_eq_none (by simp [headListed]; omega)]
    have h0n := hl.len (Nat.zero_le n) (Nat.le_refl n)
    have hlow : ι0.le ι := fun b l hbl => by
      have hb0 : b < (A 0).m.length := by
        rcases Nat.lt_or_ge b (A 0).m.length with h' | h'
        · exact h'
        · rw [hR0.dom b h'] at hbl; cases hbl
      rw [h.low b hb0]; exact hbl
    have hnn : ∀ i, (A i).n = N0 ∨ i = 0 ∨ n < i := fun i => by
      rcases Nat.eq_zero_or_pos i with h0 | h0
      · exact .inr (.inl h0)
      · rcases Nat.lt_or_ge n i with h1 | h1
        · exact .inr (.inr h1)
        · obtain ⟨o, ho⟩ := hl.at (show i - 1 < n by omega)
          have := hl.step (i - 1) o (by omega) ho
          rw [show i - 1 + 1 = i by omega] at this
          rw [this]; left; split <;> rfl
    have hq := hQ ι a w ⟨?_, fun t => ?_⟩ h.defers ⟨h.r, ⟨h.ext.os, h.ext.tape, h.ext.output, h.ext.size, fun c hc _ => h.ext.block c hc, fun c hc => ?_⟩, fun b hb => h.low b (by omega), by omega, fun b x hb hm => ?_, fun b own x hb hm => ?_, fun b l own x hb h1 h2 => ?_⟩
    · have hdl : (ops.toList.drop n).length = ops.size - n := by simp
      have := wpAny_of_seq (md := .any) (Q' := Q') (ops.toList.drop n) n listed a w (fun j => by simp [List.getElem?_drop]) (by rw [hdl, hlisted]; exact hseq) hq
      rw [hdl] at this
      rw [Nat.zero_add]
      exact this
    · rw [h.size, hf.size, hl.h0]
      rcases hnn n with h0 | h0 | h0
      · exact h0.symm
      · rw [h0]; exact hl.h0.symm
      · omega
    · by_cases hex : ∃ j, j < n ∧ dstAt ops j = some t
      · obtain ⟨j, hj, hd⟩ := hex
        rw [hl.slot (i := j + 1) (by omega) (Nat.le_refl n) (fun l h1 h2 hd' => by have := hok.uniq l j t (by omega) hj hd' hd; omega)]
        exact AV.rel_mono (upto_le _ _) (h.hit j hj (hdone j hj) t hd)
      · have hno : ∀ j, j < n → dstAt ops j ≠ some t := fun j hj hd => hex ⟨j, hj, hd⟩
        rw [h.miss t (fun j hj _ => hno j hj), hl.slot (i := 0) (Nat.zero_le n) (Nat.le_refl n) (fun l _ h2 => hno l (by omega))]
        exact AV.rel_mono hlow (hf.rel t)
    · obtain ⟨b, l, x, h1, h2, rfl⟩ := hc
      rcases Nat.lt_or_ge b (A 0).m.length with h3 | h3
      · rw [h.low b h3] at h1
        rw [hl.row (Nat.zero_le n) (Nat.le_refl n) h3] at h2
        exact .inr ⟨b, l, x, h1, h2, rfl⟩
      · exact .inl (h.fresh b l true x h3 h1 h2)
    · rw [hl.row (Nat.zero_le n) (Nat.le_refl n) (by omega)]; exact hm
    · rw [hl.row (Nat.zero_le n) (Nat.le_refl n) (by omega)] at hm; exact ⟨x, hm⟩
    · rcases Nat.lt_or_ge b (A 0).m.length with h3 | h3
      · rw [h.low b h3] at h1
        rw [hl.row (Nat.zero_le n) (Nat.le_refl n) h3] at h2
        exact .inr (.inr ⟨b, l, own, x, hb, h1, h2, rfl⟩)
      · exact .inl (h.fresh b l own x h3 h1 h2)
  | succ f ih =>
    intro un listed ι a w hlu hnd hun h
    obtain ⟨i0, hi0⟩ : ∃ i0, i0 ∈ un := by cases un with | nil => simp at hlu | cons x _ => exact ⟨x, List.mem_cons_self⟩
    have least : ∀ m i, i ≤ m → i ∈ un → ∃ j, j ∈ Region.ready .any ops listed := by
      intro m
      induction m with
      | zero =>
        intro i him hiu
        obtain ⟨hin, hb⟩ := (hun i).1 hiu
        have his : i < listed.size := by rw [h.head.size]; omega
        refine ⟨i, mem_ready.2 ⟨getD_in his hb, ops[i]'(by omega), Array.getElem?_eq_getElem (by omega), fun e he hbind => ?_⟩⟩
        have := List.all_eq_true.1 hback i (List.mem_range.2 (by omega))
        rw [Array.getElem?_eq_getElem (show i < ops.size by omega)] at this
        have := Array.all_eq_true_iff_forall_mem.1 this e he
        simp only [hbind, Bool.not_true, Bool.false_or, decide_eq_true_eq] at this
        omega
      | succ m ihm =>
        intro i him hiu
        obtain ⟨hin, hb⟩ := (hun i).1 hiu
        have his : i < listed.size := by rw [h.head.size]; omega
        by_cases hall : ∀ e ∈ (ops[i]'(by omega)).after, Region.binds .any e = true → listed.getD e.on false = true
        · exact ⟨i, mem_ready.2 ⟨getD_in his hb, _, Array.getElem?_eq_getElem (by omega), hall⟩⟩
        · have : ∃ e ∈ (ops[i]'(by omega)).after, Region.binds .any e = true ∧ listed.getD e.on false = false := by
            apply Classical.byContradiction
            intro hc
            apply hall
            intro e he hbind
            cases hlb : listed.getD e.on false with
            | true => rfl
            | false => exact absurd ⟨e, he, hbind, hlb⟩ hc
          obtain ⟨e, he, hbind, hlb⟩ := this
          have hlt := List.all_eq_true.1 hback i (List.mem_range.2 (by omega))
          rw [Array.getElem?_eq_getElem (show i < ops.size by omega)] at hlt
          have hlt := Array.all_eq_true_iff_forall_mem.1 hlt e he
          simp only [hbind, Bool.not_true, Bool.false_or, decide_eq_true_eq] at hlt
          exact ihm e.on (by omega) ((hun e.on).2 ⟨by omega, hlb⟩)
    rw [show f + 1 + (ops.size - n) = (f + (ops.size - n)) + 1 by omega]
    refine ⟨fun hnil => ?_, fun i hi => ?_⟩
    · obtain ⟨j, hj⟩ := least i0 i0 (Nat.le_refl _) hi0
      rw [hnil] at hj; cases hj
    · have hun0 := (mem_ready.1 hi).1
      have hin : i < n := by
        rcases Nat.lt_or_ge i n with hlt | hge
        · exact hlt
        · obtain ⟨_, o, ho, _⟩ := mem_ready.1 hi
          have his : i < ops.size := (Array.getElem?_eq_some_iff.1 ho).1
          rcases htail with he | ⟨hs, hc⟩
          · omega
          · obtain ⟨hi0n, hb0⟩ := (hun i0).1 hi0
            exact absurd hi (tail_waits hs hc (by omega) h.head _ i0 rfl hi0n (getD_in (by rw [h.head.size]; omega) hb0) i hge)
      refine h.run hl hW hV hok hf hR0 hi hin fun ι' a' w' h' => ?_
      have himem : i ∈ un := (hun i).2 ⟨hin, getD_both hun0⟩
      refine ih (un.erase i) _ ι' a' w' (by rw [List.length_erase_of_mem himem, hlu]; rfl) (hnd.erase i) (fun j => ?_) h'
      rw [hnd.mem_erase_iff, hun j]
      by_cases hji : j = i
      · subst hji
        have his : j < listed.size := by rw [h.head.size]; omega
        simp [his]
      · rw [getD_set_ne false (fun e => hji e.symm)]
        simp [hji]
theorem draw_any {P : Program} {Q : Exit → Act → World → Prop} {k : Nat} (hl : Line ops n A W V N (A 0).n) (hW : ∀ i o, i < n → ops[i]? = some o → evWanted ops (A i).t o = some (W i))
    (hV : ∀ i o, i < n → ops[i]? = some o → W i = true → Sound P (.op o.op (opnd (A i).t) (roMem (A i).m)) (.val (V i) (roMem (A i).m ++ N i)))
    (hall : Region.okAll ops n (A 0).n = true) {ι : Emb} {w : World} {a : Act} (hf : FRel ι (A 0) a) (hR : R ι (A 0).m w) (hk : k ≤ (A 0).m.length)
    (hQ : ∀ ι' a' w', FRel ι' (A n) a' → a'.defers = a.defers → Step k ι (A 0).m w ι' (A n).m w' → wpList P ops Q (ops.toList.drop n) a' w') : wpAny P .any ops Q ops.size (Array.replicate ops.size false) a w.drew := by
  have hn := hl.hn
  have hRd : R ι (A 0).m w.drew := ⟨hR.dom, hR.rows, hR.inj⟩
  have h0n := hl.len (Nat.zero_le n) (Nat.le_refl n)
  have hinv : InvD ops n A ι w.drew a (Array.replicate ops.size false) ι a w.drew := by
    refine ⟨fun _ _ => rfl, fun b l hb => .inl ?_, ⟨fun b hb => hR.dom b (by omega), fun b l own x hb hm => ?_, fun b b' l l' o o' x x' hne hb hb' hm hm' ho => ?_⟩, fun j _ hl => (by rw [getD_replicate_false] at hl; cases hl), fun _ _ => rfl, rfl, rfl,
      ⟨by simp, fun j oj _ hl => (by rw [getD_replicate_false] at hl; cases hl), fun t _ ht => getD_in (by simpa using ht) (getD_replicate_false _ _)⟩, Below.refl _ _, fun b l own x hb h1 h2 => ?_, fun i b l own x hi hb h1 h2 cs t fr hh => ?_⟩
    all_goals
      have inlow : ∀ b l, ι b = some l → b < (A 0).m.length := fun b l hb => by
        rcases Nat.lt_or_ge b (A 0).m.length with h' | h'
        · exact h'
        · rw [hR.dom b h'] at hb; cases hb
    · exact inlow b l hb
    · rw [hl.row (Nat.zero_le n) (Nat.le_refl n) (inlow b l hb)] at hm
      exact hRd.rows b l own x hb hm
    · rw [hl.row (Nat.zero_le n) (Nat.le_refl n) (inlow b l hb)] at hm
      rw [hl.row (Nat.zero_le n) (Nat.le_refl n) (inlow b' l' hb')] at hm'
      exact hRd.inj b b' l l' o o' x x' hne hb hb' hm hm' ho
    · have := inlow b l h1; omega
    · rw [hl.row (Nat.zero_le n) (Nat.le_refl n) (inlow b l h1)] at h2
      obtain ⟨cs', t', fr', k1, k2, k3, k4⟩ := hRd.rows b l own x h1 h2
      rw [hh] at k1; cases k1
      refine Arr.relAt_mono (fun b l hb => ?_) k3
      have h3 := inlow b l hb
      have h4 := hl.len (Nat.zero_le i) hi
      unfold Emb.upto
      rw [if_pos (by omega)]; exact hb
  have := InvD.any (Q' := Q) hl hW hV (by rw [hf.size]; exact hall) hf hRd hk (fun ι' a' w' h1 h2 h3 => hQ ι' a' w' h1 h2 ⟨h3.r, ⟨h3.trans.os, h3.trans.tape, h3.trans.output, h3.trans.size, h3.trans.keep, h3.trans.fresh⟩, h3.ext, h3.len, h3.ro, h3.old, h3.news⟩) n (List.range n) _ _ _ _ (by simp) List.nodup_range (fun j => by rw [getD_replicate_false]; simp) hinv
  have e : n + (ops.size - n) = ops.size := by omega
  rw [e] at this
  exact this
theorem draw_sound {P : Program} {Q : Exit → Act → World → Prop} {id k : Nat} (hm : P.follows .mixedOrders = true) (hl : Line ops n A W V N (A 0).n) (hW : ∀ i o, i < n → ops[i]? = some o → evWanted ops (A i).t o = some (W i))
    (hV : ∀ i o, i < n → ops[i]? = some o → W i = true → Sound P (.op o.op (opnd (A i).t) (roMem (A i).m)) (.val (V i) (roMem (A i).m ++ N i)))
    (hall : Region.okAll ops n (A 0).n = true) {ι : Emb} {w : World} {a : Act} (hf : FRel ι (A 0) a) (hR : R ι (A 0).m w) (hk : k ≤ (A 0).m.length)
    (hQ : ∀ ι' a' w', FRel ι' (A n) a' → a'.defers = a.defers → Step k ι (A 0).m w ι' (A n).m w' → wpList P ops Q (ops.toList.drop n) a' w') : (Code.region id ops true).wp P Q a w := wp_region_any hm (draw_any hl hW hV hall hf hR hk hQ)
theorem late_sound {P : Program} {Q : Exit → Act → World → Prop} {id k i0 : Nat} (hm : P.follows .mixedOrders = true) (hc : lateCheck ops n i0 = true) (hl : Line (lateOps ops n i0) n A W V N (A 0).n) (hW : ∀ i o, i < n → (lateOps ops n i0)[i]? = some o → evWanted (lateOps ops n i0) (A i).t o = some (W i))
    (hV : ∀ i o, i < n → (lateOps ops n i0)[i]? = some o → W i = true → Sound P (.op o.op (opnd (A i).t) (roMem (A i).m)) (.val (V i) (roMem (A i).m ++ N i)))
    (hall : Region.okAll (lateOps ops n i0) n (A 0).n = true) {ι : Emb} {w : World} {a : Act} (hf : FRel ι (A 0) a) (hR : R ι (A 0).m w) (hk : k ≤ (A 0).m.length)
    (hQ : ∀ ι' a' w', FRel ι' (A n) a' → a'.defers = a.defers → Step k ι (A 0).m w ι' (A n).m w' → wpList P (lateOps ops n i0) (nrm Q) ((lateOps ops n i0).toList.drop n) a' w') : (Code.region id ops true).wp P Q a w := by
  obtain ⟨oi, on, hlo⟩ := lateCheck_spec hc
  have h1 := draw_any hl hW hV hall hf hR hk hQ
  rw [late_size] at h1
  have h2 := late_any hlo _ _ _ _ (by simp) h1
  exact wp_mono (wp_region_any hm h2) fun e a w h => by obtain ⟨rfl, h⟩ := h; exact h
end
end Go.Proofs.Ytcgncafhonlmlaa
namespace Go.Proofs.Ytcgncafhonlmlaa
open Go.RowKit
structure OkS (ops : Array Oper) (size : Nat) : Prop where
  ok : OkX ops ops.size size
  guard : ∀ (i : Nat) (o : Oper), ops[i]? = some o → o.guard = none
  dst : ∀ (i : Nat) (o : Oper), ops[i]? = some o → isStore o = true → o.dst = none
  chain : ∀ (i j : Nat) (o o' : Oper), i < j → ops[i]? = some o → ops[j]? = some o' → isStore o = true → isStore o' = true → bef ops j i = true
  back : ∀ (i : Nat) (o : Oper) (e : Edge), ops[i]? = some o → e ∈ o.after → Region.binds .any e = true → e.on < i
theorem Region.okStores_spec {ops : Array Oper} {size : Nat} (h : Region.okStores ops size = true) : OkS ops size := by
  simp only [Region.okStores, Bool.and_eq_true, List.all_eq_true, List.mem_range] at h
  obtain ⟨h1, h2⟩ := h
  have lt : ∀ {i : Nat} {o : Oper}, ops[i]? = some o → i < ops.size := fun ho => (Array.getElem?_eq_some_iff.1 ho).1
  refine ⟨Region.okX_spec h1, fun i o ho => ?_, fun i o ho hs => ?_, fun i j o o' hij ho ho' hs hs' => ?_, fun i o e ho he hb => ?_⟩
  · have := h2 i (lt ho)
    rw [ho] at this
    simp only [Bool.and_eq_true, Option.isNone_iff_eq_none] at this
    exact this.1.1
  · have := h2 i (lt ho)
    rw [ho] at this
    simp only [Bool.and_eq_true, Bool.or_eq_true, hs, Bool.not_true, Bool.false_eq_true, false_or, Option.isNone_iff_eq_none] at this
    exact this.1.2.1
  · have := h2 i (lt ho)
    rw [ho] at this
    simp only [Bool.and_eq_true, Bool.or_eq_true, hs, Bool.not_true, Bool.false_eq_true, false_or, List.all_eq_true, List.mem_range] at this
    have := this.1.2.2 j (lt ho')
    rw [ho'] at this
    simpa [hs', hij] using this
  · have := h2 i (lt ho)
    rw [ho] at this
    simp only [Bool.and_eq_true] at this
    have := Array.all_eq_true_iff_forall_mem.1 this.2 e he
    simpa [hb] using this
structure LineS (P : Program) (ops : Array Oper) (A : Nat → St) (V : Nat → AV) (N0 : Nat) : Prop where
  h0 : (A 0).n = N0
  pure : ∀ (i : Nat) (o : Oper), ops[i]? = some o → isStore o = false → (evVal P (opnd (A i).t) (deadMem (A 0).m.length) o.op = some (V i) ∨ (early ops i = true ∧ Sound P (.op o.op (opnd (A i).t) (A 0).m) (.val (V i) (A 0).m)) ∨ ∃ Mk : Mem, (∀ c, c ≤ ops.size → ∀ (ι : Emb) (w : World), R ι (A c).m w → R ι Mk w) ∧ evVal P (opnd (A i).t) Mk o.op = some (V i)) ∧ A (i + 1) = ⟨N0, putT (A i).t o.dst (V i), (A i).m⟩
  store : ∀ (i : Nat) (o : Oper), ops[i]? = some o → isStore o = true → ∃ v m', evMem P (opnd (A i).t) (A i).m o.op = some (v, m') ∧ m'.length = (A i).m.length ∧ A (i + 1) = ⟨N0, (A i).t, m'⟩
section
variable {P : Program} {ops : Array Oper} {A : Nat → St} {V : Nat → AV} {N0 : Nat}
theorem LineS.tmp1 (h : LineS P ops A V N0) {i : Nat} (hi : i < ops.size) {t : Nat} (ht : dstAt ops i ≠ some t) : (A (i + 1)).t t = (A i).t t := by
  have ho : ops[i]? = some (ops[i]'hi) := Array.getElem?_eq_getElem hi
  have hd : dstAt ops i = (ops[i]'hi).dst := by simp [dstAt, ho]
  rw [hd] at ht
  cases hs : isStore (ops[i]'hi) with
  | true => obtain ⟨v, m', _, _, e⟩ := h.store i _ ho hs; rw [e]
  | false =>
    obtain ⟨_, e⟩ := h.pure i _ ho hs
    rw [e]
    show putT (A i).t (ops[i]'hi).dst (V i) t = _
    cases hdd : (ops[i]'hi).dst with
    | none => rfl
    | some d => rw [hdd] at ht; exact upd_ne _ _ (fun e => ht (by rw [e]))
theorem LineS.len1 (h : LineS P ops A V N0) {i : Nat} (hi : i < ops.size) : (A (i + 1)).m.length = (A i).m.length := by
  have ho : ops[i]? = some (ops[i]'hi) := Array.getElem?_eq_getElem hi
  cases hs : isStore (ops[i]'hi) with
  | true => obtain ⟨v, m', _, hl, e⟩ := h.store i _ ho hs; rw [e]; exact hl
  | false => obtain ⟨_, e⟩ := h.pure i _ ho hs; rw [e]
theorem LineS.len (h : LineS P ops A V N0) : ∀ i, i ≤ ops.size → (A i).m.length = (A 0).m.length
  | 0, _ => rfl
  | i + 1, hi => by rw [h.len1 (by omega), LineS.len h i (by omega)]
theorem LineS.slot (h : LineS P ops A V N0) {i t : Nat} : ∀ d, i + d ≤ ops.size → (∀ j, i ≤ j → j < i + d → dstAt ops j ≠ some t) → (A (i + d)).t t = (A i).t t
  | 0, _, _ => rfl
  | d + 1, hd, hno => by
    rw [show i + (d + 1) = i + d + 1 by omega, h.tmp1 (by omega) (hno _ (by omega) (by omega)), LineS.slot h d (by omega) fun j h1 h2 => hno j h1 (by omega)]
theorem LineS.slot' (h : LineS P ops A V N0) {i j t : Nat} (hij : i ≤ j) (hj : j ≤ ops.size) (hno : ∀ l, i ≤ l → l < j → dstAt ops l ≠ some t) : (A j).t t = (A i).t t := by
  have := h.slot (i := i) (t := t) (j - i) (by omega) (fun l h1 h2 => hno l h1 (by omega))
  rwa [show i + (j - i) = j by omega] at this
theorem LineS.mem (h : LineS P ops A V N0) {i : Nat} : ∀ d, i + d ≤ ops.size → (∀ j o, i ≤ j → j < i + d → ops[j]? = some o → isStore o = false) → (A (i + d)).m = (A i).m
  | 0, _, _ => rfl
  | d + 1, hd, hno => by
    have hlt : i + d < ops.size := by omega
    have ho : ops[i + d]? = some (ops[i + d]'hlt) := Array.getElem?_eq_getElem hlt
    obtain ⟨_, e⟩ := h.pure (i + d) _ ho (hno _ _ (by omega) (by omega) ho)
    rw [show i + (d + 1) = i + d + 1 by omega, e]
    exact LineS.mem h d (by omega) fun j o h1 h2 => hno j o h1 (by omega)
theorem LineS.mem' (h : LineS P ops A V N0) {i j : Nat} (hij : i ≤ j) (hj : j ≤ ops.size) (hno : ∀ l o, i ≤ l → l < j → ops[l]? = some o → isStore o = false) : (A j).m = (A i).m := by
  have := h.mem (i := i) (j - i) (by omega) (fun l o h1 h2 => hno l o h1 (by omega))
  rwa [show i + (j - i) = j by omega] at this
structure InvS (ops : Array Oper) (A : Nat → St) (k : Nat) (ι0 : Emb) (w0 : World) (a0 : Act) (listed : Array Bool) (a : Act) (w : World) : Prop where
  cut : ∃ j, j ≤ ops.size ∧ (∀ i o, ops[i]? = some o → isStore o = true → (listed.getD i false = true ↔ i < j)) ∧ Step k ι0 (A 0).m w0 ι0 (A j).m w
  hit : ∀ j, j < ops.size → listed.getD j false = true → ∀ d, dstAt ops j = some d → ((A (j + 1)).t d).rel ι0 (a.tmps.getD d undef)
  miss : ∀ t, (∀ j, j < ops.size → listed.getD j false = true → dstAt ops j ≠ some t) → a.tmps.getD t undef = a0.tmps.getD t undef
  size : a.tmps.size = a0.tmps.size
  defers : a.defers = a0.defers
  head : HeadInv .any ops ops.size listed
theorem put_other (a : Act) {d : Option Tmp} {t : Nat} (u : Value) (h : d ≠ some t) : (a.put d u).tmps.getD t undef = a.tmps.getD t undef := by
  cases d with
  | none => rfl
  | some d =>
    simp only [Act.put, Array.getD_eq_getD_getElem?]
    rw [Array.getElem?_setIfInBounds_ne (fun e => h (by rw [e]))]
theorem InvS.agree (hl : LineS P ops A V N0) {k : Nat} {ι0 : Emb} {w0 : World} {a0 : Act} (hok : OkX ops ops.size a0.tmps.size) (hf : FRel ι0 (A 0) a0) {listed : Array Bool} {a : Act} {w : World} (h : InvS ops A k ι0 w0 a0 listed a w)
    {i : Nat} (hin : i < ops.size) {o : Oper} (ho : ops[i]? = some o) (hb : ∀ j, bef ops i j = true → listed.getD j false = true) (hun : listed.getD i false = false) :
    ∀ t ∈ o.looksAt ops, ((A i).t t).rel ι0 (a.tmps.getD t undef) := by
  intro t ht
  by_cases hex : ∃ j, j < ops.size ∧ dstAt ops j = some t
  · obtain ⟨j, hj, hd⟩ := hex
    rcases hok.look i o t j hin ho ht hj hd with ⟨hji, hbij⟩ | ⟨hij, hbji⟩
    · have hlj := hb j hbij
      rw [hl.slot' (i := j + 1) (by omega) (Nat.le_of_lt hin) (fun l h1 h2 hd' => by have := hok.uniq l j t (by omega) hj hd' hd; omega)]
      exact h.hit j hj hlj t hd
    · have hnl : listed.getD j false ≠ true := fun hlt => by
        have := bef_spec h.head.closed hbji (Array.getElem?_eq_getElem hj) (h.head.closed j _ (Array.getElem?_eq_getElem hj) hlt)
        rw [hun] at this; cases this
      rw [h.miss t (fun j' hj' hl' hd' => hnl (by rw [← hok.uniq j' j t hj' hj hd' hd]; exact hl')), hl.slot' (i := 0) (Nat.zero_le i) (Nat.le_of_lt hin) (fun l _ h2 hd' => by have := hok.uniq l j t (by omega) hj hd' hd; omega)]
      exact hf.rel t
  · have hno : ∀ j, j < ops.size → dstAt ops j ≠ some t := fun j hj hd => hex ⟨j, hj, hd⟩
    rw [h.miss t (fun j hj _ => hno j hj), hl.slot' (i := 0) (Nat.zero_le i) (Nat.le_of_lt hin) (fun l _ h2 => hno l (by omega))]
    exact hf.rel t
theorem InvS.next {k : Nat} {ι0 : Emb} {w0 : World} {a0 : Act} (hok : OkX ops ops.size a0.tmps.size) {listed : Array Bool} {a : Act} {w : World} (h : InvS ops A k ι0 w0 a0 listed a w)
    {i : Nat} (hi : i ∈ Region.ready .any ops listed) {o : Oper} (ho : ops[i]? = some o) {u : Value} {w' : World}
    (hcut : ∃ j, j ≤ ops.size ∧ (∀ i' o, ops[i']? = some o → isStore o = true → ((listed.setIfInBounds i true).getD i' false = true ↔ i' < j)) ∧ Step k ι0 (A 0).m w0 ι0 (A j).m w')
    (hu : ∀ d, o.dst = some d → ((A (i + 1)).t d).rel ι0 u) : InvS ops A k ι0 w0 a0 (listed.setIfInBounds i true) (a.put o.dst u) w' := by
  have hin : i < ops.size := (Array.getElem?_eq_some_iff.1 ho).1
  have his : i < listed.size := by rw [h.head.size]; exact hin
  have hd : dstAt ops i = o.dst := by simp [dstAt, ho]
  have hset : ∀ j, (listed.setIfInBounds i true).getD j false = true → j = i ∨ listed.getD j false = true := fun j hj => by
    by_cases hji : i = j
    · exact .inl hji.symm
    · rw [getD_set_ne false hji] at hj; exact .inr hj
  have hseti : (listed.setIfInBounds i true).getD i false = true := by simp [his]
  refine ⟨hcut, fun j hj hlj d hdj => ?_, fun t ht => ?_, by rw [show (a.put o.dst u).tmps.size = a.tmps.size by cases o.dst <;> simp [Act.put]]; exact h.size, by rw [show (a.put o.dst u).defers = a.defers by cases o.dst <;> rfl]; exact h.defers, h.head.set hi hin⟩
  · by_cases hji : j = i
    · subst hji
      rw [hd] at hdj
      rw [hdj, getD_put a d d u (by rw [h.size]; exact hok.lt j d hj (by rw [hd]; exact hdj)), if_pos rfl]
      exact hu d hdj
    · have hlj' := (hset j hlj).resolve_left hji
      have hne : o.dst ≠ some d := fun e => hji (hok.uniq j i d hj hin hdj (by rw [hd]; exact e))
      rw [put_other a u hne]
      exact h.hit j hj hlj' d hdj
  · have h1 : o.dst ≠ some t := by rw [← hd]; exact ht i hin hseti
    rw [put_other a u h1]
    exact h.miss t fun j hj hlj => ht j hj (getD_set_true hlj)
theorem dead_R {ι : Emb} {n : Nat} {w : World} (h : ∀ b, n ≤ b → ι b = none) : R ι (deadMem n) w := by
  have no : ∀ (b : Nat) (own : Bool) (x : Arr), (deadMem n)[b]? = some (.row own x) → False := fun b own x hb => by
    unfold deadMem at hb
    rw [List.getElem?_replicate] at hb
    split at hb <;> cases hb
  exact ⟨fun b hb => h b (by simpa [deadMem] using hb), fun b l own x _ hm => (no _ _ _ hm).elim, fun b b' l l' own own' x x' _ _ _ hm _ _ => (no _ _ _ hm).elim⟩
theorem InvS.run {Q' : Exit → Act → World → Prop} (hl : LineS P ops A V N0) {k : Nat} {ι0 : Emb} {w0 : World} {a0 : Act} (hS : OkS ops a0.tmps.size) (hf : FRel ι0 (A 0) a0) (hR0 : R ι0 (A 0).m w0) (hk : k ≤ (A 0).m.length) {listed : Array Bool} {a : Act} {w : World} (h : InvS ops A k ι0 w0 a0 listed a w)
    {i : Nat} (hi : i ∈ Region.ready .any ops listed) {K : Act → World → Prop} (hK : ∀ a' w', InvS ops A k ι0 w0 a0 (listed.setIfInBounds i true) a' w' → K a' w') : wpOp P ops Q' i K a w := by
  have hok := hS.ok
  have hr := mem_ready.1 hi
  have hun : listed.getD i false = false := getD_both hr.1
  obtain ⟨_, o, ho, hall⟩ := hr
  have hin : i < ops.size := (Array.getElem?_eq_some_iff.1 ho).1
  have hdeps : ∀ j, bef ops i j = true → listed.getD j false = true := fun j hb => bef_spec h.head.closed hb ho hall
  have hag := h.agree hl hok hf hin ho hdeps hun
  have hopnd : ∀ x ∈ o.op.operands, (opnd (A i).t x).rel ι0 (a.eval x) := by
    intro x hx
    cases x with
    | tmp t => exact hag t (List.mem_append_left _ (List.mem_filterMap.2 ⟨.tmp t, by simpa using hx, rfl⟩))
    | const v => exact AV.rel_of0 (absV_rel _ v)
    | global g => trivial
    | func f => rfl
  obtain ⟨c, hc, hcl, hst⟩ := h.cut
  have his : i < listed.size := by rw [h.head.size]; exact hin
  unfold wpOp
  simp only [ho]
  rw [show Region.wanted o (yielded ops a.tmps) = true by unfold Region.wanted; rw [hS.guard i o ho], if_pos rfl]
  refine .inl ?_
  cases hs : isStore o with
  | false =>
    obtain ⟨hv, hstep⟩ := hl.pure i o ho hs
    have hv : (∃ Mk : Mem, R ι0 Mk w ∧ evVal P (opnd (A i).t) Mk o.op = some (V i)) ∨ (early ops i = true ∧ Sound P (.op o.op (opnd (A i).t) (A 0).m) (.val (V i) (A 0).m)) := by
      rcases hv with hv | hv | ⟨Mk, h1, h2⟩
      · exact .inl ⟨_, dead_R hR0.dom, hv⟩
      · exact .inr hv
      · exact .inl ⟨Mk, h1 c hc _ _ hst.r, h2⟩
    rcases hv with ⟨Mk, hRk, hv⟩ | ⟨he, hsound⟩
    rotate_left
    · have hno : ∀ l o', l < c → ops[l]? = some o' → isStore o' = false := fun l o' h2 ho' => by
        cases hs' : isStore o' with
        | false => rfl
        | true =>
          have hll := (hcl l o' ho' hs').2 h2
          have hln : l < ops.size := (Array.getElem?_eq_some_iff.1 ho').1
          simp only [early, List.all_eq_true, List.mem_range] at he
          have hb := he l hln
          simp only [ho', hs', Bool.not_true, Bool.false_or] at hb
          have := bef_spec h.head.closed hb ho' (h.head.closed l o' ho' hll)
          rw [hun] at this; cases this
      have hm : (A c).m = (A 0).m := hl.mem' (Nat.zero_le c) hc fun l o' _ h2 ho' => hno l o' h2 ho'
      have hst' := hst
      rw [hm] at hst'
      refine (hsound o ι0 w a.eval rfl hst'.r hopnd).wp rfl fun u w' ι1 hv hst2 => ?_
      have hii : ι1 = ι0 := by
        funext b
        rcases Nat.lt_or_ge b (A 0).m.length with hb | hb
        · exact hst2.ext b hb
        · rw [hst2.r.dom b hb, hst'.r.dom b hb]
      subst hii
      have hst3 : Step k ι1 (A 0).m w0 ι1 (A c).m w' := by rw [hm]; exact hst'.comp (hst2.low hk)
      refine hK _ _ (h.next hok hi ho ⟨c, hc, fun i' o' ho' hs' => ?_, hst3⟩ fun d hd => ?_)
      · have hne : i ≠ i' := fun e => by subst e; rw [ho] at ho'; cases ho'; rw [hs] at hs'; cases hs'
        rw [getD_set_ne false hne]
        exact hcl i' o' ho' hs'
      · rw [hstep]
        show (putT (A i).t o.dst (V i) d).rel _ _
        rw [hd]
        show (upd (A i).t d (V i) d).rel _ _
        rw [upd_eq]
        exact hv
    unfold Oper.wp
    obtain ⟨u, hu, hrel⟩ := evVal_sound hv hRk hopnd
    rw [hu]
    refine hK _ _ (h.next hok hi ho ⟨c, hc, fun i' o' ho' hs' => ?_, hst⟩ fun d hd => ?_)
    · have hne : i ≠ i' := fun e => by subst e; rw [ho] at ho'; cases ho'; rw [hs] at hs'; cases hs'
      rw [getD_set_ne false hne]
      exact hcl i' o' ho' hs'
    · rw [hstep]
      show (putT (A i).t o.dst (V i) d).rel _ _
      rw [hd]
      show (upd (A i).t d (V i) d).rel _ _
      rw [upd_eq]
      exact hrel
  | true =>
    unfold Oper.wp
    obtain ⟨v, m', hv, hlen, hstep⟩ := hl.store i o ho hs
    have hci : c ≤ i := by
      have := (hcl i o ho hs).2
      rcases Nat.lt_or_ge i c with h' | h'
      · rw [this h'] at hun; cases hun
      · exact h'
    have hm : (A i).m = (A c).m := by
      refine hl.mem' hci (Nat.le_of_lt hin) fun l o' h1 h2 ho' => ?_
      cases hs' : isStore o' with
      | false => rfl
      | true =>
        have := (hcl l o' ho' hs').1 (hdeps l (hS.chain l i o' o h2 ho' ho hs' hs))
        omega
    rw [← hm] at hst
    obtain ⟨u, w', ι', hrun, hrel, hst2⟩ := evMem_sound hv hst.r hopnd
    have hii : ι' = ι0 := by
      funext b
      rcases Nat.lt_or_ge b (A i).m.length with hb | hb
      · exact hst2.ext b hb
      · rw [hst2.r.dom b (by rw [hlen]; exact hb), hst.r.dom b hb]
    subst hii
    have hst3 : Step k ι' (A 0).m w0 ι' (A (i + 1)).m w' := by
      rw [hstep]
      exact hst.comp (hst2.low (by rw [hl.len i (Nat.le_of_lt hin)]; exact hk))
    have fin : ∀ u : Value, K (a.put o.dst u) w' := fun u => by
      refine hK _ _ (h.next hok hi ho ⟨i + 1, hin, fun i' o' ho' hs' => ?_, hst3⟩ fun d hd => ?_)
      · by_cases hne : i = i'
        · subst hne; simp [his]
        · rw [getD_set_ne false hne]
          constructor
          · intro hli
            rcases Nat.lt_or_ge i' (i + 1) with h' | h'
            · exact h'
            · have := bef_spec h.head.closed (hS.chain i i' o o' (by omega) ho ho' hs hs') ho' (h.head.closed i' o' ho' hli)
              rw [hun] at this; cases this
          · intro hlt
            exact hdeps i' (hS.chain i' i o' o (by omega) ho' ho hs' hs)
      · rw [hS.dst i o ho hs] at hd; cases hd
    rcases hrun with hrun | ⟨hrun, rfl⟩
    · rw [hrun]; exact fin u
    · rw [hrun]; exact fin undef
theorem InvS.any {Q' : Exit → Act → World → Prop} (hl : LineS P ops A V N0) {k : Nat} {ι0 : Emb} {w0 : World} {a0 : Act} (hS : OkS ops a0.tmps.size) (hf : FRel ι0 (A 0) a0) (hR0 : R ι0 (A 0).m w0) (hk : k ≤ (A 0).m.length)
    (hQ : ∀ a' w', FRel ι0 (A ops.size) a' → a'.defers = a0.defers → Step k ι0 (A 0).m w0 ι0 (A ops.size).m w' → Q' .normal a' w') :
    ∀ (f : Nat) (un : List Nat) (listed : Array Bool) (a : Act) (w : World), un.length = f → un.Nodup → (∀ j, j ∈ un ↔ j < ops.size ∧ listed.getD j false = false) → InvS ops A k ι0 w0 a0 listed a w → wpAny P .any ops Q' f listed a w := by
  have hok := hS.ok
  intro f
  induction f with
  | zero =>
    intro un listed a w hlu _ hun h
    obtain rfl : un = [] := List.length_eq_zero_iff.1 hlu
    have hdone : ∀ j, j < ops.size → listed.getD j false = true := fun j hj => by
      cases hb : listed.getD j false with
      | true => rfl
      | false => have := (hun j).2 ⟨hj, hb⟩; simp at this
    have hnil : Region.ready .any ops listed = [] := by
      cases hr : Region.ready .any ops listed with
      | nil => rfl
      | cons x xs =>
        have hx : x ∈ Region.ready .any ops listed := by rw [hr]; exact List.mem_cons_self
        obtain ⟨h1, o, ho, _⟩ := mem_ready.1 hx
        have := hdone x (Array.getElem?_eq_some_iff.1 ho).1
        rw [getD_both h1] at this; cases this
    refine ⟨hnil, ?_⟩
    obtain ⟨c, hc, hcl, hst⟩ := h.cut
    have hm : (A ops.size).m = (A c).m := by
      refine hl.mem' hc (Nat.le_refl _) fun l o' h1 h2 ho' => ?_
      cases hs' : isStore o' with
      | false => rfl
      | true => have := (hcl l o' ho' hs').1 (hdone l h2); omega
    rw [← hm] at hst
    have hnn : (A ops.size).n = N0 := by
      cases hz : ops.size with
      | zero => exact hl.h0
      | succ z =>
        have hlt : z < ops.size := by omega
        have ho : ops[z]? = some (ops[z]'hlt) := Array.getElem?_eq_getElem hlt
        cases hs : isStore (ops[z]'hlt) with
        | true => obtain ⟨v, m', _, _, e⟩ := hl.store z _ ho hs; rw [e]
        | false => obtain ⟨_, e⟩ := hl.pure z _ ho hs; rw [e]
    refine hQ a w ⟨by rw [h.size, hf.size, hl.h0, hnn], fun t => ?_⟩ h.defers hst
    by_cases hex : ∃ j, j < ops.size ∧ dstAt ops j = some t
    · obtain ⟨j, hj, hd⟩ := hex
      rw [hl.slot' (i := j + 1) (by omega) (Nat.le_refl _) (fun l h1 h2 hd' => by have := hok.uniq l j t (by omega) hj hd' hd; omega)]
      exact h.hit j hj (hdone j hj) t hd
    · have hno : ∀ j, j < ops.size → dstAt ops j ≠ some t := fun j hj hd => hex ⟨j, hj, hd⟩
      rw [h.miss t (fun j hj _ => hno j hj), hl.slot' (i := 0) (Nat.zero_le _) (Nat.le_refl _) (fun l _ h2 => hno l (by omega))]
      exact hf.rel t
  | succ f ih =>
    intro un listed a w hlu hnd hun h
    refine ⟨fun hnil => ?_, fun i hi => ?_⟩
    · obtain ⟨i0, hi0⟩ : ∃ i0, i0 ∈ un := by cases un with | nil => simp at hlu | cons x _ => exact ⟨x, List.mem_cons_self⟩
      have least : ∀ m i, i ≤ m → i ∈ un → ∃ j, j ∈ Region.ready .any ops listed := by
        intro m
        induction m with
        | zero =>
          intro i him hiu
          obtain ⟨hin, hb⟩ := (hun i).1 hiu
          refine ⟨i, mem_ready.2 ⟨getD_in (by rw [h.head.size]; exact hin) hb, ops[i]'hin, Array.getElem?_eq_getElem hin, fun e he hbind => ?_⟩⟩
          have := hS.back i _ e (Array.getElem?_eq_getElem hin) he hbind
          omega
        | succ m ihm =>
          intro i him hiu
          obtain ⟨hin, hb⟩ := (hun i).1 hiu
          by_cases hall : ∀ e ∈ (ops[i]'hin).after, Region.binds .any e = true → listed.getD e.on false = true
          · exact ⟨i, mem_ready.2 ⟨getD_in (by rw [h.head.size]; exact hin) hb, _, Array.getElem?_eq_getElem hin, hall⟩⟩
          · have : ∃ e ∈ (ops[i]'hin).after, Region.binds .any e = true ∧ listed.getD e.on false = false := by
              apply Classical.byContradiction
              intro hc
              apply hall
              intro e he hbind
              cases hlb : listed.getD e.on false with
              | true => rfl
              | false => exact absurd ⟨e, he, hbind, hlb⟩ hc
            obtain ⟨e, he, hbind, hlb⟩ := this
            have hlt := hS.back i _ e (Array.getElem?_eq_getElem hin) he hbind
            exact ihm e.on (by omega) ((hun e.on).2 ⟨by omega, hlb⟩)
      obtain ⟨j, hj⟩ := least i0 i0 (Nat.le_refl _) hi0
      rw [hnil] at hj; cases hj
    · obtain ⟨hun0, o, ho, _⟩ := mem_ready.1 hi
      have hin : i < ops.size := (Array.getElem?_eq_some_iff.1 ho).1
      refine h.run hl hS hf hR0 hk hi fun a' w' h' => ?_
      have himem : i ∈ un := (hun i).2 ⟨hin, getD_both hun0⟩
      refine ih (un.erase i) _ a' w' (by rw [List.length_erase_of_mem himem, hlu]; rfl) (hnd.erase i) (fun j => ?_) h'
      rw [hnd.mem_erase_iff, hun j]
      by_cases hji : j = i
      · subst hji
        have his : j < listed.size := by rw [h.head.size]; exact hin
        simp [his]
      · rw [getD_set_ne false (fun e => hji e.symm)]
        simp [hji]
theorem stores_sound {Q : Exit → Act → World → Prop} {id k : Nat} (hm : P.follows .mixedOrders = true) (hl : LineS P ops A V (A 0).n) (hall : Region.okStores ops (A 0).n = true) {ι : Emb} {w : World} {a : Act} (hf : FRel ι (A 0) a) (hR : R ι (A 0).m w) (hk : k ≤ (A 0).m.length)
    (hQ : ∀ a' w', FRel ι (A ops.size) a' → a'.defers = a.defers → Step k ι (A 0).m w ι (A ops.size).m w' → Q .normal a' w') : (Code.region id ops true).wp P Q a w := by
  refine wp_region_any hm ?_
  have hRd : R ι (A 0).m w.drew := ⟨hR.dom, hR.rows, hR.inj⟩
  have hinv : InvS ops A k ι w.drew a (Array.replicate ops.size false) a w.drew :=
    ⟨⟨0, Nat.zero_le _, fun i o _ _ => by rw [getD_replicate_false]; simp, Step.refl hRd hk⟩, fun j _ hl => (by rw [getD_replicate_false] at hl; cases hl), fun _ _ => rfl, rfl, rfl,
      ⟨by simp, fun j oj _ hl => (by rw [getD_replicate_false] at hl; cases hl), fun t ht ht' => by omega⟩⟩
  exact InvS.any (Q' := Q) hl (Region.okStores_spec (by rw [hf.size]; exact hall)) hf hRd hk
    (fun a' w' h1 h2 h3 => hQ a' w' h1 h2 ⟨h3.r, ⟨h3.trans.os, h3.trans.tape, h3.trans.output, h3.trans.size, h3.trans.keep, h3.trans.fresh⟩, h3.ext, h3.len, h3.ro, h3.old, h3.news⟩) ops.size (List.range ops.size) _ _ _ (by simp) List.nodup_range (fun j => by rw [getD_replicate_false]; simp) hinv
end
end Go.Proofs.Ytcgncafhonlmlaa
namespace Go.Proofs.Ytcgncafhonlmlaa
open Go.RowKit
theorem noRen_same (ι ι' : Emb) : Same noRen ι ι' := fun _ _ h => by cases h
theorem WeakC.rel {ρ : Nat → Option Nat} {ι ι' : Emb} (hs : ∀ j i, ρ j = some i → ι' j = ι i) {x y : Cell} (h : WeakC ρ x y) {v : Value} (hr : x.rel ι v) : y.rel ι' v := by
  cases h with
  | same h => rw [← h]; exact Cell.ren_rel (noRen_same ι ι') hr
  | ptr h => obtain ⟨l, hl, rfl⟩ := hr; exact ⟨l, by rw [hs _ _ h]; exact hl, rfl⟩
  | sl h =>
    obtain ⟨p, cap', rfl, h1, h2, h3⟩ := hr
    refine ⟨p, cap', rfl, h1, h2, h3.imp id ?_⟩
    rintro ⟨l, hl, r⟩
    exact ⟨l, by rw [hs _ _ h]; exact hl, r⟩
  | nil => simp only [Cell.rel] at hr; subst hr; exact ⟨none, 0, rfl, Nat.le_refl _, Nat.le_refl _, .inl rfl⟩
  | emp => obtain ⟨p, rfl⟩ := hr; exact ⟨p, 0, rfl, Nat.le_refl _, Nat.le_refl _, .inl rfl⟩
theorem WeakL.rel {ρ : Nat → Option Nat} {ι ι' : Emb} (hs : ∀ j i, ρ j = some i → ι' j = ι i) {l m : List AV} (h : WeakL ρ l m) : ∀ {vs : List Value}, ArgsRel ι l vs → ArgsRel ι' m vs := by
  induction h with
  | nil => intro vs hr; cases vs with
    | nil => trivial
    | cons v vs => exact hr.elim
  | c h _ ih => intro vs hr; cases vs with
    | nil => exact hr.elim
    | cons v vs => exact ⟨h.rel hs hr.1, ih hr.2⟩
  | @agg x l m h _ ih => intro vs hr; cases vs with
    | nil => exact hr.elim
    | cons v vs =>
      refine ⟨?_, ih hr.2⟩
      have := AV.ren_rel (noRen_same ι ι') hr.1
      rwa [show AV.ren noRen (.agg x) = .agg x from congrArg AV.agg h] at this
section
variable {ρ : Nat → Option Nat} {m m' N : Mem} {ι : Emb} {w : World}
def viewEmb (ρ : Nat → Option Nat) (ι : Emb) : Emb := fun j => (ρ j).bind ι
theorem view_R (hρ : ∀ j i, ρ j = some i → j < m'.length ∧ ∃ own x, m[i]? = some (.row own x) ∧ m'[j]? = some (.row false x) ∧ x.ren noRen = x) (hR : R ι m w) : R (viewEmb ρ ι) m' w := by
  have at_ : ∀ b l, viewEmb ρ ι b = some l → ∃ i, ρ b = some i ∧ ι i = some l := fun b l h => Option.bind_eq_some_iff.1 h
  refine ⟨fun b hb => ?_, fun b l own x h1 h2 => ?_, fun b b' l l' own own' x x' _ h1 h1' h2 h2' ho => ?_⟩
  · cases hv : viewEmb ρ ι b with
    | none => rfl
    | some l => obtain ⟨i, hi, _⟩ := at_ b l hv; have := (hρ b i hi).1; omega
  · obtain ⟨i, hi, hl⟩ := at_ b l h1
    obtain ⟨_, o, y, g1, g2, g3⟩ := hρ b i hi
    rw [g2] at h2; cases h2
    obtain ⟨cs, t, fr, k1, k2, k3, _⟩ := hR.rows i l o _ hl g1
    refine ⟨cs, t, fr, k1, k2, ?_, fun h => by cases h⟩
    have := Arr.ren_rel (noRen_same ι (viewEmb ρ ι)) k3
    rwa [g3] at this
  · obtain ⟨i, hi, _⟩ := at_ b l h1
    obtain ⟨i', hi', _⟩ := at_ b' l' h1'
    obtain ⟨_, _, _, _, g2, _⟩ := hρ b i hi
    obtain ⟨_, _, _, _, g2', _⟩ := hρ b' i' hi'
    rw [g2] at h2; cases h2
    rw [g2'] at h2'; cases h2'
    rcases ho with h | h <;> cases h
theorem view_step (hρ : ∀ j i, ρ j = some i → j < m'.length ∧ ∃ own x, m[i]? = some (.row own x) ∧ m'[j]? = some (.row false x) ∧ x.ren noRen = x) (hR : R ι m w) {ι1 : Emb} {w' : World} (h : Step m'.length (viewEmb ρ ι) m' w ι1 (m' ++ N) w') :
    ∃ ι2 : Emb, Same (viewRen ρ m'.length m.length) ι1 ι2 ∧ Step m.length ι m w ι2 (m ++ N.map (Row.ren (viewRen ρ m'.length m.length))) w' := by
  have unown : ∀ c, Owned (viewEmb ρ ι) m' c → False := by
    rintro c ⟨b, l, x, h1, h2, _⟩
    obtain ⟨i, hi, _⟩ := Option.bind_eq_some_iff.1 h1
    obtain ⟨_, _, _, _, g2, _⟩ := hρ b i hi
    rw [g2] at h2; cases h2
  let ι2 : Emb := fun b => if b < m.length then ι b else ι1 (b - m.length + m'.length)
  have lo : ∀ {b}, b < m.length → ι2 b = ι b := fun hb => if_pos hb
  have hi : ∀ {b}, m.length ≤ b → ι2 b = ι1 (b - m.length + m'.length) := fun hb => if_neg (by omega)
  have hle : ι.le ι2 := fun b l hb => by
    have : b < m.length := by
      rcases Nat.lt_or_ge b m.length with h' | h'
      · exact h'
      · rw [hR.dom b h'] at hb; cases hb
    rw [lo this]; exact hb
  have same : Same (viewRen ρ m'.length m.length) ι1 ι2 := by
    intro j i hj
    unfold viewRen at hj
    split at hj
    · rename_i hlt
      obtain ⟨_, o, x, g1, _, _⟩ := hρ j i hj
      rw [lo (List.getElem?_eq_some_iff.1 g1).1, h.ext j hlt]
      unfold viewEmb
      rw [hj]; rfl
    · rename_i hge
      cases hj
      rw [hi (by omega)]
      congr 1
      omega
  have old : ∀ {b own x}, b < m.length → (m ++ N.map (Row.ren (viewRen ρ m'.length m.length)))[b]? = some (.row own x) → m[b]? = some (.row own x) := fun {b own x} hb hm => by rw [List.getElem?_append_left hb] at hm; exact hm
  have new : ∀ {b own x}, m.length ≤ b → (m ++ N.map (Row.ren (viewRen ρ m'.length m.length)))[b]? = some (.row own x) → ∃ y, (m' ++ N)[b - m.length + m'.length]? = some (.row own y) ∧ x = y.ren (viewRen ρ m'.length m.length) := fun {b own x} hb hm => by
    rw [List.getElem?_append_right hb, List.getElem?_map] at hm
    obtain ⟨r, hr, e⟩ := Option.map_eq_some_iff.1 hm
    obtain ⟨y, rfl, hy⟩ := row_ren e
    refine ⟨y, ?_, hy⟩
    rw [List.getElem?_append_right (by omega), show b - m.length + m'.length - m'.length = b - m.length by omega]
    exact hr
  have far : ∀ {b l own x}, m.length ≤ b → ι2 b = some l → (m ++ N.map (Row.ren (viewRen ρ m'.length m.length)))[b]? = some (.row own x) → w.heap.size ≤ l.c := fun {b l own x} hb hl hm => by
    obtain ⟨y, hy, _⟩ := new hb hm
    rw [hi hb] at hl
    rcases h.news _ l own y (by omega) hl hy with h3 | h3 | ⟨b0, l0, o0, x0, h4, h5, h6, _⟩
    · exact h3
    · exact (unown _ h3).elim
    · exact (no_row h4 h6).elim
  refine ⟨ι2, same, ⟨⟨fun b hb => ?_, fun b l own x hb hm => ?_, fun b b' l l' own own' x x' hne hb hb' hm hm' hoo => ?_⟩, ⟨h.trans.os, h.trans.tape, h.trans.output, h.trans.size, fun c hc _ => h.trans.keep c hc (unown c), fun c hc => ?_⟩, fun b hb => lo hb, by simp, fun b x hb hm => by rw [List.getElem?_append_left hb]; exact hm, fun b own x hb hm => ⟨x, old hb hm⟩, fun b l own x hb h1 h2 => .inl (far hb h1 h2)⟩⟩
  · rw [List.length_append, List.length_map] at hb
    rw [hi (by omega)]
    exact h.r.dom _ (by rw [List.length_append]; omega)
  · rcases Nat.lt_or_ge b m.length with hs | hs
    · rw [lo hs] at hb
      obtain ⟨cs, t, fr, k1, k2, k3, k4⟩ := hR.rows b l own x hb (old hs hm)
      exact ⟨cs, t, fr, by rw [h.trans.keep l.c (hR.lt hb (old hs hm)) (unown _)]; exact k1, k2, k3.mono' hle, k4⟩
    · obtain ⟨y, hy, rfl⟩ := new hs hm
      rw [hi hs] at hb
      obtain ⟨cs, t, fr, k1, k2, k3, k4⟩ := h.r.rows _ l own y hb hy
      exact ⟨cs, t, fr, k1, by rw [Arr.ren_size]; exact k2, Arr.ren_rel same k3, k4⟩
  · rcases Nat.lt_or_ge b m.length with hs | hs <;> rcases Nat.lt_or_ge b' m.length with hs' | hs'
    · rw [lo hs] at hb
      rw [lo hs'] at hb'
      exact hR.inj b b' l l' own own' x x' hne hb hb' (old hs hm) (old hs' hm') hoo
    · rw [lo hs] at hb
      have h1 := hR.lt hb (old hs hm)
      have h2 := far hs' hb' hm'
      omega
    · rw [lo hs'] at hb'
      have h1 := hR.lt hb' (old hs' hm')
      have h2 := far hs hb hm
      omega
    · obtain ⟨y, hy, _⟩ := new hs hm
      obtain ⟨y', hy', _⟩ := new hs' hm'
      rw [hi hs] at hb
      rw [hi hs'] at hb'
      exact h.r.inj _ _ l l' own own' y y' (by omega) hb hb' hy hy' hoo
  · obtain ⟨b, l, x, hb, hm, rfl⟩ := hc
    rcases Nat.lt_or_ge b m.length with hs | hs
    · rw [lo hs] at hb
      exact .inr ⟨b, l, x, hb, old hs hm, rfl⟩
    · exact .inl (far hs hb hm)
end
end Go.Proofs.Ytcgncafhonlmlaa
namespace Go.Proofs.Ytcgncafhonlmlaa
open Go.RowKit
theorem ev64_spec {f : BitVec 64 → BitVec 64 → BitVec 64 → AV} {l : List AV} {v : AV} (h : ev64 f l = some v) : ∃ x y z : BitVec 64, l = [.c (.val (U64 x)), .c (.val (U64 y)), .c (.val (U64 z))] ∧ z.toNat ≤ 1 ∧ v = f x y z := by
  unfold ev64 at h
  split at h
  · rename_i a b c
    split at h
    · rename_i x y z hx hy hz
      split at h
      · rename_i hc
        cases h
        rw [w64?_some hx, w64?_some hy, w64?_some hz]
        exact ⟨x, y, z, rfl, hc, rfl⟩
      · cases h
    · cases h
  · cases h
theorem run_addE (P : Program) (x y c : BitVec 64) (hc : c.toNat ≤ 1) (w : World) : (add64Entry #[U64 x, U64 y, U64 c]).run P w = .ok (.tuple #[U64 (x + y + c), U64 (addC x y c)]) w := by
  have hx := x.isLt; have hy := y.isLt
  have h := run_add64 (P := P) (x.toNat : Int) (y.toNat : Int) (c.toNat : Int) (by omega) (by omega) (by omega) (by omega) w
  have e1 : ((x.toNat : Int) + (y.toNat : Int) + (c.toNat : Int)) % 18446744073709551616 = tn (x + y + c) := by
    unfold tn; simp only [BitVec.toNat_add]; omega
  have e2 : ((x.toNat : Int) + (y.toNat : Int) + (c.toNat : Int)) / 18446744073709551616 = tn (addC x y c) := by
    unfold tn addC; rw [BitVec.toNat_ofNat]; omega
  rw [e1, e2] at h
  exact h
theorem run_subE (P : Program) (x y c : BitVec 64) (hc : c.toNat ≤ 1) (w : World) : (sub64Entry #[U64 x, U64 y, U64 c]).run P w = .ok (.tuple #[U64 (x - y - c), U64 (subC x y c)]) w := by
  have hx := x.isLt; have hy := y.isLt
  have key : ∀ k : Nat, k ≤ 1 → (sub64Entry #[.int .u64 (x.toNat : Int), .int .u64 (y.toNat : Int), .int .u64 (k : Int)]).run P w =
      .ok (Extern.MathBitsCarry.pair ((x.toNat + Extern.MathBitsCarry.m64 - y.toNat - k) % Extern.MathBitsCarry.m64) (if x.toNat < y.toNat + k then 1 else 0)) w := by
    intro k hk
    have : k = 0 ∨ k = 1 := by omega
    rcases this with rfl | rfl <;> rfl
  have h := key c.toNat hc
  have e1 : (x.toNat + Extern.MathBitsCarry.m64 - y.toNat - c.toNat) % Extern.MathBitsCarry.m64 = (x - y - c).toNat := by
    simp only [Extern.MathBitsCarry.m64, BitVec.toNat_sub]
    omega
  have e2 : (if x.toNat < y.toNat + c.toNat then 1 else 0) = (subC x y c).toNat := by
    unfold subC; split <;> rfl
  rw [e1, e2] at h
  exact h
theorem ext_good {P : Program} {c : Call} {e : Operand → AV} {ρ : Operand → Value} {O : Oper} {f : FuncId} {E : Array Value → Sem Value} (hO : O.op = .call c) (hc : c.callee = .value (.func f)) (he : e (.func f) = .c (.val (.func (.func f) #[] #[]))) (hf : ExtIs P f E) {ι : Emb} {m : Mem} {w : World} (hR : R ι m w)
    (hρ : ∀ x ∈ (Op.call c).operands, (e x).rel ι (ρ x)) {v : AV} {u : Value} (hu : (E (c.args.map ρ)).run P w = .ok u w) (hv : v.rel ι u) : OpGood P ρ O ι m w v m := by
  obtain ⟨fn, h1, h2, h3, h4, h5⟩ := hf.h
  have hfv : ρ (.func f) = .func (.func f) #[] #[] := by
    have := hρ (.func f) (by simp [Op.operands, Call.operands, hc])
    rw [he] at this
    exact this
  refine .inl ⟨u, w, ι, .inl ?_, hv, Step.refl hR (Nat.le_refl _)⟩
  have hcall := run_callFunc_extern (P := P) h1 h2 h3 h4 h5 (c.args.map ρ) w
  simp [execOp, hO, resolve, hc, hfv, Deferred.ofValue, invoke, hcall, hu]
theorem args3 {ι : Emb} {e : Operand → AV} {ρ : Operand → Value} {c : Call} (hρ : ∀ x ∈ (Op.call c).operands, (e x).rel ι (ρ x)) {x y z : Value} (h : c.args.toList.map e = [.c (.val x), .c (.val y), .c (.val z)]) : c.args.map ρ = #[x, y, z] := by
  have hm : ∀ o ∈ c.args.toList, (e o).rel ι (ρ o) := fun o ho => hρ o (by simp [Op.operands, Call.operands]; exact .inr (by simpa using ho))
  apply Array.ext'
  rw [Array.toList_map]
  generalize c.args.toList = l at *
  obtain ⟨a, b, d, rfl⟩ : ∃ a b d, l = [a, b, d] := by
    have hl : l.length = 3 := by have := congrArg List.length h; simpa using this
    cases l with
    | nil => simp at hl
    | cons a l => cases l with
      | nil => simp at hl
      | cons b l => cases l with
        | nil => simp at hl
        | cons d l => cases l with
          | nil => exact ⟨a, b, d, rfl⟩
          | cons _ _ => simp at hl
  · simp only [List.map_cons, List.map_nil, List.cons.injEq, and_true] at h
    obtain ⟨h1, h2, h3⟩ := h
    have k1 := hm a (by simp); rw [h1] at k1
    have k2 := hm b (by simp); rw [h2] at k2
    have k3 := hm d (by simp); rw [h3] at k3
    have k1' : ρ a = x := k1
    have k2' : ρ b = y := k2
    have k3' : ρ d = z := k3
    simp [k1', k2', k3']
theorem argsRel_ren {ρr : Nat → Option Nat} {ι ι' : Emb} (hs : Same ρr ι ι') {e : Operand → AV} {ρ : Operand → Value} : ∀ (l : List Operand), (∀ x ∈ l, (e x).rel ι (ρ x)) → ArgsRel ι' ((l.map e).map (AV.ren ρr)) (l.map ρ)
  | [], _ => trivial
  | x :: l, h => ⟨AV.ren_rel hs (h x List.mem_cons_self), argsRel_ren hs l fun y hy => h y (List.mem_cons_of_mem _ hy)⟩
theorem canon_spec {k : Nat} {roots : List AV} {M m : Mem} {vs : List AV} {ids : List Nat} (h : canon k roots M = some (vs, m, ids)) : canOk k M ids = true ∧ vs = roots.map (AV.ren (canRen k ids)) ∧ m = canMem k M ids := by
  unfold canon at h
  simp only at h
  split at h
  · rename_i hc; cases h; exact ⟨hc, rfl, rfl⟩
  · cases h
theorem argsRel_len {ι : Emb} : ∀ {l : List AV} {m : List Value}, ArgsRel ι l m → l.length = m.length
  | [], [], _ => rfl
  | a :: l, v :: m, h => by simp [argsRel_len h.2]
  | [], _ :: _, h => h.elim
  | _ :: _, [], h => h.elim
theorem argsRel_get {ι : Emb} : ∀ {l : List AV} {m : List Value}, ArgsRel ι l m → ∀ i : Nat, (l.getD i (.c .any)).rel ι (m.getD i undef)
  | [], [], _, i => by simp; trivial
  | a :: l, v :: m, h, i => by
    cases i with
    | zero => simpa using h.1
    | succ i => simpa using argsRel_get h.2 i
  | [], _ :: _, h, _ => h.elim
  | _ :: _, [], h, _ => h.elim
theorem keepT_rel {ι : Emb} {a : Act} {ρr : Nat → Option Nat} : ∀ (keep : List Nat) (t : Nat → AV), (∀ i ∈ keep, ((t i).ren ρr).rel ι (a.tmps.getD i undef)) → ∀ i, (keepT keep ((keep.map t).map (AV.ren ρr)) i).rel ι (a.tmps.getD i undef)
  | [], _, _, i => trivial
  | x :: l, t, h, i => by
    show (upd (keepT l ((l.map t).map (AV.ren ρr))) x ((t x).ren ρr) i).rel ι _
    by_cases e : i = x
    · subst e; rw [upd_eq]; exact h i List.mem_cons_self
    · rw [upd_ne _ _ e]; exact keepT_rel l t (fun j hj => h j (List.mem_cons_of_mem _ hj)) i
theorem clean_sound {k : Nat} {keep : List Nat} {s s1 : St} (h : clean k keep s = some s1) {ι : Emb} {w : World} {a : Act} (hR : R ι s.m w) (hf : FRel ι s a) : ∃ ι', FRel ι' s1 a ∧ Step k ι s.m w ι' s1.m w ∧ k ≤ s1.m.length := by
  unfold clean at h
  split at h
  · rename_i vs m ids hc
    cases h
    obtain ⟨hok, rfl, rfl⟩ := canon_spec hc
    have hst := canon_step hok hR
    refine ⟨canEmb k ids ι, ⟨hf.size, fun t => ?_⟩, hst, hst.len⟩
    exact keepT_rel keep s.t (fun i _ => AV.ren_rel (can_same k ids ι) (hf.rel i)) t
  · cases h
theorem resOne_sound {P : Program} {s : St} {r : ResultVar} {v : AV} (h : resOne P s r = some v) {ι : Emb} {w : World} {a : Act} (hR : R ι s.m w) (hf : FRel ι s a) :
    ∃ u, (match r with | .tmp t => pure (a.tmps.getD t undef) | .cell p t => do loadVar t (← asAddr (a.tmps.getD p undef)) : Sem Value).run P w = .ok u w ∧ v.rel0 ι u := by
  cases r with
  | tmp t =>
    refine ⟨a.tmps.getD t undef, rfl, ?_⟩
    have := hf.rel t
    unfold resOne at h
    split at h
    · rename_i heq; cases heq
      split at h
      · cases h
      · rename_i hne
        cases h
        cases hst : s.t t with
        | c x => rw [hst] at this; exact this
        | agg x => rw [hst] at this; exact this
        | tup l => exact absurd hst (hne l)
    · rename_i heq; cases heq
  | cell p ty =>
    unfold resOne at h
    split at h
    · rename_i heq; cases heq
    · rename_i heq
      cases heq
      split at h
      · rename_i b o hp
        split at h
        · rename_i own x hm
          have := hf.rel p
          rw [hp] at this
          obtain ⟨l, hb, hv⟩ := this
          obtain ⟨cs, t', fr, k1, k2, k3, k4⟩ := hR.rows b l own x hb hm
          obtain ⟨u, hu, hr⟩ := run_loadPart h k1 k3
          refine ⟨u, ?_, hr⟩
          show (do loadVar ty (← asAddr (a.tmps.getD p undef)) : Sem Value).run P w = _
          rw [hv]
          simp only [asAddr, Sem.run_bind, Sem.run_pure, Result.andThen_ok, hu]
        · cases h
      · cases h
theorem resList_sound {P : Program} {s : St} {ι : Emb} {w : World} {a : Act} (hR : R ι s.m w) (hf : FRel ι s a) : ∀ {rs : List ResultVar} {vs : List AV}, resList P s rs = some vs →
    ∃ us : List Value, (rs.mapM (fun r => (match r with | .tmp t => pure (a.tmps.getD t undef) | .cell p t => do loadVar t (← asAddr (a.tmps.getD p undef)) : Sem Value))).run P w = .ok us w ∧ us.length = vs.length ∧ ∀ (i : Nat) (x : AV) (u : Value), vs[i]? = some x → us[i]? = some u → x.rel0 ι u
  | [], vs, h => by
    simp only [resList, Option.some.injEq] at h
    subst h
    exact ⟨[], by simp, rfl, fun i x u h => by simp at h⟩
  | r :: l, vs, h => by
    unfold resList at h
    split at h
    · rename_i v vs' hv hvs
      cases h
      obtain ⟨u, hu, hr⟩ := resOne_sound hv hR hf
      obtain ⟨us, hus, hl, hrs⟩ := resList_sound hR hf hvs
      refine ⟨u :: us, ?_, by simp [hl], fun i x y hx hy => ?_⟩
      · rw [List.mapM_cons]
        simp only [Sem.run_bind, hu, Result.andThen_ok, hus, Sem.run_pure]
      · cases i with
        | zero => simp at hx hy; subst hx; subst hy; exact hr
        | succ i => exact hrs i x y (by simpa using hx) (by simpa using hy)
    · cases h
theorem results_sound {P : Program} {fn : Func} {s : St} {vs : List AV} (h : resList P s fn.results.toList = some vs) {ι : Emb} {w : World} {a : Act} (hR : R ι s.m w) (hf : FRel ι s a) : ∃ u, (results fn a.tmps).run P w = .ok u w ∧ (resV vs).rel ι u := by
  obtain ⟨us, hus, hl, hr⟩ := resList_sound hR hf h
  have hmap : (fn.results.mapM (fun r => (match r with | .tmp t => pure (a.tmps.getD t undef) | .cell p t => do loadVar t (← asAddr (a.tmps.getD p undef)) : Sem Value))).run P w = .ok us.toArray w := by
    have e : fn.results = fn.results.toList.toArray := by simp
    rw [e, List.mapM_toArray, Sem.run_map, hus]
    rfl
  refine ⟨if h : us.toArray.size = 1 then us.toArray[0] else .tuple us.toArray, ?_, ?_⟩
  · unfold results
    rw [Sem.run_bind]
    erw [hmap]
    rfl
  · match vs, us, hl, hr with
    | [v], [u], _, hr => exact AV.rel_of0 (hr 0 v u rfl rfl)
    | [], [], _, _ => exact ⟨#[], rfl, rfl, fun i x u h => by simp at h⟩
    | v :: v' :: vs, u :: u' :: us, hl, hr =>
      rw [dif_neg (by simp)]
      exact ⟨(u :: u' :: us).toArray, rfl, by simpa using hl, fun i x y hx hy => hr i x y hx (by simpa using hy)⟩
theorem frel0 {ι : Emb} {args : List AV} {vs : Array Value} {n : Nat} (h : ArgsRel ι args vs.toList) (hn : args.length ≤ n) (m : Mem) : FRel ι ⟨n, argT args, m⟩ { tmps := vs ++ Array.replicate (n - vs.size) undef, defers := [] } := by
  have hl := argsRel_len h
  refine ⟨by simp; rw [← Array.length_toList, ← hl]; omega, fun t => ?_⟩
  have hg := argsRel_get h t
  show (args.getD t (.c .any)).rel ι _
  have e : (vs ++ Array.replicate (n - vs.size) undef).getD t undef = vs.toList.getD t undef := by
    rw [Array.getD_eq_getD_getElem?, List.getD_eq_getElem?_getD, Array.getElem?_toList]
    by_cases ht : t < vs.size
    · rw [Array.getElem?_append_left ht]
    · rw [Array.getElem?_append_right (by omega), Array.getElem?_eq_none (show vs.size ≤ t by omega)]
      by_cases h2 : t - vs.size < n - vs.size
      · simp [h2]
      · rw [Array.getElem?_eq_none (by simp; omega)]
  rw [e]; exact hg
theorem sound {P : Program} {t : Task} {r : Res} (h : Ev P t r) : Sound P t r := by
  induction h with
  | val h =>
    intro O ι w ρ hO hR hρ
    subst hO
    obtain ⟨u, hu, hv⟩ := evVal_sound h hR hρ
    exact .inl ⟨u, w, ι, .inl hu, hv, Step.refl hR (Nat.le_refl _)⟩
  | mem h =>
    intro O ι w ρ hO hR hρ
    subst hO
    exact .inl (evMem_sound h hR hρ)
  | @fn c e m args mc bs v mc' f hc he hf hin h ih =>
    intro O ι w ρ hO hR hρ
    obtain ⟨hok, rfl, rfl⟩ := canon_spec hin
    have hst := canon_step hok hR
    have hlen : (canMem 0 m bs).length = bs.length := by simp [canMem]
    have hfv : ρ (.func f) = .func (.func f) #[] #[] := by
      have := hρ (.func f) (by simp [Op.operands, Call.operands, hc])
      rw [he] at this
      exact this
    have hargs := argsRel_ren (can_same 0 bs ι) (e := e) (ρ := ρ) c.args.toList fun x hx => hρ x (by simp [Op.operands, Call.operands]; exact .inr (by simpa using hx))
    have hcall := ih (canEmb 0 bs ι) w (c.args.map ρ) hst.r (by rw [Array.toList_map]; exact hargs)
    refine .inr ⟨f, c.args.map ρ, ?_, hcall.mono fun e' w' hq => ?_⟩
    · cases hfn : P.funcs[f]? with
      | none => rw [hfn] at hf; cases hf
      | some fn =>
        rw [hfn] at hf
        simp only [Option.any_some, Bool.and_eq_true, Bool.not_eq_true'] at hf
        have h1 : fn.body.isNone = false := by have := hf.1; cases hb : fn.body <;> simp_all
        have h2 : (fn.name == "runtime.NumGoroutine") = false := hf.2
        have h1' : ¬ fn.body = none := by intro e0; rw [e0] at h1; cases h1
        have h2' : ¬ fn.name = "runtime.NumGoroutine" := by simpa using h2
        simp [execOp, hO, resolve, hc, hfv, Deferred.ofValue, invoke, callFunc, hfn, h1', h2']
    · obtain ⟨u, ι', rfl, hv, hs⟩ := hq
      rw [hlen] at hs
      obtain ⟨h1, h2⟩ := link_sound hok hR hs hv
      exact ⟨u, _, rfl, h1, h2⟩
  | @add64 c e m v f hc he hf h =>
    intro O ι w ρ hO hR hρ
    obtain ⟨x, y, z, hl, hz, rfl⟩ := ev64_spec h
    have ha := args3 hρ hl
    refine ext_good hO hc he hf hR hρ (u := .tuple #[U64 (x + y + z), U64 (addC x y z)]) (by rw [ha]; exact run_addE P x y z hz w) ⟨#[U64 (x + y + z), U64 (addC x y z)], rfl, rfl, fun i a u hi hu => ?_⟩
    match i, hi, hu with
    | 0, hi, hu => cases hi; cases hu; rfl
    | 1, hi, hu => cases hi; cases hu; rfl
    | i + 2, hi, hu => simp at hi
  | @sub64 c e m v f hc he hf h =>
    intro O ι w ρ hO hR hρ
    obtain ⟨x, y, z, hl, hz, rfl⟩ := ev64_spec h
    have ha := args3 hρ hl
    refine ext_good hO hc he hf hR hρ (u := .tuple #[U64 (x - y - z), U64 (subC x y z)]) (by rw [ha]; exact run_subE P x y z hz w) ⟨#[U64 (x - y - z), U64 (subC x y z)], rfl, rfl, fun i a u hi hu => ?_⟩
    match i, hi, hu with
    | 0, hi, hu => cases hi; cases hu; rfl
    | 1, hi, hu => cases hi; cases hu; rfl
    | i + 2, hi, hu => simp at hi
  | nil => exact fun _ ι w a hk hR hf Q hQ => hQ ι a w hf rfl (Step.refl hR hk)
  | @cons k ops o l s v m' r hw hd h hk ih1 ih2 =>
    intro _ ι w a hk' hR hf Q hQ
    have hwant := wanted_rel (fun d _ => hf.rel d) hw
    unfold wpList
    rw [if_pos hwant]
    refine .inl ((ih1 o ι w a.eval rfl hR fun x _ => opnd_rel hf x).wp rfl fun u w' ι' hv hst => ?_)
    have hf' : FRel ι' ⟨s.n, putT s.t o.dst v, m'⟩ (a.put o.dst u) := (hf.mono (hst.le hR) s.m).put hd hv m'
    refine ih2 rfl ι' w' _ (Nat.le_trans hk' hst.len) hst.r hf' Q fun ι2 a2 w2 g1 g2 g3 => hQ ι2 a2 w2 g1 (by rw [g2]; cases o.dst <;> rfl) ((hst.low hk').comp g3)
  | @skip k ops o l s r hw hd hk ih =>
    intro _ ι w a hk' hR hf Q hQ
    have hwant := wanted_rel (fun d _ => hf.rel d) hw
    unfold wpList
    rw [if_neg (by rw [hwant]; simp)]
    exact ih rfl ι w _ hk' hR (hf.put (v := noV) (u := undef) hd rfl s.m) Q fun ι2 a2 w2 g1 g2 g3 => hQ ι2 a2 w2 g1 (by rw [g2]; cases o.dst <;> rfl) g3
  | region h ih =>
    intro ι w a hk' hR hf Q hQ
    exact wp_region_list (ih rfl ι w a hk' hR hf Q hQ)
  | @draw k id ops s r n A W V N hm hok hA hW hV hS hk ihV ihk =>
    intro ι w a hk' hR hf Q hQ
    subst hA
    have hn : n ≤ ops.size := by
      simp only [Region.okAll, Bool.and_eq_true, decide_eq_true_eq] at hok
      exact hok.1.1.1.1
    exact draw_sound hm ⟨hn, rfl, hS⟩ hW ihV hok hf hR hk' fun ι' a' w' h1 h2 h3 => ihk rfl ι' w' a' h3.len h3.r h1 Q fun ι2 a2 w2 g1 g2 g3 => hQ ι2 a2 w2 g1 (g2.trans h2) (h3.comp g3)
  | @late k id ops s r n i0 A W V N hm hc hok hA hW hV hS hk ihV ihk =>
    intro ι w a hk' hR hf Q hQ
    subst hA
    have hn : n ≤ (lateOps ops n i0).size := by
      simp only [Region.okAll, Bool.and_eq_true, decide_eq_true_eq] at hok
      exact hok.1.1.1.1
    exact late_sound hm hc ⟨hn, rfl, hS⟩ hW ihV hok hf hR hk' fun ι' a' w' h1 h2 h3 => ihk rfl ι' w' a' h3.len h3.r h1 (nrm Q) fun ι2 a2 w2 g1 g2 g3 => ⟨rfl, hQ ι2 a2 w2 g1 (g2.trans h2) (h3.comp g3)⟩
  | @clean k c s s1 r keep hc h ih =>
    cases r with
    | val v m => trivial
    | out e s' =>
      intro ι w a hk' hR hf Q hQ
      obtain ⟨ι', h1, h2, h3⟩ := clean_sound hc hR hf
      exact ih ι' w a h3 h2.r h1 Q fun ι2 a2 w2 g1 g2 g3 => hQ ι2 a2 w2 g1 g2 (h2.comp g3)
  | @weak k c s s1 r hw h ih =>
    cases r with
    | val v m => trivial
    | out e s' =>
      intro ι w a hk' hR hf Q hQ
      obtain ⟨ι', h1, h2⟩ := hw ι w a hk' hR hf
      exact ih ι' w a h2.len h2.r h1 Q fun ι2 a2 w2 g1 g2 g3 => hQ ι2 a2 w2 g1 g2 (h2.comp g3)
  | sem h => exact h
  | semF h => exact h
  | @tidy k c s e s1 s2 keep h hc ih =>
    intro ι w a hk' hR hf Q hQ
    refine ih ι w a hk' hR hf Q fun ι2 a2 w2 g1 g2 g3 => ?_
    obtain ⟨ι', h1, h2, h3⟩ := clean_sound hc g3.r g1
    exact hQ ι' a2 w2 h1 g2 (g3.comp h2)
  | @ro o e m v N h ih =>
    intro O ι w ρ hO hR hρ
    rcases ih O ι w ρ hO (ro_R hR) hρ with ⟨u, w', ι', hr, hv, hs⟩ | ⟨f, args, hr, hc⟩
    · rw [roMem_length] at hs
      exact .inl ⟨u, w', ι', hr, hv, ro_step hR hs⟩
    · refine .inr ⟨f, args, hr, hc.mono fun e w' he => ?_⟩
      obtain ⟨u, ι', h1, h2, h3⟩ := he
      rw [roMem_length] at h3
      exact ⟨u, ι', h1, h2, ro_step hR h3⟩
  | @stores k id ops s A V hm hok hA hP hS =>
    subst hA
    intro ι w a hk' hR hf Q hQ
    exact stores_sound hm ⟨rfl, fun i o ho hs => ⟨.inl (hP i o ho hs).1, (hP i o ho hs).2⟩, hS⟩ hok hf hR hk' fun a' w' h1 h2 h3 => hQ ι a' w' h1 h2 h3
  | @stores2 k id ops s A V E hm hok hA hP hE hE2 hS ihE =>
    subst hA
    intro ι w a hk' hR hf Q hQ
    refine stores_sound hm ⟨rfl, fun i o ho hs => ⟨?_, (hE2 i o ho hs).2⟩, hS⟩ hok hf hR hk' fun a' w' h1 h2 h3 => hQ ι a' w' h1 h2 h3
    cases he : E i with
    | false => exact .inr (.inr (hP i o ho hs he))
    | true => exact .inr (.inl ⟨(hE2 i o ho hs).1 he, ihE i o ho hs he⟩)
  | cskip => exact fun ι w a hk' hR hf Q hQ => wp_skip (hQ ι a w hf rfl (Step.refl hR hk'))
  | label => exact fun ι w a hk' hR hf Q hQ => wp_label (hQ ι a w hf rfl (Step.refl hR hk'))
  | @seq k a b s s1 r h1 h2 ih1 ih2 =>
    cases r with
    | val v m => trivial
    | out e s' =>
      intro ι w a' hk' hR hf Q hQ
      exact wp_seq (wpC_wp (ih1 ι w a' hk' hR hf _ fun ι2 a2 w2 g1 g2 g3 => wpC_wp (ih2 ι2 w2 a2 g3.len g3.r g1 Q fun ι3 a3 w3 k1 k2 k3 => hQ ι3 a3 w3 k1 (k2.trans g2) (g3.comp k3))))
  | @seqx k a b s s1 e h1 he ih =>
    intro ι w a' hk' hR hf Q hQ
    refine wp_seq (wpC_wp (ih ι w a' hk' hR hf _ fun ι2 a2 w2 g1 g2 g3 => ?_))
    have := hQ ι2 a2 w2 g1 g2 g3
    cases e with
    | normal => exact absurd rfl he
    | _ => exact this
  | @cond k c a b s r t hc h ih =>
    cases r with
    | val v m => trivial
    | out e s' =>
      intro ι w a' hk' hR hf Q hQ
      have hv := opnd_rel hf c
      rw [hc] at hv
      exact wp_cond hv (wpC_wp (ih ι w a' hk' hR hf Q hQ))
  | @block k id c s s1 e h ih =>
    intro ι w a' hk' hR hf Q hQ
    refine wp_block (wpC_wp (ih ι w a' hk' hR hf _ fun ι2 a2 w2 g1 g2 g3 => ?_))
    have := hQ ι2 a2 w2 g1 g2 g3
    cases e with
    | normal => exact this
    | ret => exact this
    | exit i =>
      simp only [Ex.block, Ex.out, Exit.inBlock] at this ⊢
      split
      · rename_i e; rw [if_pos e] at this; exact this
      · rename_i e; rw [if_neg e] at this; exact this
  | @loop k c s s1 r h1 h2 ih1 ih2 =>
    cases r with
    | val v m => trivial
    | out e s' =>
      intro ι w a' hk' hR hf Q hQ
      exact loopAt_next (wpC_wp (ih1 ι w a' hk' hR hf _ fun ι2 a2 w2 g1 g2 g3 => ih2 ι2 w2 a2 g3.len g3.r g1 Q fun ι3 a3 w3 k1 k2 k3 => hQ ι3 a3 w3 k1 (k2.trans g2) (g3.comp k3)))
  | @loopx k c s s1 e h1 he ih =>
    intro ι w a' hk' hR hf Q hQ
    refine loopAt_next (wpC_wp (ih ι w a' hk' hR hf _ fun ι2 a2 w2 g1 g2 g3 => ?_))
    have := hQ ι2 a2 w2 g1 g2 g3
    cases e with
    | normal => exact absurd rfl he
    | _ => exact this
  | exit => exact fun ι w a hk' hR hf Q hQ => wp_exit (hQ ι a w hf rfl (Step.refl hR hk'))
  | ret => exact fun ι w a hk' hR hf Q hQ => wp_ret (hQ ι a w hf rfl (Step.refl hR hk'))
  | @scope k c s s1 e h ih =>
    intro ι w a' hk' hR hf Q hQ
    refine wp_scope_straight (wpC_wp (ih ι w a' hk' hR hf _ fun ι2 a2 w2 g1 g2 g3 => ?_))
    have := hQ ι2 a2 w2 g1 g2 g3
    cases e <;> exact this
  | @view f args m args' m' v N ρ hρ ha h ih =>
    intro ι w cargs hR hargs
    refine (ih (viewEmb ρ ι) w cargs (view_R hρ hR) (ha.rel (fun j i hj => by unfold viewEmb; rw [hj]; rfl) hargs)).mono fun e' w' hq => ?_
    obtain ⟨u, ι1, rfl, hv, hs⟩ := hq
    obtain ⟨ι2, hsame, hst⟩ := view_step hρ hR hs
    exact ⟨u, ι2, rfl, AV.ren_rel hsame hv, hst⟩
  | @call f fn c args m e s' vs v m' ids hf hb hn h he hres hcan ih =>
    intro ι w cargs hR hargs
    obtain ⟨hok, hv, rfl⟩ := canon_spec hcan
    simp only [List.map_cons, List.map_nil, List.cons.injEq, and_true] at hv
    subst hv
    refine calls_of_wp hf hb (wpC_wp (ih ι w _ (Nat.le_refl _) hR (frel0 hargs hn m) _ fun ι2 a2 w2 g1 g2 g3 => ?_))
    obtain ⟨u, hu, hr⟩ := results_sound hres g3.r g1
    have hcs := canon_step hok g3.r
    have fin : a2.defers = [] ∧ ∃ v, (results fn a2.tmps).run P w2 = .ok v w2 ∧ ∃ u ι', Ending.returned v = .returned u ∧ ((resV vs).ren (canRen m.length ids)).rel ι' u ∧ Step m.length ι m w ι' (canMem m.length s'.m ids) w2 :=
      ⟨g2, u, hu, u, canEmb m.length ids ι2, rfl, AV.ren_rel (can_same _ _ _) hr, g3.comp hcs⟩
    rcases he with rfl | rfl
    · exact fin
    · exact fin
end Go.Proofs.Ytcgncafhonlmlaa
namespace Go.Proofs.Ytcgncafhonlmlaa
open Go.RowKit
def PartOf (ρ : Nat → Option (Nat × Nat)) (m m' : Mem) : Prop := ∀ j i o, ρ j = some (i, o) → j < m'.length ∧ ∃ own x y, m[i]? = some (.row own x) ∧ m'[j]? = some (.row false y) ∧ o + y.size ≤ x.size ∧ (∀ k, k < y.size → y.get k = x.get (o + k)) ∧ y.ren noRen = y
inductive PartC (ρ : Nat → Option (Nat × Nat)) : Cell → Cell → Prop
  | same {x : Cell} (h : x.ren noRen = x) : PartC ρ x x
  | ptr {b b' o k e : Nat} (h : ρ b' = some (b, o)) (he : e = o + k) : PartC ρ (.ptr b e) (.ptr b' k)
  | sl {b b' o k e len cap sz : Nat} (h : ρ b' = some (b, o)) (he : e = o + k) : PartC ρ (.sl b e len cap sz) (.sl b' k len cap sz)
  | nil {b' sz : Nat} : PartC ρ .nsl (.sl b' 0 0 0 sz)
  | emp {b' sz : Nat} : PartC ρ .esl (.sl b' 0 0 0 sz)
inductive PartL (ρ : Nat → Option (Nat × Nat)) : List AV → List AV → Prop
  | nil : PartL ρ [] []
  | c {x y : Cell} {l m : List AV} (h : PartC ρ x y) (hl : PartL ρ l m) : PartL ρ (.c x :: l) (.c y :: m)
  | agg {x : Arr} {l m : List AV} (h : x.ren noRen = x) (hl : PartL ρ l m) : PartL ρ (.agg x :: l) (.agg x :: m)
def partRen (n m j : Nat) : Option Nat := if j < n then none else some (j - n + m)
def partEmb (ρ : Nat → Option (Nat × Nat)) (ι : Emb) : Emb := fun j => (ρ j).bind fun q => (ι q.1).map fun l => ⟨l.c, l.off + q.2, l.n - q.2⟩
section
variable {ρ : Nat → Option (Nat × Nat)} {m m' N : Mem} {ι : Emb} {w : World}
theorem partEmb_of {j i o : Nat} (h : ρ j = some (i, o)) : partEmb ρ ι j = (ι i).map fun l => ⟨l.c, l.off + o, l.n - o⟩ := by
  unfold partEmb; rw [h]; rfl
theorem partEmb_some {j : Nat} {l : Loc} (h : partEmb ρ ι j = some l) : ∃ i o l0, ρ j = some (i, o) ∧ ι i = some l0 ∧ l = ⟨l0.c, l0.off + o, l0.n - o⟩ := by
  unfold partEmb at h
  obtain ⟨⟨i, o⟩, h1, h2⟩ := Option.bind_eq_some_iff.1 h
  obtain ⟨l0, h3, rfl⟩ := Option.map_eq_some_iff.1 h2
  exact ⟨i, o, l0, h1, h3, rfl⟩
theorem PartC.rel {x y : Cell} (h : PartC ρ x y) {v : Value} (hr : x.rel ι v) : y.rel (partEmb ρ ι) v := by
  cases h with
  | same h => rw [← h]; exact Cell.ren_rel (noRen_same ι _) hr
  | ptr h he =>
    obtain ⟨l, hl, rfl⟩ := hr
    subst he
    exact ⟨_, by rw [partEmb_of h, hl]; rfl, by simp [Nat.add_assoc]⟩
  | sl h he =>
    subst he
    obtain ⟨p, cap', rfl, h1, h2, h3⟩ := hr
    refine ⟨p, cap', rfl, h1, h2, h3.imp id ?_⟩
    rintro ⟨l, hl, rfl, hn⟩
    exact ⟨_, by rw [partEmb_of h, hl]; rfl, by simp [Nat.add_assoc], by show _ ≤ l.n - _; omega⟩
  | nil => simp only [Cell.rel] at hr; subst hr; exact ⟨none, 0, rfl, Nat.le_refl _, Nat.le_refl _, .inl rfl⟩
  | emp => obtain ⟨p, rfl⟩ := hr; exact ⟨p, 0, rfl, Nat.le_refl _, Nat.le_refl _, .inl rfl⟩
theorem PartL.rel {l m : List AV} (h : PartL ρ l m) : ∀ {vs : List Value}, ArgsRel ι l vs → ArgsRel (partEmb ρ ι) m vs := by
  induction h with
  | nil => intro vs hr; cases vs with
    | nil => trivial
    | cons v vs => exact hr.elim
  | c h _ ih => intro vs hr; cases vs with
    | nil => exact hr.elim
    | cons v vs => exact ⟨h.rel hr.1, ih hr.2⟩
  | @agg x l m h _ ih => intro vs hr; cases vs with
    | nil => exact hr.elim
    | cons v vs =>
      refine ⟨?_, ih hr.2⟩
      have := AV.ren_rel (noRen_same ι (partEmb ρ ι)) hr.1
      rwa [show AV.ren noRen (.agg x) = .agg x from congrArg AV.agg h] at this
theorem part_R (hρ : PartOf ρ m m') (hR : R ι m w) : R (partEmb ρ ι) m' w := by
  refine ⟨fun b hb => ?_, fun b l own x h1 h2 => ?_, fun b b' l l' own own' x x' _ h1 h1' h2 h2' ho => ?_⟩
  · cases hv : partEmb ρ ι b with
    | none => rfl
    | some l => obtain ⟨i, o, l0, hi, _⟩ := partEmb_some hv; have := (hρ b i o hi).1; omega
  · obtain ⟨i, o, l0, hi, hl, rfl⟩ := partEmb_some h1
    obtain ⟨_, ow, xx, y, g1, g2, g3, g4, g5⟩ := hρ b i o hi
    rw [g2] at h2; cases h2
    obtain ⟨cs, t, fr, k1, k2, k3, _⟩ := hR.rows i l0 ow _ hl g1
    refine ⟨cs, t, fr, k1, by show _ ≤ l0.n - o; omega, fun k hk => ?_, fun h => by cases h⟩
    obtain ⟨v, e1, e2⟩ := k3 (o + k) (by omega)
    refine ⟨v, by rw [show l0.off + o + k = l0.off + (o + k) from Nat.add_assoc _ _ _]; exact e1, ?_⟩
    rw [← g4 k hk] at e2
    have := Cell.ren_rel (noRen_same ι (partEmb ρ ι)) e2
    rwa [← Arr.ren_get, g5] at this
  · obtain ⟨i, o, l0, hi, _⟩ := partEmb_some h1
    obtain ⟨i', o', l0', hi', _⟩ := partEmb_some h1'
    obtain ⟨_, _, _, _, _, g2, _⟩ := hρ b i o hi
    obtain ⟨_, _, _, _, _, g2', _⟩ := hρ b' i' o' hi'
    rw [g2] at h2; cases h2
    rw [g2'] at h2'; cases h2'
    rcases ho with h | h <;> cases h
theorem part_step (hρ : PartOf ρ m m') (hR : R ι m w) {ι1 : Emb} {w' : World} (h : Step m'.length (partEmb ρ ι) m' w ι1 (m' ++ N) w') :
    ∃ ι2 : Emb, Same (partRen m'.length m.length) ι1 ι2 ∧ Step m.length ι m w ι2 (m ++ N.map (Row.ren (partRen m'.length m.length))) w' := by
  have unown : ∀ c, Owned (partEmb ρ ι) m' c → False := by
    rintro c ⟨b, l, x, h1, h2, _⟩
    obtain ⟨i, o, l0, hi, _⟩ := partEmb_some h1
    obtain ⟨_, _, _, _, _, g2, _⟩ := hρ b i o hi
    rw [g2] at h2; cases h2
  let ι2 : Emb := fun b => if b < m.length then ι b else ι1 (b - m.length + m'.length)
  have lo : ∀ {b}, b < m.length → ι2 b = ι b := fun hb => if_pos hb
  have hi : ∀ {b}, m.length ≤ b → ι2 b = ι1 (b - m.length + m'.length) := fun hb => if_neg (by omega)
  have hle : ι.le ι2 := fun b l hb => by
    have : b < m.length := by
      rcases Nat.lt_or_ge b m.length with h' | h'
      · exact h'
      · rw [hR.dom b h'] at hb; cases hb
    rw [lo this]; exact hb
  have same : Same (partRen m'.length m.length) ι1 ι2 := by
    intro j i hj
    unfold partRen at hj
    split at hj
    · cases hj
    · rename_i hge
      cases hj
      rw [hi (by omega)]
      congr 1
      omega
  have old : ∀ {b own x}, b < m.length → (m ++ N.map (Row.ren (partRen m'.length m.length)))[b]? = some (.row own x) → m[b]? = some (.row own x) := fun {b own x} hb hm => by rw [List.getElem?_append_left hb] at hm; exact hm
  have new : ∀ {b own x}, m.length ≤ b → (m ++ N.map (Row.ren (partRen m'.length m.length)))[b]? = some (.row own x) → ∃ y, (m' ++ N)[b - m.length + m'.length]? = some (.row own y) ∧ x = y.ren (partRen m'.length m.length) := fun {b own x} hb hm => by
    rw [List.getElem?_append_right hb, List.getElem?_map] at hm
    obtain ⟨r, hr, e⟩ := Option.map_eq_some_iff.1 hm
    obtain ⟨y, rfl, hy⟩ := row_ren e
    refine ⟨y, ?_, hy⟩
    rw [List.getElem?_append_right (by omega), show b - m.length + m'.length - m'.length = b - m.length by omega]
    exact hr
  have far : ∀ {b l own x}, m.length ≤ b → ι2 b = some l → (m ++ N.map (Row.ren (partRen m'.length m.length)))[b]? = some (.row own x) → w.heap.size ≤ l.c := fun {b l own x} hb hl hm => by
    obtain ⟨y, hy, _⟩ := new hb hm
    rw [hi hb] at hl
    rcases h.news _ l own y (by omega) hl hy with h3 | h3 | ⟨b0, l0, o0, x0, h4, h5, h6, _⟩
    · exact h3
    · exact (unown _ h3).elim
    · exact (no_row h4 h6).elim
  refine ⟨ι2, same, ⟨⟨fun b hb => ?_, fun b l own x hb hm => ?_, fun b b' l l' own own' x x' hne hb hb' hm hm' hoo => ?_⟩, ⟨h.trans.os, h.trans.tape, h.trans.output, h.trans.size, fun c hc _ => h.trans.keep c hc (unown c), fun c hc => ?_⟩, fun b hb => lo hb, by simp, fun b x hb hm => by rw [List.getElem?_append_left hb]; exact hm, fun b own x hb hm => ⟨x, old hb hm⟩, fun b l own x hb h1 h2 => .inl (far hb h1 h2)⟩⟩
  · rw [List.length_append, List.length_map] at hb
    rw [hi (by omega)]
    exact h.r.dom _ (by rw [List.length_append]; omega)
  · rcases Nat.lt_or_ge b m.length with hs | hs
    · rw [lo hs] at hb
      obtain ⟨cs, t, fr, k1, k2, k3, k4⟩ := hR.rows b l own x hb (old hs hm)
      exact ⟨cs, t, fr, by rw [h.trans.keep l.c (hR.lt hb (old hs hm)) (unown _)]; exact k1, k2, k3.mono' hle, k4⟩
    · obtain ⟨y, hy, rfl⟩ := new hs hm
      rw [hi hs] at hb
      obtain ⟨cs, t, fr, k1, k2, k3, k4⟩ := h.r.rows _ l own y hb hy
      exact ⟨cs, t, fr, k1, by rw [Arr.ren_size]; exact k2, Arr.ren_rel same k3, k4⟩
  · rcases Nat.lt_or_ge b m.length with hs | hs <;> rcases Nat.lt_or_ge b' m.length with hs' | hs'
    · rw [lo hs] at hb
      rw [lo hs'] at hb'
      exact hR.inj b b' l l' own own' x x' hne hb hb' (old hs hm) (old hs' hm') hoo
    · rw [lo hs] at hb
      have h1 := hR.lt hb (old hs hm)
      have h2 := far hs' hb' hm'
      omega
    · rw [lo hs'] at hb'
      have h1 := hR.lt hb' (old hs' hm')
      have h2 := far hs hb hm
      omega
    · obtain ⟨y, hy, _⟩ := new hs hm
      obtain ⟨y', hy', _⟩ := new hs' hm'
      rw [hi hs] at hb
      rw [hi hs'] at hb'
      exact h.r.inj _ _ l l' own own' y y' (by omega) hb hb' hy hy' hoo
  · obtain ⟨b, l, x, hb, hm, rfl⟩ := hc
    rcases Nat.lt_or_ge b m.length with hs | hs
    · rw [lo hs] at hb
      exact .inr ⟨b, l, x, hb, old hs hm, rfl⟩
    · exact .inl (far hs hb hm)
theorem Ev.part {P : Program} {f : FuncId} {args args' : List AV} {v : AV} (ρ : Nat → Option (Nat × Nat)) (hρ : PartOf ρ m m') (ha : PartL ρ args args')
    (h : Ev P (.call f args' m') (.val v (m' ++ N))) : Ev P (.call f args m) (.val (v.ren (partRen m'.length m.length)) (m ++ N.map (Row.ren (partRen m'.length m.length)))) :=
  Ev.semF fun ι w vs hR hargs => by
    refine (sound h (partEmb ρ ι) w vs (part_R hρ hR) (ha.rel hargs)).mono fun e' w' hq => ?_
    obtain ⟨u, ι1, rfl, hv, hs⟩ := hq
    obtain ⟨ι2, hsame, hst⟩ := part_step hρ hR hs
    exact ⟨u, ι2, rfl, AV.ren_rel hsame hv, hst⟩
end
inductive PartRows (m : Mem) : List (Option (Nat × Nat)) → Mem → Prop
  | nil : PartRows m [] []
  | no {r : Row} {os : List (Option (Nat × Nat))} {m' : Mem} (hl : PartRows m os m') : PartRows m (none :: os) (r :: m')
  | a8 {i o n : Nat} {own : Bool} {b : List (BitVec 8)} {os : List (Option (Nat × Nat))} {m' : Mem} (hm : m[i]? = some (.row own (.a8 b))) (h : o + n ≤ b.length) (hl : PartRows m os m') : PartRows m (some (i, o) :: os) (.row false (.a8 (cut b o n)) :: m')
  | all {i : Nat} {own : Bool} {x : Arr} {os : List (Option (Nat × Nat))} {m' : Mem} (hm : m[i]? = some (.row own x)) (h : x.ren noRen = x) (hl : PartRows m os m') : PartRows m (some (i, 0) :: os) (.row false x :: m')
def partOfs (os : List (Option (Nat × Nat))) (j : Nat) : Option (Nat × Nat) := (os[j]?).bind id
theorem PartRows.get {m : Mem} {os : List (Option (Nat × Nat))} {m' : Mem} (h : PartRows m os m') : ∀ {j i o : Nat}, os[j]? = some (some (i, o)) → j < m'.length ∧ ∃ own x y, m[i]? = some (.row own x) ∧ m'[j]? = some (.row false y) ∧ o + y.size ≤ x.size ∧ (∀ k, k < y.size → y.get k = x.get (o + k)) ∧ y.ren noRen = y := by
  induction h with
  | nil => intro j i o hj; simp at hj
  | no _ ih =>
    intro j i o hj
    cases j with
    | zero => simp at hj
    | succ j =>
      rw [List.getElem?_cons_succ] at hj
      obtain ⟨h1, ow, x, y, h2, h3, h4⟩ := ih hj
      exact ⟨by simpa using h1, ow, x, y, h2, by rw [List.getElem?_cons_succ]; exact h3, h4⟩
  | @a8 i o n own b os m' hm h _ ih =>
    intro j i' o' hj
    cases j with
    | zero =>
      simp only [List.getElem?_cons_zero, Option.some.injEq, Prod.mk.injEq] at hj
      obtain ⟨rfl, rfl⟩ := hj
      have hl : (cut b o n).length = n := by simp [cut]; omega
      refine ⟨by simp, own, .a8 b, .a8 (cut b o n), hm, rfl, by show o + (cut b o n).length ≤ b.length; omega, fun k hk => ?_, rfl⟩
      have hk' : k < n := by have : k < (cut b o n).length := hk; omega
      show Cell.val (U8 (nth (cut b o n) k)) = Cell.val (U8 (nth b (o + k)))
      rw [show nth (cut b o n) k = nth b (o + k) from cut_get b o n k _ hk']
    | succ j =>
      rw [List.getElem?_cons_succ] at hj
      obtain ⟨h1, ow, x, y, h2, h3, h4⟩ := ih hj
      exact ⟨by simpa using h1, ow, x, y, h2, by rw [List.getElem?_cons_succ]; exact h3, h4⟩
  | @all i own x os m' hm h _ ih =>
    intro j i' o' hj
    cases j with
    | zero =>
      simp only [List.getElem?_cons_zero, Option.some.injEq, Prod.mk.injEq] at hj
      obtain ⟨rfl, rfl⟩ := hj
      exact ⟨by simp, own, x, x, hm, rfl, by omega, fun k hk => by rw [Nat.zero_add], h⟩
    | succ j =>
      rw [List.getElem?_cons_succ] at hj
      obtain ⟨h1, ow, x, y, h2, h3, h4⟩ := ih hj
      exact ⟨by simpa using h1, ow, x, y, h2, by rw [List.getElem?_cons_succ]; exact h3, h4⟩
theorem PartRows.of {m : Mem} {os : List (Option (Nat × Nat))} {m' : Mem} (h : PartRows m os m') : PartOf (partOfs os) m m' := by
  intro j i o hj
  unfold partOfs at hj
  obtain ⟨o', h1, h2⟩ := Option.bind_eq_some_iff.1 hj
  simp only [id_eq] at h2
  subst h2
  exact h.get h1
theorem Ev.parts {P : Program} {f : FuncId} {m m' N N' : Mem} {args args' : List AV} {v v' : AV} (os : List (Option (Nat × Nat))) (hr : PartRows m os m') (ha : PartL (partOfs os) args args')
    (h : Ev P (.call f args' m') (.val v (m' ++ N))) (hv : v.ren (partRen m'.length m.length) = v') (hN : N.map (Row.ren (partRen m'.length m.length)) = N') : Ev P (.call f args m) (.val v' (m ++ N')) := by
  subst hv hN
  exact Ev.part (partOfs os) hr.of ha h
end Go.Proofs.Ytcgncafhonlmlaa
namespace Go.Proofs.Ytcgncafhonlmlaa
open Go.RowKit
structure WO (P : Program) (k : Nat) (ops : Array Oper) (l : List Oper) (s : St) (K : St → Prop) : Prop where
  h : ∃ r, Ev P (.ops k ops l s) (.out .normal r) ∧ K r
structure WC (P : Program) (k : Nat) (c : Code) (s : St) (Φ : Ex → St → Prop) : Prop where
  h : ∃ e r, Ev P (.code k c s) (.out e r) ∧ Φ e r
theorem cut_length {α : Type} (l : List α) (o n : Nat) : (cut l o n).length = min n (l.length - o) := by simp [cut]
theorem put_again {n : Nat} (l : List (BitVec n)) (k : Nat) (x y : BitVec n) : put (put l k x) k y = put l k y := by simp [put]
theorem puti_length (l : List Int) (i : Nat) (v : Int) : (puti l i v).length = l.length := by simp [puti]
theorem set8 (l : List (BitVec 8)) (i : Nat) (v : BitVec 8) : (Arr.a8 l).set i (.val (U8 v)) = some (.a8 (put l i v)) := by simp [Arr.set]
theorem set64 (l : List (BitVec 64)) (i : Nat) (v : BitVec 64) : (Arr.a64 l).set i (.val (U64 v)) = some (.a64 (put l i v)) := by simp [Arr.set]
section
variable {P : Program} {k N : Nat} {ops : Array Oper} {d : Nat} {ty : TypeId} {pos : String} {af : Array Edge} {l : List Oper} {T : Nat → AV} {M M' : Mem} {K : St → Prop}
theorem s_nil {s : St} (h : K s) : WO P k ops [] s K := ⟨⟨s, Ev.nil, h⟩⟩
theorem s_val {op : Op} {v : AV} (h : evVal P (opnd T) M op = some v) (hd : decide (d < N) = true) (hk : WO P k ops l ⟨N, upd T d v, M⟩ K) : WO P k ops (⟨some d, op, ty, pos, af, none⟩ :: l) ⟨N, T, M⟩ K :=
  let ⟨r, h1, h2⟩ := hk.h; ⟨⟨r, Ev.cons rfl hd (Ev.val h) h1, h2⟩⟩
theorem s_mem {op : Op} {v : AV} (h : evMem P (opnd T) M op = some (v, M')) (hd : decide (d < N) = true) (hk : WO P k ops l ⟨N, upd T d v, M'⟩ K) : WO P k ops (⟨some d, op, ty, pos, af, none⟩ :: l) ⟨N, T, M⟩ K :=
  let ⟨r, h1, h2⟩ := hk.h; ⟨⟨r, Ev.cons rfl hd (Ev.mem h) h1, h2⟩⟩
theorem s_mem0 {op : Op} {v : AV} (h : evMem P (opnd T) M op = some (v, M')) (hk : WO P k ops l ⟨N, T, M'⟩ K) : WO P k ops (⟨none, op, ty, pos, af, none⟩ :: l) ⟨N, T, M⟩ K :=
  let ⟨r, h1, h2⟩ := hk.h; ⟨⟨r, Ev.cons rfl rfl (Ev.mem h) h1, h2⟩⟩
theorem s_memN {op : Op} {v : AV} {news : Mem} (h : evMem P (opnd T) M op = some (v, M ++ news)) (hM : M ++ news = M') (hd : decide (d < N) = true) (hk : WO P k ops l ⟨N, upd T d v, M'⟩ K) : WO P k ops (⟨some d, op, ty, pos, af, none⟩ :: l) ⟨N, T, M⟩ K :=
  s_mem (by rw [h, hM]) hd hk
theorem s_ev {op : Op} {v : AV} (h : Ev P (.op op (opnd T) M) (.val v M')) (hd : decide (d < N) = true) (hk : WO P k ops l ⟨N, upd T d v, M'⟩ K) : WO P k ops (⟨some d, op, ty, pos, af, none⟩ :: l) ⟨N, T, M⟩ K :=
  let ⟨r, h1, h2⟩ := hk.h; ⟨⟨r, Ev.cons rfl hd h h1, h2⟩⟩
theorem s_evN {op : Op} {v : AV} {news : Mem} (h : Ev P (.op op (opnd T) M) (.val v (M ++ news))) (hM : M ++ news = M') (hd : decide (d < N) = true) (hk : WO P k ops l ⟨N, upd T d v, M'⟩ K) : WO P k ops (⟨some d, op, ty, pos, af, none⟩ :: l) ⟨N, T, M⟩ K :=
  s_ev (by rw [← hM]; exact h) hd hk
theorem s_go {o : Oper} {s : St} (hw : evWanted ops s.t o = some true) (h : WO P k ops (⟨o.dst, o.op, o.type, o.pos, o.after, none⟩ :: l) s K) : WO P k ops (o :: l) s K := by
  obtain ⟨r, h1, h2⟩ := h.h
  refine ⟨⟨r, ?_, h2⟩⟩
  cases h1 with
  | cons hw' hd h hk => exact Ev.cons hw hd h hk
  | skip hw' hd hk => cases hw'
theorem s_no {o : Oper} {s : St} (hw : evWanted ops s.t o = some false) (hd : dstOk s.n o.dst = true) (h : WO P k ops l ⟨s.n, putT s.t o.dst noV, s.m⟩ K) : WO P k ops (o :: l) s K :=
  let ⟨r, h1, h2⟩ := h.h; ⟨⟨r, Ev.skip hw hd h1, h2⟩⟩
def HW (P : Program) (ops : Array Oper) (K : St → Prop) : List Oper → St → Prop
  | [], s => K s
  | o :: l, s => (evWanted ops s.t o = some true ∧ ∃ v news, Ev P (.op o.op (opnd s.t) (roMem s.m)) (.val v (roMem s.m ++ news)) ∧ HW P ops K l ⟨s.n, putT s.t o.dst v, s.m ++ news⟩) ∨
      (evWanted ops s.t o = some false ∧ HW P ops K l ⟨s.n, putT s.t o.dst noV, s.m⟩)
structure HO (P : Program) (ops : Array Oper) (l : List Oper) (s : St) (K : St → Prop) : Prop where
  h : HW P ops K l s
theorem h_nil {s : St} (h : K s) : HO P ops [] s K := ⟨h⟩
theorem h_val {op : Op} {v : AV} (h : evVal P (opnd T) (roMem M) op = some v) (_hd : decide (d < N) = true) (hk : HO P ops l ⟨N, upd T d v, M⟩ K) : HO P ops (⟨some d, op, ty, pos, af, none⟩ :: l) ⟨N, T, M⟩ K :=
  ⟨.inl ⟨rfl, v, [], by rw [List.append_nil]; exact Ev.val h, by rw [List.append_nil]; exact hk.h⟩⟩
theorem h_memN {op : Op} {v : AV} {news : Mem} (h : evMem P (opnd T) (roMem M) op = some (v, roMem M ++ news)) (hM : M ++ news = M') (_hd : decide (d < N) = true) (hk : HO P ops l ⟨N, upd T d v, M'⟩ K) : HO P ops (⟨some d, op, ty, pos, af, none⟩ :: l) ⟨N, T, M⟩ K :=
  ⟨.inl ⟨rfl, v, news, Ev.mem h, by rw [hM]; exact hk.h⟩⟩
theorem h_evN {op : Op} {v : AV} {news : Mem} (h : Ev P (.op op (opnd T) (roMem M)) (.val v (roMem M ++ news))) (hM : M ++ news = M') (_hd : decide (d < N) = true) (hk : HO P ops l ⟨N, upd T d v, M'⟩ K) : HO P ops (⟨some d, op, ty, pos, af, none⟩ :: l) ⟨N, T, M⟩ K :=
  ⟨.inl ⟨rfl, v, news, h, by rw [hM]; exact hk.h⟩⟩
theorem h_go {o : Oper} {s : St} (hw : evWanted ops s.t o = some true) (h : HO P ops (⟨o.dst, o.op, o.type, o.pos, o.after, none⟩ :: l) s K) : HO P ops (o :: l) s K := by
  rcases h.h with ⟨_, r⟩ | ⟨h0, _⟩
  · exact ⟨.inl ⟨hw, r⟩⟩
  · cases h0
theorem h_no {o : Oper} {s : St} (hw : evWanted ops s.t o = some false) (h : HO P ops l ⟨s.n, putT s.t o.dst noV, s.m⟩ K) : HO P ops (o :: l) s K := ⟨.inr ⟨hw, h.h⟩⟩
theorem HW.line {s0 : St} : ∀ {l : List Oper} {s : St}, HW P ops K l s → s.n = s0.n → ∃ (A : Nat → St) (W : Nat → Bool) (V : Nat → AV) (N : Nat → Mem), A 0 = s ∧ (∀ i o, l[i]? = some o → evWanted ops (A i).t o = some (W i)) ∧
    (∀ i o, l[i]? = some o → W i = true → Ev P (.op o.op (opnd (A i).t) (roMem (A i).m)) (.val (V i) (roMem (A i).m ++ N i))) ∧
    (∀ i o, l[i]? = some o → A (i + 1) = if W i = true then ⟨s0.n, putT (A i).t o.dst (V i), (A i).m ++ N i⟩ else ⟨s0.n, putT (A i).t o.dst noV, (A i).m⟩) ∧ K (A l.length)
  | [], s, h, _ => ⟨fun _ => s, fun _ => true, fun _ => .c .any, fun _ => [], rfl, fun i o h => by simp at h, fun i o h => by simp at h, fun i o h => by simp at h, h⟩
  | o :: l, s, h, hn => by
    rcases h with ⟨hw, v, news, hv, hr⟩ | ⟨hw, hr⟩
    · obtain ⟨A, W, V, N, h0, h1, h2, h3, h4⟩ := HW.line (s := ⟨s.n, putT s.t o.dst v, s.m ++ news⟩) hr hn
      refine ⟨fun i => match i with | 0 => s | i + 1 => A i, fun i => match i with | 0 => true | i + 1 => W i, fun i => match i with | 0 => v | i + 1 => V i, fun i => match i with | 0 => news | i + 1 => N i, rfl, fun i o' h => ?_, fun i o' h hw' => ?_, fun i o' h => ?_, h4⟩
      · cases i with
        | zero => simp at h; subst h; exact hw
        | succ i => exact h1 i o' (by simpa using h)
      · cases i with
        | zero => simp at h; subst h; exact hv
        | succ i => exact h2 i o' (by simpa using h) hw'
      · cases i with
        | zero => simp at h; subst h; simp only [if_true]; rw [h0, hn]
        | succ i => exact h3 i o' (by simpa using h)
    · obtain ⟨A, W, V, N, h0, h1, h2, h3, h4⟩ := HW.line (s := ⟨s.n, putT s.t o.dst noV, s.m⟩) hr hn
      refine ⟨fun i => match i with | 0 => s | i + 1 => A i, fun i => match i with | 0 => false | i + 1 => W i, fun i => match i with | 0 => .c .any | i + 1 => V i, fun i => match i with | 0 => [] | i + 1 => N i, rfl, fun i o' h => ?_, fun i o' h hw' => ?_, fun i o' h => ?_, h4⟩
      · cases i with
        | zero => simp at h; subst h; exact hw
        | succ i => exact h1 i o' (by simpa using h)
      · cases i with
        | zero => cases hw'
        | succ i => exact h2 i o' (by simpa using h) hw'
      · cases i with
        | zero => simp at h; subst h; simp only; rw [h0, hn]; rfl
        | succ i => exact h3 i o' (by simpa using h)
theorem c_draw {id : Nat} {l hl tl : List Oper} {s : St} {Φ : Ex → St → Prop} (n : Nat) (hm : P.follows .mixedOrders = true) (hok : Region.okAll l.toArray n s.n = true) (h1 : l.take n = hl) (h2 : l.drop n = tl) (hlen : hl.length = n) (h : HO P l.toArray hl s fun s' => WO P k l.toArray tl s' (Φ .normal)) :
    WC P k (.region id l.toArray true) s Φ := by
  obtain ⟨A, W, V, N', h0, g1, g2, g3, g4⟩ := HW.line (s0 := s) h.h rfl
  obtain ⟨r, h3, h4⟩ := g4.h
  have conv : ∀ (i : Nat) (o : Oper), i < n → l.toArray[i]? = some o → hl[i]? = some o := fun i o hi ho => by
    rw [← h1, List.getElem?_take, if_pos hi]; simpa using ho
  exact ⟨⟨.normal, r, Ev.draw n A W V N' hm hok h0 (fun i o hi ho => g1 i o (conv i o hi ho)) (fun i o hi ho => g2 i o (conv i o hi ho)) (fun i o hi ho => g3 i o (conv i o hi ho)) (by rw [hlen] at h3; simpa [h2] using h3), h4⟩⟩
def lateL : List Oper → Nat → Nat → List Oper
  | [], _, _ => []
  | o :: l, 0, i0 => { o with after := o.after.push ⟨i0, .data⟩ } :: l
  | o :: l, n + 1, i0 => o :: lateL l n i0
theorem lateL_get : ∀ (l : List Oper) (n i0 j : Nat), (lateL l n i0)[j]? = if j = n then l[j]?.map fun o => { o with after := o.after.push ⟨i0, .data⟩ } else l[j]?
  | [], n, i0, j => by simp [lateL]
  | o :: l, 0, i0, 0 => by simp [lateL]
  | o :: l, 0, i0, j + 1 => by simp [lateL]
  | o :: l, n + 1, i0, 0 => by simp [lateL]
  | o :: l, n + 1, i0, j + 1 => by simp [lateL, lateL_get l n i0 j]
theorem lateL_ops (l : List Oper) (n i0 : Nat) : lateOps l.toArray n i0 = (lateL l n i0).toArray := by
  apply Array.ext_getElem?
  intro j
  have e1 : (lateL l n i0).toArray[j]? = (lateL l n i0)[j]? := List.getElem?_toArray
  have e2 : l.toArray[j]? = l[j]? := List.getElem?_toArray
  rw [e1, lateL_get]
  by_cases h : j = n
  · subst h
    rw [if_pos rfl]
    cases ho : l[j]? with
    | none => unfold lateOps; rw [e2, ho]; simp [ho]
    | some o => rw [late_at (by rw [e2]; exact ho)]; rfl
  · rw [if_neg h, late_ne h, e2]
theorem c_late {id : Nat} {l hl tl : List Oper} {s : St} {Φ : Ex → St → Prop} {d : Option Tmp} {op : Op} {ty : TypeId} {pos : String} {af : Array Edge} {g : Option (Nat × Bool)} (n i0 : Nat) (hm : P.follows .mixedOrders = true) (hc : lateCheck l.toArray n i0 = true) (hok : Region.okAll (lateL l n i0).toArray n s.n = true) (h1 : l.take n = hl) (h2 : l.drop n = ⟨d, op, ty, pos, af, g⟩ :: tl) (hlen : hl.length = n)
    (h : HO P (lateL l n i0).toArray hl s fun s' => WO P k (lateL l n i0).toArray (⟨d, op, ty, pos, af.push ⟨i0, .data⟩, g⟩ :: tl) s' (Φ .normal)) : WC P k (.region id l.toArray true) s Φ := by
  obtain ⟨A, W, V, N', h0, g1, g2, g3, g4⟩ := HW.line (s0 := s) h.h rfl
  obtain ⟨r, h3, h4⟩ := g4.h
  have ne : ∀ i, i < n → (lateL l n i0)[i]? = l[i]? := fun i hi => by rw [lateL_get, if_neg (by omega)]
  have conv : ∀ (i : Nat) (o : Oper), i < n → (lateOps l.toArray n i0)[i]? = some o → hl[i]? = some o := fun i o hi ho => by
    rw [lateL_ops, show (lateL l n i0).toArray[i]? = (lateL l n i0)[i]? from List.getElem?_toArray, ne i hi] at ho
    rw [← h1, List.getElem?_take, if_pos hi]; exact ho
  have hd : (lateL l n i0).drop n = ⟨d, op, ty, pos, af.push ⟨i0, .data⟩, g⟩ :: tl := by
    apply List.ext_getElem?
    intro j
    rw [List.getElem?_drop, lateL_get]
    have e := congrArg (fun l => l[j]?) h2
    simp only [List.getElem?_drop] at e
    cases j with
    | zero => rw [if_pos (by omega), e]; rfl
    | succ j => rw [if_neg (by omega), e]; rfl
  refine ⟨⟨.normal, r, Ev.late n i0 A W V N' hm hc (by rw [lateL_ops]; exact hok) h0 (fun i o hi ho => ?_) (fun i o hi ho => g2 i o (conv i o hi ho)) (fun i o hi ho => g3 i o (conv i o hi ho)) ?_, h4⟩⟩
  · rw [lateL_ops]; exact g1 i o (conv i o hi ho)
  · rw [hlen] at h3
    rw [lateL_ops]
    show Ev P (.ops k (lateL l n i0).toArray ((lateL l n i0).drop n) (A n)) (.out .normal r)
    rw [hd]; exact h3
def SW (P : Program) (D : Nat) (K : St → Prop) : List Oper → St → Prop
  | [], s => K s
  | o :: l, s => (isStore o = true ∧ ∃ v m', evMem P (opnd s.t) s.m o.op = some (v, m') ∧ m'.length = s.m.length ∧ SW P D K l ⟨s.n, s.t, m'⟩) ∨
      (isStore o = false ∧ ∃ v, evVal P (opnd s.t) (deadMem D) o.op = some v ∧ SW P D K l ⟨s.n, putT s.t o.dst v, s.m⟩)
structure DO (P : Program) (D : Nat) (l : List Oper) (s : St) (K : St → Prop) : Prop where
  h : SW P D K l s
theorem SW.line {s0 : St} {D : Nat} : ∀ {l : List Oper} {s : St}, SW P D K l s → s.n = s0.n → ∃ (A : Nat → St) (V : Nat → AV), A 0 = s ∧
    (∀ i o, l[i]? = some o → isStore o = false → evVal P (opnd (A i).t) (deadMem D) o.op = some (V i) ∧ A (i + 1) = ⟨s0.n, putT (A i).t o.dst (V i), (A i).m⟩) ∧
    (∀ i o, l[i]? = some o → isStore o = true → ∃ v m', evMem P (opnd (A i).t) (A i).m o.op = some (v, m') ∧ m'.length = (A i).m.length ∧ A (i + 1) = ⟨s0.n, (A i).t, m'⟩) ∧ K (A l.length)
  | [], s, h, _ => ⟨fun _ => s, fun _ => .c .any, rfl, fun i o h => by simp at h, fun i o h => by simp at h, h⟩
  | o :: l, s, h, hn => by
    rcases h with ⟨hs, v, m', hv, hl, hr⟩ | ⟨hs, v, hv, hr⟩
    · obtain ⟨A, V, h0, h1, h2, h3⟩ := SW.line (s := ⟨s.n, s.t, m'⟩) hr hn
      refine ⟨fun i => match i with | 0 => s | i + 1 => A i, fun i => match i with | 0 => .c .any | i + 1 => V i, rfl, fun i o' h hs' => ?_, fun i o' h hs' => ?_, h3⟩
      · cases i with
        | zero => simp at h; subst h; rw [hs] at hs'; cases hs'
        | succ i => exact h1 i o' (by simpa using h) hs'
      · cases i with
        | zero => simp at h; subst h; exact ⟨v, m', hv, hl, by simp only; rw [h0, hn]⟩
        | succ i => exact h2 i o' (by simpa using h) hs'
    · obtain ⟨A, V, h0, h1, h2, h3⟩ := SW.line (s := ⟨s.n, putT s.t o.dst v, s.m⟩) hr hn
      refine ⟨fun i => match i with | 0 => s | i + 1 => A i, fun i => match i with | 0 => v | i + 1 => V i, rfl, fun i o' h hs' => ?_, fun i o' h hs' => ?_, h3⟩
      · cases i with
        | zero => simp at h; subst h; exact ⟨hv, by simp only; rw [h0, hn]⟩
        | succ i => exact h1 i o' (by simpa using h) hs'
      · cases i with
        | zero => simp at h; subst h; rw [hs] at hs'; cases hs'
        | succ i => exact h2 i o' (by simpa using h) hs'
def kill (S : List Nat) : Nat → Mem → Mem
  | _, [] => []
  | i, r :: m => (if S.contains i then .dead else r) :: kill S (i + 1) m
theorem kill_length (S : List Nat) : ∀ (m : Mem) (i : Nat), (kill S i m).length = m.length
  | [], _ => rfl
  | _ :: m, i => by rw [kill, List.length_cons, List.length_cons, kill_length S m]
theorem kill_get (S : List Nat) : ∀ (m : Mem) (i b : Nat) (own : Bool) (x : Arr), (kill S i m)[b]? = some (.row own x) → S.contains (i + b) = false ∧ m[b]? = some (.row own x)
  | [], _, b, own, x, h => by simp [kill] at h
  | r :: m, i, 0, own, x, h => by
    simp only [kill, List.getElem?_cons_zero, Option.some.injEq] at h
    split at h
    · cases h
    · rename_i hc
      exact ⟨by rw [Nat.add_zero]; exact Bool.eq_false_iff.2 hc, by rw [h]; rfl⟩
  | r :: m, i, b + 1, own, x, h => by
    rw [kill, List.getElem?_cons_succ] at h
    have := kill_get S m (i + 1) b own x h
    rw [show i + (b + 1) = i + 1 + b by omega, List.getElem?_cons_succ]
    exact this
def AgreeS (S : List Nat) (m0 m : Mem) : Prop := m.length = m0.length ∧ ∀ b, S.contains b = false → m[b]? = m0[b]?
theorem AgreeS.R {S : List Nat} {m0 m : Mem} (h : AgreeS S m0 m) {ι : Emb} {w : World} (hR : R ι m w) : R ι (kill S 0 m0) w := by
  have get : ∀ {b : Nat} {own : Bool} {x : Arr}, (kill S 0 m0)[b]? = some (.row own x) → m[b]? = some (.row own x) := fun {b own x} hb => by
    obtain ⟨h1, h2⟩ := kill_get S m0 0 b own x hb
    rw [Nat.zero_add] at h1
    rw [h.2 b h1]; exact h2
  exact ⟨fun b hb => hR.dom b (by rw [h.1]; rwa [kill_length] at hb), fun b l own x hb hm => hR.rows b l own x hb (get hm), fun b b' l l' own own' x x' hne hb hb' hm hm' ho => hR.inj b b' l l' own own' x x' hne hb hb' (get hm) (get hm') ho⟩
def SX (P : Program) (S : List Nat) (M0 : Mem) (ops : Array Oper) (K : St → Prop) : Nat → List Oper → St → Prop
  | _, [], s => K s
  | i, o :: l, s => (isStore o = true ∧ ∃ v m', evMem P (opnd s.t) s.m o.op = some (v, m') ∧ m'.length = s.m.length ∧ (∀ b, S.contains b = false → m'[b]? = s.m[b]?) ∧ SX P S M0 ops K (i + 1) l ⟨s.n, s.t, m'⟩) ∨
      (isStore o = false ∧ ∃ v, (evVal P (opnd s.t) (kill S 0 M0) o.op = some v ∨ (early ops i = true ∧ Ev P (.op o.op (opnd s.t) M0) (.val v M0))) ∧ SX P S M0 ops K (i + 1) l ⟨s.n, putT s.t o.dst v, s.m⟩)
structure XO (P : Program) (S : List Nat) (M0 : Mem) (ops : Array Oper) (i : Nat) (l : List Oper) (s : St) (K : St → Prop) : Prop where
  h : SX P S M0 ops K i l s
section
variable {S : List Nat} {i : Nat} {M0 : Mem} {ops : Array Oper}
theorem x_nil {s : St} (h : K s) : XO P S M0 ops i [] s K := ⟨h⟩
theorem x_val {op : Op} {v : AV} (h : evVal P (opnd T) (kill S 0 M0) op = some v) (hs : isStore ⟨some d, op, ty, pos, af, none⟩ = false) (hk : XO P S M0 ops (i + 1) l ⟨N, upd T d v, M⟩ K) : XO P S M0 ops i (⟨some d, op, ty, pos, af, none⟩ :: l) ⟨N, T, M⟩ K :=
  ⟨.inr ⟨hs, v, .inl h, hk.h⟩⟩
theorem x_early {op : Op} {v : AV} (he : early ops i = true) (h : evVal P (opnd T) M0 op = some v) (hs : isStore ⟨some d, op, ty, pos, af, none⟩ = false) (hk : XO P S M0 ops (i + 1) l ⟨N, upd T d v, M⟩ K) : XO P S M0 ops i (⟨some d, op, ty, pos, af, none⟩ :: l) ⟨N, T, M⟩ K :=
  ⟨.inr ⟨hs, v, .inr ⟨he, .val h⟩, hk.h⟩⟩
theorem x_call {op : Op} {v : AV} (he : early ops i = true) (h : Ev P (.op op (opnd T) M0) (.val v (M0 ++ []))) (hs : isStore ⟨some d, op, ty, pos, af, none⟩ = false) (hk : XO P S M0 ops (i + 1) l ⟨N, upd T d v, M⟩ K) : XO P S M0 ops i (⟨some d, op, ty, pos, af, none⟩ :: l) ⟨N, T, M⟩ K :=
  ⟨.inr ⟨hs, v, .inr ⟨he, by rwa [List.append_nil] at h⟩, hk.h⟩⟩
theorem x_agree {b : Nat} {r : Row} (hb : S.contains b = true) (hM : M.set b r = M') : ∀ c, S.contains c = false → M'[c]? = M[c]? := fun c hc => by
  have hne : b ≠ c := fun e => by rw [e, hc] at hb; cases hb
  rw [← hM, List.getElem?_set_ne hne]
theorem x_store {t : TypeId} {a v : Operand} {b o : Nat} {x z : Arr} {c : Cell} (hb : S.contains b = true) (ha : opnd T a = .c (.ptr b o)) (hv : opnd T v = .c c) (hm : M[b]? = some (.row true x)) (h1 : c.one = true) (hs : szT P t = some 1) (ho : o < x.size) (hz : x.set o c = some z) (hM : M.set b (.row true z) = M')
    (hk : XO P S M0 ops (i + 1) l ⟨N, T, M'⟩ K) : XO P S M0 ops i (⟨none, .store t a v, ty, pos, af, none⟩ :: l) ⟨N, T, M⟩ K :=
  ⟨.inl ⟨rfl, .c .any, M', by simp [evMem, evStore, ha, hv, hm, h1, hs, ho, hz, hM], by rw [← hM]; simp, x_agree hb hM, hk.h⟩⟩
theorem x_store64 {t : TypeId} {a v : Operand} {b o : Nat} {x : List (BitVec 64)} {w : BitVec 64} (hb : S.contains b = true) (ha : opnd T a = .c (.ptr b o)) (hv : opnd T v = .c (.val (U64 w))) (hm : M[b]? = some (.row true (.a64 x))) (hs : szT P t = some 1) (ho : o < x.length) (hM : M.set b (.row true (.a64 (put x o w))) = M')
    (hk : XO P S M0 ops (i + 1) l ⟨N, T, M'⟩ K) : XO P S M0 ops i (⟨none, .store t a v, ty, pos, af, none⟩ :: l) ⟨N, T, M⟩ K := x_store hb ha hv hm rfl hs ho (set64 x o w) hM hk
theorem x_storeR {t : TypeId} {a v : Operand} {b : Nat} {x y : Arr} (hb : S.contains b = true) (ha : opnd T a = .c (.ptr b 0)) (hv : opnd T v = .agg y) (hm : M[b]? = some (.row true x)) (h1 : y.one = true) {n : Nat} (hs : szT P t = some n) (hy : y.size = n) (hx : x.size = n) (hM : M.set b (.row true y) = M')
    (hk : XO P S M0 ops (i + 1) l ⟨N, T, M'⟩ K) : XO P S M0 ops i (⟨none, .store t a v, ty, pos, af, none⟩ :: l) ⟨N, T, M⟩ K :=
  ⟨.inl ⟨rfl, .c .any, M', by simp [evMem, evStore, ha, hv, hm, h1, hs, hx, hy, hM], by rw [← hM]; simp, x_agree hb hM, hk.h⟩⟩
theorem SX.line {s0 : St} : ∀ {l : List Oper} {i : Nat} {s : St}, SX P S M0 ops K i l s → s.n = s0.n → AgreeS S M0 s.m → ∃ (A : Nat → St) (V : Nat → AV) (E : Nat → Bool), A 0 = s ∧ (∀ c, c ≤ l.length → AgreeS S M0 (A c).m) ∧
    (∀ j o, l[j]? = some o → isStore o = false → E j = false → evVal P (opnd (A j).t) (kill S 0 M0) o.op = some (V j)) ∧
    (∀ j o, l[j]? = some o → isStore o = false → E j = true → Ev P (.op o.op (opnd (A j).t) M0) (.val (V j) M0)) ∧
    (∀ j o, l[j]? = some o → isStore o = false → (E j = true → early ops (i + j) = true) ∧ A (j + 1) = ⟨s0.n, putT (A j).t o.dst (V j), (A j).m⟩) ∧
    (∀ j o, l[j]? = some o → isStore o = true → ∃ v m', evMem P (opnd (A j).t) (A j).m o.op = some (v, m') ∧ m'.length = (A j).m.length ∧ A (j + 1) = ⟨s0.n, (A j).t, m'⟩) ∧ K (A l.length)
  | [], i, s, h, _, ha => ⟨fun _ => s, fun _ => .c .any, fun _ => false, rfl, fun _ _ => ha, fun j o h => by simp at h, fun j o h => by simp at h, fun j o h => by simp at h, fun j o h => by simp at h, h⟩
  | o :: l, i, s, h, hn, ha => by
    rcases h with ⟨hs, v, m', hv, hl, hag, hr⟩ | ⟨hs, v, hv, hr⟩
    · obtain ⟨A, V, E, h0, hc, h1, h1', h1'', h2, h3⟩ := SX.line (s := ⟨s.n, s.t, m'⟩) hr hn ⟨by rw [hl]; exact ha.1, fun b hb => by rw [hag b hb]; exact ha.2 b hb⟩
      refine ⟨fun i => match i with | 0 => s | i + 1 => A i, fun i => match i with | 0 => .c .any | i + 1 => V i, fun i => match i with | 0 => false | i + 1 => E i, rfl, fun c hcl => ?_, fun j o' h hs' => ?_, fun j o' h hs' => ?_, fun j o' h hs' => ?_, fun j o' h hs' => ?_, h3⟩
      · cases c with
        | zero => exact ha
        | succ c => exact hc c (by simpa using hcl)
      · cases j with
        | zero => simp at h; subst h; rw [hs] at hs'; cases hs'
        | succ j => exact h1 j o' (by simpa using h) hs'
      · cases j with
        | zero => simp at h; subst h; rw [hs] at hs'; cases hs'
        | succ j => exact h1' j o' (by simpa using h) hs'
      · cases j with
        | zero => simp at h; subst h; rw [hs] at hs'; cases hs'
        | succ j => rw [show i + (j + 1) = i + 1 + j by omega]; exact h1'' j o' (by simpa using h) hs'
      · cases j with
        | zero => simp at h; subst h; exact ⟨v, m', hv, hl, by simp only; rw [h0, hn]⟩
        | succ j => exact h2 j o' (by simpa using h) hs'
    · obtain ⟨A, V, E, h0, hc, h1, h1', h1'', h2, h3⟩ := SX.line (s := ⟨s.n, putT s.t o.dst v, s.m⟩) hr hn ha
      have hE : ∃ e : Bool, (e = false → evVal P (opnd s.t) (kill S 0 M0) o.op = some v) ∧ (e = true → early ops i = true ∧ Ev P (.op o.op (opnd s.t) M0) (.val v M0)) := by
        rcases hv with hv | hv
        · exact ⟨false, fun _ => hv, (fun h => by cases h)⟩
        · exact ⟨true, (fun h => by cases h), fun _ => hv⟩
      obtain ⟨e, he1, he2⟩ := hE
      refine ⟨fun i => match i with | 0 => s | i + 1 => A i, fun i => match i with | 0 => v | i + 1 => V i, fun i => match i with | 0 => e | i + 1 => E i, rfl, fun c hcl => ?_, fun j o' h hs' => ?_, fun j o' h hs' => ?_, fun j o' h hs' => ?_, fun j o' h hs' => ?_, h3⟩
      · cases c with
        | zero => exact ha
        | succ c => exact hc c (by simpa using hcl)
      · cases j with
        | zero => simp at h; subst h; exact he1
        | succ j => exact h1 j o' (by simpa using h) hs'
      · cases j with
        | zero => simp at h; subst h; exact fun h => (he2 h).2
        | succ j => exact h1' j o' (by simpa using h) hs'
      · cases j with
        | zero => simp at h; subst h; exact ⟨fun h => (he2 h).1, by simp only; rw [h0, hn]⟩
        | succ j => rw [show i + (j + 1) = i + 1 + j by omega]; exact h1'' j o' (by simpa using h) hs'
      · cases j with
        | zero => simp at h; subst h; rw [hs] at hs'; cases hs'
        | succ j => exact h2 j o' (by simpa using h) hs'
end
theorem c_stores2 {id : Nat} {l : List Oper} {s : St} {Φ : Ex → St → Prop} (S : List Nat) (hm : P.follows .mixedOrders = true) (hok : Region.okStores l.toArray s.n = true) (h : XO P S s.m l.toArray 0 l s (Φ .normal)) : WC P k (.region id l.toArray true) s Φ := by
  obtain ⟨A, V, E, h0, hc, h1, h1', h1'', h2, h3⟩ := SX.line (s0 := s) h.h rfl ⟨rfl, fun _ _ => rfl⟩
  exact ⟨⟨.normal, _, Ev.stores2 A V E hm hok h0 (fun i o ho hs he => ⟨_, fun c hcl ι w hR => (hc c (by simpa using hcl)).R hR, h1 i o (by simpa using ho) hs he⟩) (fun i o ho => h1' i o (by simpa using ho)) (fun i o ho => by have := h1'' i o (by simpa using ho); rw [Nat.zero_add] at this; exact this) (fun i o ho => h2 i o (by simpa using ho)), by simpa using h3⟩⟩
theorem v_move {x : Operand} {v : AV} (h : opnd T x = v) : evVal P (opnd T) M (.move x) = some v := by rw [← h]; rfl
theorem v_moveC {x : Operand} {v : Cell} (h : opnd T x = .c v) : evVal P (opnd T) M (.move x) = some ((.c v)) :=
  v_move h
theorem v_moveA {x : Operand} {v : Arr} (h : opnd T x = .agg v) : evVal P (opnd T) M (.move x) = some ((.agg v)) :=
  v_move h
theorem v_moveT {x : Operand} {v : List AV} (h : opnd T x = .tup v) : evVal P (opnd T) M (.move x) = some ((.tup v)) :=
  v_move h
theorem v_assign {x : Operand} {v : AV} (h : opnd T x = v) : evVal P (opnd T) M (.assign x) = some (v) :=
  (by rw [← h]; rfl)
theorem v_assignC {x : Operand} {v : Cell} (h : opnd T x = .c v) : evVal P (opnd T) M (.assign x) = some ((.c v)) :=
  v_assign h
theorem v_assignA {x : Operand} {v : Arr} (h : opnd T x = .agg v) : evVal P (opnd T) M (.assign x) = some ((.agg v)) :=
  v_assign h
theorem v_assignT {x : Operand} {v : List AV} (h : opnd T x = .tup v) : evVal P (opnd T) M (.assign x) = some ((.tup v)) :=
  v_assign h
theorem bin_of {op : BinOp} {t : TypeId} {x y : Operand} {a b c : Value} (h : binOp op t a b = (pure c : Sem Value)) (hg : eqGuard op t x y a b = (pure () : Sem Unit)) : bin op t x y a b = (pure c : Sem Value) := by
  unfold bin; rw [hg, h]; rfl
theorem evBin_val {op : BinOp} {t : TypeId} {x y : Operand} {a b c : Value} (hb : ∀ p, a ≠ .bool p) (h : bin op t x y a b = (pure c : Sem Value)) : evBin P op t x y (.c (.val a)) (.c (.val b)) = some (.c (.val c)) := by
  unfold evBin
  simp only
  split
  · rename_i p q; exact absurd rfl (hb p)
  · rename_i p q; exact absurd rfl (hb p)
  · rw [h]; rfl
theorem v_bin {op : BinOp} {t t' : TypeId} {x y : Operand} {ka kb : IntKind} {a b : Int} {c : Value} (hx : opnd T x = .c (.val (.int ka a))) (hy : opnd T y = .c (.val (.int kb b))) (h : binOp op t (.int ka a) (.int kb b) = (pure c : Sem Value)) : evVal P (opnd T) M (.binOp op t x y t') = some ((.c (.val c))) :=
  (by
    show evBin P op t x y (opnd T x) (opnd T y) = _
    rw [hx, hy]
    refine evBin_val (fun p h => by cases h) (bin_of h ?_)
    unfold eqGuard
    cases op <;> rfl)
theorem v_idxA {t n el : Nat} {x i : Operand} {b o sz : Nat} {kd : IntKind} {j : Nat} (hx : opnd T x = .c (.ptr b o)) (hi : opnd T i = .c (.val (.int kd (j : Int)))) (hu : P.underlying t = some (.array n el)) (hs : szT P el = some sz) (h0 : j < n) : evVal P (opnd T) M (.indexAddr t x i) = some ((.c (.ptr b (o + j * sz)))) :=
  (by
    show evIndex P t (opnd T x) (opnd T i) = _
    rw [hx, hi]
    have h1 : (0 : Int) ≤ (j : Int) ∧ (j : Int) < (n : Int) := by omega
    simp only [evIndex, hu, intOf?, hs, h1, and_self, if_true, Int.toNat_natCast])
theorem v_idxA1 {t n el : Nat} {x i : Operand} {b : Nat} {kd : IntKind} {j : Nat} (hx : opnd T x = .c (.ptr b 0)) (hi : opnd T i = .c (.val (.int kd (j : Int)))) (hu : P.underlying t = some (.array n el)) (hs : szT P el = some 1) (h0 : j < n) : evVal P (opnd T) M (.indexAddr t x i) = some ((.c (.ptr b j))) :=
  (v_idxA hx hi hu hs h0).trans (by rw [Nat.zero_add, Nat.mul_one])
theorem v_idxS {t el : Nat} {x i : Operand} {b o len cap sz : Nat} {kd : IntKind} {j : Nat} (hx : opnd T x = .c (.sl b o len cap sz)) (hi : opnd T i = .c (.val (.int kd (j : Int)))) (hu : P.underlying t = some (.slice el)) (hs : szT P el = some sz) (h0 : j < len) : evVal P (opnd T) M (.indexAddr t x i) = some ((.c (.ptr b (o + j * sz)))) :=
  (by
    show evIndex P t (opnd T x) (opnd T i) = _
    rw [hx, hi]
    have h1 : (0 : Int) ≤ (j : Int) ∧ (j : Int) < (len : Int) := by omega
    simp only [evIndex, hu, intOf?, hs, h1, and_self, if_true, Int.toNat_natCast])
theorem v_idxS1 {t el : Nat} {x i : Operand} {b len cap : Nat} {kd : IntKind} {j : Nat} (hx : opnd T x = .c (.sl b 0 len cap 1)) (hi : opnd T i = .c (.val (.int kd (j : Int)))) (hu : P.underlying t = some (.slice el)) (hs : szT P el = some 1) (h0 : j < len) : evVal P (opnd T) M (.indexAddr t x i) = some ((.c (.ptr b j))) :=
  (v_idxS hx hi hu hs h0).trans (by rw [Nat.zero_add, Nat.mul_one])
theorem v_idxSo {t el : Nat} {x i : Operand} {b o len cap : Nat} {kd : IntKind} {j : Nat} (hx : opnd T x = .c (.sl b o len cap 1)) (hi : opnd T i = .c (.val (.int kd (j : Int)))) (hu : P.underlying t = some (.slice el)) (hs : szT P el = some 1) (h0 : j < len) : evVal P (opnd T) M (.indexAddr t x i) = some ((.c (.ptr b (o + j)))) :=
  (v_idxS hx hi hu hs h0).trans (by rw [Nat.mul_one])
theorem v_load {t : TypeId} {a : Operand} {b o : Nat} {own : Bool} {x : Arr} {c : Cell} (ha : opnd T a = .c (.ptr b o)) (hm : M[b]? = some (.row own x)) (hr : isRowT P t = some false) (ho : o < x.size) (hg : x.get o = c) : evVal P (opnd T) M (.load t a) = some ((.c c)) :=
  (by
    simp only [evVal, ha, hm, partA, hr, ho, if_true, hg])
theorem v_load8 {t : TypeId} {a : Operand} {b o : Nat} {own : Bool} {x : List (BitVec 8)} (ha : opnd T a = .c (.ptr b o)) (hm : M[b]? = some (.row own (.a8 x))) (hr : isRowT P t = some false) (ho : o < x.length) : evVal P (opnd T) M (.load t a) = some ((.c (.val (U8 (nth x o))))) :=
  v_load ha hm hr ho rfl
theorem v_load64 {t : TypeId} {a : Operand} {b o : Nat} {own : Bool} {x : List (BitVec 64)} (ha : opnd T a = .c (.ptr b o)) (hm : M[b]? = some (.row own (.a64 x))) (hr : isRowT P t = some false) (ho : o < x.length) : evVal P (opnd T) M (.load t a) = some ((.c (.val (U64 (nth x o))))) :=
  v_load ha hm hr ho rfl
theorem v_loadR {t : TypeId} {a : Operand} {b n : Nat} {own : Bool} {x : Arr} (ha : opnd T a = .c (.ptr b 0)) (hm : M[b]? = some (.row own x)) (hr : isRowT P t = some true) (hs : szT P t = some n) (hx : x.size = n) (h0 : 0 < n) : evVal P (opnd T) M (.load t a) = some ((.agg x)) :=
  (by
    simp [evVal, ha, hm, partA, hr, hs, hx, h0, winA])
theorem s_store {t : TypeId} {a v : Operand} {b o : Nat} {x z : Arr} {c : Cell} (ha : opnd T a = .c (.ptr b o)) (hv : opnd T v = .c c) (hm : M[b]? = some (.row true x)) (h1 : c.one = true) (hs : szT P t = some 1) (ho : o < x.size) (hz : x.set o c = some z) (hM : M.set b (.row true z) = M')
    (hk : WO P k ops l ⟨N, T, M'⟩ K) : WO P k ops (⟨none, .store t a v, ty, pos, af, none⟩ :: l) ⟨N, T, M⟩ K :=
  s_mem0 (v := .c .any) (by
    simp [evMem, evStore, ha, hv, hm, h1, hs, ho, hz, hM]) hk
theorem s_storeR {t : TypeId} {a v : Operand} {b : Nat} {x y : Arr} (ha : opnd T a = .c (.ptr b 0)) (hv : opnd T v = .agg y) (hm : M[b]? = some (.row true x)) (h1 : y.one = true) {n : Nat} (hs : szT P t = some n) (hy : y.size = n) (hx : x.size = n) (hM : M.set b (.row true y) = M')
    (hk : WO P k ops l ⟨N, T, M'⟩ K) : WO P k ops (⟨none, .store t a v, ty, pos, af, none⟩ :: l) ⟨N, T, M⟩ K :=
  s_mem0 (v := .c .any) (by
    simp [evMem, evStore, ha, hv, hm, h1, hs, hx, hy, hM]) hk
theorem s_store8 {t : TypeId} {a v : Operand} {b o : Nat} {x : List (BitVec 8)} {w : BitVec 8} (ha : opnd T a = .c (.ptr b o)) (hv : opnd T v = .c (.val (U8 w))) (hm : M[b]? = some (.row true (.a8 x))) (hs : szT P t = some 1) (ho : o < x.length) (hM : M.set b (.row true (.a8 (put x o w))) = M')
    (hk : WO P k ops l ⟨N, T, M'⟩ K) : WO P k ops (⟨none, .store t a v, ty, pos, af, none⟩ :: l) ⟨N, T, M⟩ K := s_store ha hv hm rfl hs ho (set8 x o w) hM hk
theorem s_store64 {t : TypeId} {a v : Operand} {b o : Nat} {x : List (BitVec 64)} {w : BitVec 64} (ha : opnd T a = .c (.ptr b o)) (hv : opnd T v = .c (.val (U64 w))) (hm : M[b]? = some (.row true (.a64 x))) (hs : szT P t = some 1) (ho : o < x.length) (hM : M.set b (.row true (.a64 (put x o w))) = M')
    (hk : WO P k ops l ⟨N, T, M'⟩ K) : WO P k ops (⟨none, .store t a v, ty, pos, af, none⟩ :: l) ⟨N, T, M⟩ K := s_store ha hv hm rfl hs ho (set64 x o w) hM hk
theorem m_alloc {t : TypeId} {x : Arr} {n : Nat} (hz : ∀ m, evAlloc P m t = some (.c (.ptr m.length 0), m ++ [.row true x])) (hn : M.length = n) : evMem P (opnd T) M (.alloc t) = some (.c (.ptr n 0), M ++ [.row true x]) := by subst hn; exact hz M
theorem m_box {t : TypeId} {v : Operand} {x : Arr} {n : Nat} (hv : rowOfV (opnd T v) = some x) (hn : M.length = n) : evMem P (opnd T) M (.box t v) = some (.c (.ptr n 0), M ++ [.row true x]) := by
  show evBox M (opnd T v) = _
  subst hn
  simp only [evBox, hv, Option.map_some]
theorem v_conv {s t : TypeId} {x : Operand} {k1 k2 : IntKind} {a b : Int} {ds : TypeDesc} (hx : opnd T x = .c (.val (.int k1 a))) (hs : P.underlying s = some ds) (ht : P.underlying t = some (.int k2)) (h : k2.wrap a = b) : evVal P (opnd T) M (.convert s t x) = some (.c (.val (.int k2 b))) := by
  show evConv P s t (opnd T x) = _
  rw [hx]
  simp only [evConv, hs, ht, h]
theorem v_extract {x : Operand} {i : Nat} {vs : List AV} {v : AV} (hx : opnd T x = .tup vs) (hi : vs[i]? = some v) : evVal P (opnd T) M (.extract x i) = some (v) :=
  (by
    simp only [evVal, hx, hi])
end
section
variable {P : Program} {k : Nat} {s s1 : St} {a b : Code} {Φ : Ex → St → Prop}
theorem c_region {id : Nat} {l : List Oper} (h : WO P k l.toArray l s (Φ .normal)) : WC P k (.region id l.toArray false) s Φ := let ⟨r, h1, h2⟩ := h.h; ⟨⟨.normal, r, Ev.region h1, h2⟩⟩
def seqK (P : Program) (k : Nat) (b : Code) (Φ : Ex → St → Prop) : Ex → St → Prop
  | .normal, s => WC P k b s Φ
  | e, s => Φ e s
theorem c_seq (h : WC P k a s (seqK P k b Φ)) : WC P k (.seq a b) s Φ := by
  obtain ⟨e, r, h1, h2⟩ := h.h
  cases e with
  | normal => obtain ⟨e', r', h3, h4⟩ := h2.h; exact ⟨⟨e', r', Ev.seq h1 h3, h4⟩⟩
  | exit id => exact ⟨⟨_, r, Ev.seqx h1 (by simp), h2⟩⟩
  | ret => exact ⟨⟨_, r, Ev.seqx h1 (by simp), h2⟩⟩
theorem c_skip (h : Φ .normal s) : WC P k .skip s Φ := ⟨⟨_, _, Ev.cskip, h⟩⟩
theorem c_label {l : Nat} (h : Φ .normal s) : WC P k (.label l) s Φ := ⟨⟨_, _, Ev.label, h⟩⟩
theorem c_exit {id : Nat} (h : Φ (.exit id) s) : WC P k (.exit id) s Φ := ⟨⟨_, _, Ev.exit, h⟩⟩
theorem c_ret (h : Φ .ret s) : WC P k .ret s Φ := ⟨⟨_, _, Ev.ret, h⟩⟩
theorem c_scope (h : WC P k a s Φ) : WC P k (.scope a) s Φ := let ⟨e, r, h1, h2⟩ := h.h; ⟨⟨e, r, Ev.scope h1, h2⟩⟩
def blockK (id : Nat) (Φ : Ex → St → Prop) : Ex → St → Prop
  | .exit i, s => if i = id then Φ .normal s else Φ (.exit i) s
  | e, s => Φ e s
theorem c_block {id : Nat} (h : WC P k a s (blockK id Φ)) : WC P k (.block id a) s Φ := by
  obtain ⟨e, r, h1, h2⟩ := h.h
  refine ⟨⟨_, r, Ev.block h1, ?_⟩⟩
  cases e with
  | normal => exact h2
  | ret => exact h2
  | exit i =>
    simp only [blockK, Ex.block] at h2 ⊢
    split
    · rename_i e; rw [if_pos e] at h2; exact h2
    · rename_i e; rw [if_neg e] at h2; exact h2
theorem c_condT {c : Operand} {t : Bool} (hc : opnd s.t c = .c (.val (.bool t))) (ht : t = true) (h : WC P k a s Φ) : WC P k (.cond c a b) s Φ := let ⟨e, r, h1, h2⟩ := h.h; ⟨⟨e, r, Ev.cond true (by rw [hc, ht]) h1, h2⟩⟩
theorem c_condF {c : Operand} {t : Bool} (hc : opnd s.t c = .c (.val (.bool t))) (ht : t = false) (h : WC P k b s Φ) : WC P k (.cond c a b) s Φ := let ⟨e, r, h1, h2⟩ := h.h; ⟨⟨e, r, Ev.cond false (by rw [hc, ht]) h1, h2⟩⟩
theorem c_clean (keep : List Nat) (hc : clean k keep s = some s1) (h : WC P k a s1 Φ) : WC P k a s Φ := let ⟨e, r, h1, h2⟩ := h.h; ⟨⟨e, r, Ev.clean keep hc h1, h2⟩⟩
def roundK (k : Nat) (keep : List Nat) {σ : Type} (I : σ → St) (y : σ) : Ex → St → Prop
  | .normal, s => ∃ x, clean k keep s = some (I x) ∧ x = y
  | _, _ => False
def endK (Φ : Ex → St → Prop) : Ex → St → Prop
  | .normal, _ => False
  | e, s => Φ e s
theorem c_loop (keep : List Nat) {σ : Type} (I : σ → St) (f : Nat → σ) (n : Nat) {c : Code} {s0 : St} (h0 : s0 = I (f 0)) (hstep : ∀ j, j < n → WC P k c (I (f j)) (roundK k keep I (f (j + 1)))) (hend : WC P k c (I (f n)) (endK Φ)) : WC P k (.loop c) s0 Φ := by
  subst h0
  have key : ∀ d j, j + d = n → WC P k (.loop c) (I (f j)) Φ := by
    intro d
    induction d with
    | zero =>
      intro j hj
      obtain rfl : j = n := by omega
      obtain ⟨e, r, h1, h2⟩ := hend.h
      cases e with
      | normal => exact h2.elim
      | exit id => exact ⟨⟨_, r, Ev.loopx h1 (by simp), h2⟩⟩
      | ret => exact ⟨⟨_, r, Ev.loopx h1 (by simp), h2⟩⟩
    | succ d ih =>
      intro j hj
      obtain ⟨e, r, h1, h2⟩ := (hstep j (by omega)).h
      cases e with
      | normal =>
        obtain ⟨x, h3, rfl⟩ := h2
        obtain ⟨e', r', h4, h5⟩ := (ih (j + 1) (by omega)).h
        exact ⟨⟨e', r', Ev.loop h1 (Ev.clean keep h3 h4), h5⟩⟩
      | exit id => exact h2.elim
      | ret => exact h2.elim
  exact key n 0 (by omega)
theorem c_loopC (keep : List Nat) {σ : Type} (I : σ → St) (f : Nat → σ) (n : Nat) {c : Code} {s0 : St} (h0 : clean k keep s0 = some (I (f 0))) (hstep : ∀ j, j < n → WC P k c (I (f j)) (roundK k keep I (f (j + 1)))) (hend : WC P k c (I (f n)) (endK Φ)) : WC P k (.loop c) s0 Φ :=
  c_clean keep h0 (c_loop keep I f n rfl hstep hend)
theorem c_join (keep : List Nat) {σ : Type} (I : σ → St) (y : σ) {c : Operand} {t : Bool} (hc : opnd s.t c = .c (.val (.bool t))) (ha : t = true → WC P k a s (roundK k keep I y)) (hb : t = false → WC P k b s (roundK k keep I y)) (h : Φ .normal (I y)) : WC P k (.cond c a b) s Φ := by
  cases t with
  | true =>
    obtain ⟨e, r, h1, h2⟩ := (ha rfl).h
    cases e with
    | normal => obtain ⟨x, h3, rfl⟩ := h2; exact ⟨⟨_, _, Ev.tidy keep (Ev.cond true hc h1) h3, h⟩⟩
    | exit id => exact h2.elim
    | ret => exact h2.elim
  | false =>
    obtain ⟨e, r, h1, h2⟩ := (hb rfl).h
    cases e with
    | normal => obtain ⟨x, h3, rfl⟩ := h2; exact ⟨⟨_, _, Ev.tidy keep (Ev.cond false hc h1) h3, h⟩⟩
    | exit id => exact h2.elim
    | ret => exact h2.elim
def callK (P : Program) (n : Nat) (rs : List ResultVar) (v : AV) (m' : Mem) : Ex → St → Prop
  | .exit _, _ => False
  | _, s => ∃ vs ids, resList P s rs = some vs ∧ canon n [resV vs] s.m = some ([v], m', ids)
theorem c_call {f : FuncId} {fn : Func} {c : Code} {args : List AV} {m m' : Mem} {v : AV} {N n : Nat} (hf : P.funcs[f]? = some fn) (hb : fn.body = some c) (hN : fn.ntmps = N) (hn : Nat.ble args.length N = true) (hm : m.length = n)
    (h : WC P n c ⟨N, argT args, m⟩ (callK P n fn.results.toList v m')) : Ev P (.call f args m) (.val v m') := by
  subst hm; subst hN
  obtain ⟨e, r, h1, h2⟩ := h.h
  cases e with
  | exit id => exact h2.elim
  | normal => obtain ⟨vs, ids, h3, h4⟩ := h2; exact Ev.call hf hb (Nat.le_of_ble_eq_true hn) h1 (.inl rfl) h3 h4
  | ret => obtain ⟨vs, ids, h3, h4⟩ := h2; exact Ev.call hf hb (Nat.le_of_ble_eq_true hn) h1 (.inr rfl) h3 h4
end
theorem r_row {P : Program} {s : St} {a : Tmp} {ty : TypeId} {b n : Nat} {own : Bool} {x : Arr} (ha : s.t a = .c (.ptr b 0)) (hm : s.m[b]? = some (.row own x)) (hr : isRowT P ty = some true) (hs : szT P ty = some n) (hx : x.size = n) (h0 : 0 < n) : resOne P s (.cell a ty) = some (.agg x) := by
  simp [resOne, ha, hm, partA, hr, hs, hx, h0, winA]
theorem r_tmpC {P : Program} {s : St} {t : Tmp} {c : Cell} (h : s.t t = .c c) : resOne P s (.tmp t) = some (.c c) := by simp [resOne, h]
theorem r_tmpA {P : Program} {s : St} {t : Tmp} {x : Arr} (h : s.t t = .agg x) : resOne P s (.tmp t) = some (.agg x) := by simp [resOne, h]
def canV (n : Nat) (v : AV) (m : Mem) : Option (List AV × Mem) := (canon n [v] m).map fun r => (r.1, r.2.1)
theorem canV_spec {n : Nat} {v v' : AV} {m m' : Mem} (h : canV n v m = some ([v'], m')) : ∃ ids, canon n [v] m = some ([v'], m', ids) := by
  unfold canV at h
  obtain ⟨⟨a, b, c⟩, h1, h2⟩ := Option.map_eq_some_iff.1 h
  simp only [Prod.mk.injEq] at h2
  obtain ⟨rfl, rfl⟩ := h2
  exact ⟨c, h1⟩
theorem k_1 {P : Program} {n : Nat} {s : St} {r1 : ResultVar} {v1 v : AV} {m' : Mem} (h1 : resOne P s r1 = some v1) (hc : canV n v1 s.m = some ([v], m')) : callK P n [r1] v m' .ret s := let ⟨ids, h⟩ := canV_spec hc; ⟨[v1], ids, by simp [resList, h1], h⟩
theorem k_2 {P : Program} {n : Nat} {s : St} {r1 r2 : ResultVar} {v1 v2 v : AV} {m' : Mem} (h1 : resOne P s r1 = some v1) (h2 : resOne P s r2 = some v2) (hc : canV n (.tup [v1, v2]) s.m = some ([v], m')) : callK P n [r1, r2] v m' .ret s := let ⟨ids, h⟩ := canV_spec hc; ⟨[v1, v2], ids, by simp [resList, h1, h2], h⟩
section
variable {t : TypeId}
theorem addI {a b : Int} (h : -9223372036854775808 ≤ a + b ∧ a + b ≤ 9223372036854775807) : binOp .add t (.int .i64 a) (.int .i64 b) = (pure (.int .i64 (a + b)) : Sem Value) := by
  show (pure (Value.int .i64 (IntKind.i64.wrap (a + b))) : Sem Value) = _
  rw [IntWalk.i64_in _ (by omega)]
theorem subI {a b : Int} (h : -9223372036854775808 ≤ a - b ∧ a - b ≤ 9223372036854775807) : binOp .sub t (.int .i64 a) (.int .i64 b) = (pure (.int .i64 (a - b)) : Sem Value) := by
  show (pure (Value.int .i64 (IntKind.i64.wrap (a - b))) : Sem Value) = _
  rw [IntWalk.i64_in _ (by omega)]
theorem mulI {a b : Int} (h : -9223372036854775808 ≤ a * b ∧ a * b ≤ 9223372036854775807) : binOp .mul t (.int .i64 a) (.int .i64 b) = (pure (.int .i64 (a * b)) : Sem Value) := by
  show (pure (Value.int .i64 (IntKind.i64.wrap (a * b))) : Sem Value) = _
  rw [IntWalk.i64_in _ (by omega)]
theorem lssI {a b : Int} : binOp .lss t (.int .i64 a) (.int .i64 b) = (pure (.bool (decide (a < b))) : Sem Value) := rfl
theorem gtrI {a b : Int} : binOp .gtr t (.int .i64 a) (.int .i64 b) = (pure (.bool (decide (b < a))) : Sem Value) := rfl
theorem geqI {a b : Int} : binOp .geq t (.int .i64 a) (.int .i64 b) = (pure (.bool (decide (b ≤ a))) : Sem Value) := rfl
theorem eqlI {a b : Int} : binOp .eql t (.int .i64 a) (.int .i64 b) = (pure (.bool (a == b)) : Sem Value) := rfl
theorem neqI {a b : Int} : binOp .neq t (.int .i64 a) (.int .i64 b) = (pure (.bool (a != b)) : Sem Value) := rfl
theorem addN {a b : Nat} (h : a + b ≤ 9223372036854775807) : binOp .add t (.int .i64 (a : Int)) (.int .i64 (b : Int)) = (pure (.int .i64 ((a + b : Nat) : Int)) : Sem Value) := addI (by omega)
theorem subN {a b : Nat} (h : b ≤ a) (h2 : a ≤ 9223372036854775807) : binOp .sub t (.int .i64 (a : Int)) (.int .i64 (b : Int)) = (pure (.int .i64 ((a - b : Nat) : Int)) : Sem Value) := by
  rw [subI (by omega)]; congr 2; omega
theorem mulN {a b : Nat} (h : a * b ≤ 9223372036854775807) : binOp .mul t (.int .i64 (a : Int)) (.int .i64 (b : Int)) = (pure (.int .i64 ((a * b : Nat) : Int)) : Sem Value) := by
  rw [mulI (by rw [← Int.natCast_mul]; omega)]; rfl
theorem quoN {a b : Nat} (h : 0 < b) (h2 : a ≤ 9223372036854775807) : binOp .quo t (.int .i64 (a : Int)) (.int .i64 (b : Int)) = (pure (.int .i64 ((a / b : Nat) : Int)) : Sem Value) := by
  rw [binOp_quo, Op.intDiv, if_neg (by omega)]
  show (pure (Value.int .i64 (IntKind.i64.wrap ((a / b : Nat) : Int))) : Sem Value) = _
  have hle := Nat.div_le_self a b
  generalize a / b = q at *
  rw [IntWalk.i64_in _ (by omega)]
theorem remN {a b : Nat} (h : 0 < b) (_h2 : a ≤ 9223372036854775807) : binOp .rem t (.int .i64 (a : Int)) (.int .i64 (b : Int)) = (pure (.int .i64 ((a % b : Nat) : Int)) : Sem Value) := by
  rw [binOp_rem, Op.intDiv, if_neg (by omega)]
  rfl
theorem lssN {a b : Nat} : binOp .lss t (.int .i64 (a : Int)) (.int .i64 (b : Int)) = (pure (.bool (decide (a < b))) : Sem Value) := by
  rw [lssI]; congr 2; exact decide_eq_decide.2 (by omega)
theorem gtrN {a b : Nat} : binOp .gtr t (.int .i64 (a : Int)) (.int .i64 (b : Int)) = (pure (.bool (decide (b < a))) : Sem Value) := by
  rw [gtrI]; congr 2; exact decide_eq_decide.2 (by omega)
theorem geqN {a b : Nat} : binOp .geq t (.int .i64 (a : Int)) (.int .i64 (b : Int)) = (pure (.bool (decide (b ≤ a))) : Sem Value) := by
  rw [geqI]; congr 2; exact decide_eq_decide.2 (by omega)
theorem eqlN {a b : Nat} : binOp .eql t (.int .i64 (a : Int)) (.int .i64 (b : Int)) = (pure (.bool (decide (a = b))) : Sem Value) := by
  rw [eqlI]; congr 2; rw [Bool.eq_iff_iff]; simp; omega
theorem neqN {a b : Nat} : binOp .neq t (.int .i64 (a : Int)) (.int .i64 (b : Int)) = (pure (.bool (!decide (a = b))) : Sem Value) := by
  rw [neqI]; congr 2; rw [Bool.eq_iff_iff]; simp; omega
theorem shl64n {x : BitVec 64} {kd : IntKind} {n : Nat} : binOp .shl t (U64 x) (.int kd (n : Int)) = (pure (U64 (x <<< n)) : Sem Value) := by rw [shl64 x kd n (by omega), Int.toNat_natCast]
theorem shr64n {x : BitVec 64} {kd : IntKind} {n : Nat} : binOp .shr t (U64 x) (.int kd (n : Int)) = (pure (U64 (x >>> n)) : Sem Value) := by rw [shr64 x kd n (by omega), Int.toNat_natCast]
theorem shl8n {x : BitVec 8} {kd : IntKind} {n : Nat} : binOp .shl t (U8 x) (.int kd (n : Int)) = (pure (U8 (x <<< n)) : Sem Value) := by rw [shl8 x kd n (by omega), Int.toNat_natCast]
theorem shr8n {x : BitVec 8} {kd : IntKind} {n : Nat} : binOp .shr t (U8 x) (.int kd (n : Int)) = (pure (U8 (x >>> n)) : Sem Value) := by rw [shr8 x kd n (by omega), Int.toNat_natCast]
theorem w8_64 (x : BitVec 8) : IntKind.u64.wrap (tn x) = tn (x.setWidth 64) := by rw [wrapU64]; unfold tn; rw [ofInt_wide]
theorem w64_8 (x : BitVec 64) : IntKind.u8.wrap (tn x) = tn (x.setWidth 8) := by rw [wrapU8]; unfold tn; rw [ofInt_wide]
theorem wi_64 (n : Nat) : IntKind.u64.wrap (n : Int) = tn (BitVec.ofNat 64 n) := by rw [wrapU64, BitVec.ofInt_natCast]; rfl
theorem wi_8 (n : Nat) : IntKind.u8.wrap (n : Int) = tn (BitVec.ofNat 8 n) := by rw [wrapU8, BitVec.ofInt_natCast]; rfl
theorem w8_i (x : BitVec 8) : IntKind.i64.wrap (tn x) = ((x.toNat : Nat) : Int) := IntWalk.i64_in _ (by unfold tn; have := x.isLt; omega)
end
section
variable {P : Program} {k N : Nat} {ops : Array Oper} {d : Nat} {ty : TypeId} {pos : String} {af : Array Edge} {l : List Oper} {T : Nat → AV} {M : Mem} {K : St → Prop} {t t' : TypeId} {x y : Operand}
theorem v_add64 {a b : BitVec 64} (hx : opnd T x = .c (.val (U64 a))) (hy : opnd T y = .c (.val (U64 b))) : evVal P (opnd T) M (.binOp .add t x y t') = some ((.c (.val (U64 (a + b))))) :=
  v_bin hx hy (add64 a b)
theorem v_sub64 {a b : BitVec 64} (hx : opnd T x = .c (.val (U64 a))) (hy : opnd T y = .c (.val (U64 b))) : evVal P (opnd T) M (.binOp .sub t x y t') = some ((.c (.val (U64 (a - b))))) :=
  v_bin hx hy (sub64 a b)
theorem v_and64 {a b : BitVec 64} (hx : opnd T x = .c (.val (U64 a))) (hy : opnd T y = .c (.val (U64 b))) : evVal P (opnd T) M (.binOp .and t x y t') = some ((.c (.val (U64 (a &&& b))))) :=
  v_bin hx hy (and64 a b)
theorem v_or64 {a b : BitVec 64} (hx : opnd T x = .c (.val (U64 a))) (hy : opnd T y = .c (.val (U64 b))) : evVal P (opnd T) M (.binOp .or t x y t') = some ((.c (.val (U64 (a ||| b))))) :=
  v_bin hx hy (or64 a b)
theorem v_xor64 {a b : BitVec 64} (hx : opnd T x = .c (.val (U64 a))) (hy : opnd T y = .c (.val (U64 b))) : evVal P (opnd T) M (.binOp .xor t x y t') = some ((.c (.val (U64 (a ^^^ b))))) :=
  v_bin hx hy (xor64 a b)
theorem v_mul64 {a b : BitVec 64} (hx : opnd T x = .c (.val (U64 a))) (hy : opnd T y = .c (.val (U64 b))) : evVal P (opnd T) M (.binOp .mul t x y t') = some ((.c (.val (U64 (a * b))))) :=
  v_bin hx hy (mul64 a b)
theorem v_sub8 {a b : BitVec 8} (hx : opnd T x = .c (.val (U8 a))) (hy : opnd T y = .c (.val (U8 b))) : evVal P (opnd T) M (.binOp .sub t x y t') = some ((.c (.val (U8 (a - b))))) :=
  v_bin hx hy (sub8 a b)
theorem v_and8 {a b : BitVec 8} (hx : opnd T x = .c (.val (U8 a))) (hy : opnd T y = .c (.val (U8 b))) : evVal P (opnd T) M (.binOp .and t x y t') = some ((.c (.val (U8 (a &&& b))))) :=
  v_bin hx hy (and8 a b)
theorem v_or8 {a b : BitVec 8} (hx : opnd T x = .c (.val (U8 a))) (hy : opnd T y = .c (.val (U8 b))) : evVal P (opnd T) M (.binOp .or t x y t') = some ((.c (.val (U8 (a ||| b))))) :=
  v_bin hx hy (or8 a b)
theorem v_shl64n {a : BitVec 64} {kd : IntKind} {j : Nat} (hx : opnd T x = .c (.val (U64 a))) (hy : opnd T y = .c (.val (.int kd (j : Int)))) : evVal P (opnd T) M (.binOp .shl t x y t') = some ((.c (.val (U64 (a <<< j))))) :=
  v_bin hx hy (shl64n)
theorem v_shr64n {a : BitVec 64} {kd : IntKind} {j : Nat} (hx : opnd T x = .c (.val (U64 a))) (hy : opnd T y = .c (.val (.int kd (j : Int)))) : evVal P (opnd T) M (.binOp .shr t x y t') = some ((.c (.val (U64 (a >>> j))))) :=
  v_bin hx hy (shr64n)
theorem v_shl8n {a : BitVec 8} {kd : IntKind} {j : Nat} (hx : opnd T x = .c (.val (U8 a))) (hy : opnd T y = .c (.val (.int kd (j : Int)))) : evVal P (opnd T) M (.binOp .shl t x y t') = some ((.c (.val (U8 (a <<< j))))) :=
  v_bin hx hy (shl8n)
theorem v_shr8n {a : BitVec 8} {kd : IntKind} {j : Nat} (hx : opnd T x = .c (.val (U8 a))) (hy : opnd T y = .c (.val (.int kd (j : Int)))) : evVal P (opnd T) M (.binOp .shr t x y t') = some ((.c (.val (U8 (a >>> j))))) :=
  v_bin hx hy (shr8n)
theorem v_shl64w {a : BitVec 64} {b : BitVec 64} (hx : opnd T x = .c (.val (U64 a))) (hy : opnd T y = .c (.val (U64 b))) : evVal P (opnd T) M (.binOp .shl t x y t') = some ((.c (.val (U64 (a <<< b.toNat))))) :=
  v_bin hx hy (shl64w a b)
theorem v_shr64w {a : BitVec 64} {b : BitVec 64} (hx : opnd T x = .c (.val (U64 a))) (hy : opnd T y = .c (.val (U64 b))) : evVal P (opnd T) M (.binOp .shr t x y t') = some ((.c (.val (U64 (a >>> b.toNat))))) :=
  v_bin hx hy (shr64w a b)
theorem v_eql64 {a b : BitVec 64} (hx : opnd T x = .c (.val (U64 a))) (hy : opnd T y = .c (.val (U64 b))) : evVal P (opnd T) M (.binOp .eql t x y t') = some ((.c (.val (.bool (a == b))))) :=
  v_bin hx hy (eql64 a b)
theorem v_eql8 {a b : BitVec 8} (hx : opnd T x = .c (.val (U8 a))) (hy : opnd T y = .c (.val (U8 b))) : evVal P (opnd T) M (.binOp .eql t x y t') = some ((.c (.val (.bool (a == b))))) :=
  v_bin hx hy (eql8 a b)
theorem v_lssN {a b : Nat} (hx : opnd T x = .c (.val (.int .i64 (a : Int)))) (hy : opnd T y = .c (.val (.int .i64 (b : Int)))) : evVal P (opnd T) M (.binOp .lss t x y t') = some ((.c (.val (.bool (decide (a < b)))))) :=
  v_bin hx hy (lssN)
theorem v_gtrN {a b : Nat} (hx : opnd T x = .c (.val (.int .i64 (a : Int)))) (hy : opnd T y = .c (.val (.int .i64 (b : Int)))) : evVal P (opnd T) M (.binOp .gtr t x y t') = some ((.c (.val (.bool (decide (b < a)))))) :=
  v_bin hx hy (gtrN)
theorem v_geqN {a b : Nat} (hx : opnd T x = .c (.val (.int .i64 (a : Int)))) (hy : opnd T y = .c (.val (.int .i64 (b : Int)))) : evVal P (opnd T) M (.binOp .geq t x y t') = some ((.c (.val (.bool (decide (b ≤ a)))))) :=
  v_bin hx hy (geqN)
theorem v_eqlN {a b : Nat} (hx : opnd T x = .c (.val (.int .i64 (a : Int)))) (hy : opnd T y = .c (.val (.int .i64 (b : Int)))) : evVal P (opnd T) M (.binOp .eql t x y t') = some ((.c (.val (.bool (decide (a = b)))))) :=
  v_bin hx hy (eqlN)
theorem v_neqN {a b : Nat} (hx : opnd T x = .c (.val (.int .i64 (a : Int)))) (hy : opnd T y = .c (.val (.int .i64 (b : Int)))) : evVal P (opnd T) M (.binOp .neq t x y t') = some ((.c (.val (.bool (!decide (a = b)))))) :=
  v_bin hx hy (neqN)
theorem v_addN {a b : Nat} (hx : opnd T x = .c (.val (.int .i64 (a : Int)))) (hy : opnd T y = .c (.val (.int .i64 (b : Int)))) (h : a + b ≤ 9223372036854775807) : evVal P (opnd T) M (.binOp .add t x y t') = some ((.c (.val (.int .i64 ((a + b : Nat) : Int))))) :=
  v_bin hx hy (addN h)
theorem v_subN {a b : Nat} (hx : opnd T x = .c (.val (.int .i64 (a : Int)))) (hy : opnd T y = .c (.val (.int .i64 (b : Int)))) (h : b ≤ a) (h2 : a ≤ 9223372036854775807) : evVal P (opnd T) M (.binOp .sub t x y t') = some ((.c (.val (.int .i64 ((a - b : Nat) : Int))))) :=
  v_bin hx hy (subN h h2)
theorem v_mulN {a b : Nat} (hx : opnd T x = .c (.val (.int .i64 (a : Int)))) (hy : opnd T y = .c (.val (.int .i64 (b : Int)))) (h : a * b ≤ 9223372036854775807) : evVal P (opnd T) M (.binOp .mul t x y t') = some ((.c (.val (.int .i64 ((a * b : Nat) : Int))))) :=
  v_bin hx hy (mulN h)
theorem v_quoN {a b : Nat} (hx : opnd T x = .c (.val (.int .i64 (a : Int)))) (hy : opnd T y = .c (.val (.int .i64 (b : Int)))) (h : 0 < b) (h2 : a ≤ 9223372036854775807) : evVal P (opnd T) M (.binOp .quo t x y t') = some ((.c (.val (.int .i64 ((a / b : Nat) : Int))))) :=
  v_bin hx hy (quoN h h2)
theorem v_remN {a b : Nat} (hx : opnd T x = .c (.val (.int .i64 (a : Int)))) (hy : opnd T y = .c (.val (.int .i64 (b : Int)))) (h : 0 < b) (h2 : a ≤ 9223372036854775807) : evVal P (opnd T) M (.binOp .rem t x y t') = some ((.c (.val (.int .i64 ((a % b : Nat) : Int))))) :=
  v_bin hx hy (remN h h2)
theorem v_lssI {a b : Int} (hx : opnd T x = .c (.val (.int .i64 a))) (hy : opnd T y = .c (.val (.int .i64 b))) : evVal P (opnd T) M (.binOp .lss t x y t') = some ((.c (.val (.bool (decide (a < b)))))) :=
  v_bin hx hy (lssI)
theorem v_gtrI {a b : Int} (hx : opnd T x = .c (.val (.int .i64 a))) (hy : opnd T y = .c (.val (.int .i64 b))) : evVal P (opnd T) M (.binOp .gtr t x y t') = some ((.c (.val (.bool (decide (b < a)))))) :=
  v_bin hx hy (gtrI)
theorem v_geqI {a b : Int} (hx : opnd T x = .c (.val (.int .i64 a))) (hy : opnd T y = .c (.val (.int .i64 b))) : evVal P (opnd T) M (.binOp .geq t x y t') = some ((.c (.val (.bool (decide (b ≤ a)))))) :=
  v_bin hx hy (geqI)
theorem v_addI {a b : Int} (hx : opnd T x = .c (.val (.int .i64 a))) (hy : opnd T y = .c (.val (.int .i64 b))) (h : -9223372036854775808 ≤ a + b ∧ a + b ≤ 9223372036854775807) : evVal P (opnd T) M (.binOp .add t x y t') = some ((.c (.val (.int .i64 (a + b))))) :=
  v_bin hx hy (addI h)
theorem v_subI {a b : Int} (hx : opnd T x = .c (.val (.int .i64 a))) (hy : opnd T y = .c (.val (.int .i64 b))) (h : -9223372036854775808 ≤ a - b ∧ a - b ≤ 9223372036854775807) : evVal P (opnd T) M (.binOp .sub t x y t') = some ((.c (.val (.int .i64 (a - b))))) :=
  v_bin hx hy (subI h)
end
end Go.Proofs.Ytcgncafhonlmlaa
namespace Go.Proofs.Ytcgncafhonlmlaa
open Go.RowKit
section
variable {t : TypeId}
theorem gtr64' (x y : BitVec 64) : binOp .gtr t (U64 x) (U64 y) = (pure (.bool (decide (y.toNat < x.toNat))) : Sem Value) := by
  show (pure (Value.bool (decide ((y.toNat : Int) < (x.toNat : Int)))) : Sem Value) = _
  congr 2; exact decide_eq_decide.2 (by omega)
theorem wI_64 (i : Int) : IntKind.u64.wrap i = tn (BitVec.ofInt 64 i) := wrapU64 i
end
section
variable {P : Program} {k N : Nat} {ops : Array Oper} {d : Nat} {ty : TypeId} {pos : String} {af : Array Edge} {l0 : List Oper} {T : Nat → AV} {M M' : Mem} {K : St → Prop} {t t' : TypeId} {x y : Operand}
theorem v_gtr64 {a b : BitVec 64} (hx : opnd T x = .c (.val (U64 a))) (hy : opnd T y = .c (.val (U64 b))) : evVal P (opnd T) M (.binOp .gtr t x y t') = some (.c (.val (.bool (decide (b.toNat < a.toNat))))) := v_bin hx hy (gtr64' a b)
def natI (l : List Nat) : List Int := l.map Int.ofNat
def ntn (l : List Nat) (i : Nat) : Nat := l.getD i 0
def putn (l : List Nat) (i v : Nat) : List Nat := l.set i v
@[simp] theorem putn_length (l : List Nat) (i v : Nat) : (putn l i v).length = l.length := by simp [putn]
end
end Go.Proofs.Ytcgncafhonlmlaa
