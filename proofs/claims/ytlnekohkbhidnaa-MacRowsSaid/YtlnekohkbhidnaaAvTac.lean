/- Abstract data: the rules, step by step, in the forms in which a walk meets them. -/
import Derived.Test.YtlnekohkbhidnaaAvSound
namespace Go.Proofs.Ytlnekohkbhidnaa
open Go.RowKit

/-- What comes of operations, of code, handed on to what is to hold. -/
structure WO (P : Program) (k : Nat) (ops : Array Oper) (l : List Oper) (s : St) (K : St → Prop) : Prop where
  h : ∃ r, Ev P (.ops k ops l s) (.out .normal r) ∧ K r
structure WC (P : Program) (k : Nat) (c : Code) (s : St) (Φ : Ex → St → Prop) : Prop where
  h : ∃ e r, Ev P (.code k c s) (.out e r) ∧ Φ e r
theorem cut_length {α : Type} (l : List α) (o n : Nat) : (cut l o n).length = min n (l.length - o) := by simp [cut]
theorem zer8_snoc (k : Nat) : zer8 k ++ [0#8] = zer8 (k + 1) := by unfold zer8; rw [List.replicate_succ']; rfl
theorem set_0 {α : Type} {a y : α} {z : List α} : (a :: z).set 0 y = y :: z := rfl
theorem set_1 {α : Type} {a b y : α} {z : List α} : (a :: b :: z).set 1 y = a :: y :: z := rfl
theorem set_2 {α : Type} {a b c y : α} {z : List α} : (a :: b :: c :: z).set 2 y = a :: b :: y :: z := rfl
theorem set_3 {α : Type} {a b c d y : α} {z : List α} : (a :: b :: c :: d :: z).set 3 y = a :: b :: c :: y :: z := rfl
theorem set_4 {α : Type} {a b c d e y : α} {z : List α} : (a :: b :: c :: d :: e :: z).set 4 y = a :: b :: c :: d :: y :: z := rfl
theorem set_5 {α : Type} {a b c d e f y : α} {z : List α} : (a :: b :: c :: d :: e :: f :: z).set 5 y = a :: b :: c :: d :: e :: y :: z := rfl
theorem set_6 {α : Type} {a b c d e f g y : α} {z : List α} : (a :: b :: c :: d :: e :: f :: g :: z).set 6 y = a :: b :: c :: d :: e :: f :: y :: z := rfl
theorem set_7 {α : Type} {a b c d e f g h y : α} {z : List α} : (a :: b :: c :: d :: e :: f :: g :: h :: z).set 7 y = a :: b :: c :: d :: e :: f :: g :: y :: z := rfl
theorem set_8 {α : Type} {a b c d e f g h i y : α} {z : List α} : (a :: b :: c :: d :: e :: f :: g :: h :: i :: z).set 8 y = a :: b :: c :: d :: e :: f :: g :: h :: y :: z := rfl
theorem set_9 {α : Type} {a b c d e f g h i j y : α} {z : List α} : (a :: b :: c :: d :: e :: f :: g :: h :: i :: j :: z).set 9 y = a :: b :: c :: d :: e :: f :: g :: h :: i :: y :: z := rfl
theorem set_10 {α : Type} {a b c d e f g h i j k y : α} {z : List α} : (a :: b :: c :: d :: e :: f :: g :: h :: i :: j :: k :: z).set 10 y = a :: b :: c :: d :: e :: f :: g :: h :: i :: j :: y :: z := rfl
theorem set_11 {α : Type} {a b c d e f g h i j k l y : α} {z : List α} : (a :: b :: c :: d :: e :: f :: g :: h :: i :: j :: k :: l :: z).set 11 y = a :: b :: c :: d :: e :: f :: g :: h :: i :: j :: k :: y :: z := rfl
theorem set_12 {α : Type} {a b c d e f g h i j k l m y : α} {z : List α} : (a :: b :: c :: d :: e :: f :: g :: h :: i :: j :: k :: l :: m :: z).set 12 y = a :: b :: c :: d :: e :: f :: g :: h :: i :: j :: k :: l :: y :: z := rfl
theorem set_13 {α : Type} {a b c d e f g h i j k l m n y : α} {z : List α} : (a :: b :: c :: d :: e :: f :: g :: h :: i :: j :: k :: l :: m :: n :: z).set 13 y = a :: b :: c :: d :: e :: f :: g :: h :: i :: j :: k :: l :: m :: y :: z := rfl
theorem set_put {n : Nat} (l : List (BitVec n)) (i : Nat) (v : BitVec n) : l.set i v = put l i v := rfl
theorem set_puti (l : List Int) (i : Nat) (v : Int) : l.set i v = puti l i v := rfl
theorem put_again {n : Nat} (l : List (BitVec n)) (k : Nat) (x y : BitVec n) : put (put l k x) k y = put l k y := by simp [put]
theorem puti_again (l : List Int) (k : Nat) (x y : Int) : puti (puti l k x) k y = puti l k y := by simp [puti]
theorem puti_length (l : List Int) (i : Nat) (v : Int) : (puti l i v).length = l.length := by simp [puti]
theorem set8 (l : List (BitVec 8)) (i : Nat) (v : BitVec 8) : (Arr.a8 l).set i (.val (U8 v)) = some (.a8 (put l i v)) := by simp [Arr.set]
theorem set32 (l : List (BitVec 32)) (i : Nat) (v : BitVec 32) : (Arr.a32 l).set i (.val (U32 v)) = some (.a32 (put l i v)) := by simp [Arr.set]
theorem set64 (l : List (BitVec 64)) (i : Nat) (v : BitVec 64) : (Arr.a64 l).set i (.val (U64 v)) = some (.a64 (put l i v)) := by simp [Arr.set]
theorem seti (l : List Int) (i : Nat) (v : Int) : (Arr.ai l).set i (.val (.int .i64 v)) = some (.ai (puti l i v)) := by simp [Arr.set, i?]
theorem setc (l : List Cell) (i : Nat) (c : Cell) : (Arr.ac l).set i c = some (.ac (putc l i c)) := rfl
section
variable {P : Program} {k N : Nat} {ops : Array Oper} {d : Nat} {ty : TypeId} {pos : String} {af : Array Edge} {l : List Oper} {T : Nat → AV} {M M' : Mem} {K : St → Prop}
theorem s_nil {s : St} (h : K s) : WO P k ops [] s K := ⟨⟨s, Ev.nil, h⟩⟩
theorem s_val {op : Op} {v : AV} (h : evVal P (opnd T) M op = some v) (hd : decide (d < N) = true) (hk : WO P k ops l ⟨N, upd T d v, M⟩ K) : WO P k ops (⟨some d, op, ty, pos, af, none⟩ :: l) ⟨N, T, M⟩ K :=
  let ⟨r, h1, h2⟩ := hk.h; ⟨⟨r, Ev.cons rfl hd (Ev.val h) h1, h2⟩⟩
theorem s_mem {op : Op} {v : AV} (h : evMem P (opnd T) M op = some (v, M')) (hd : decide (d < N) = true) (hk : WO P k ops l ⟨N, upd T d v, M'⟩ K) : WO P k ops (⟨some d, op, ty, pos, af, none⟩ :: l) ⟨N, T, M⟩ K :=
  let ⟨r, h1, h2⟩ := hk.h; ⟨⟨r, Ev.cons rfl hd (Ev.mem h) h1, h2⟩⟩
theorem s_mem0 {op : Op} {v : AV} (h : evMem P (opnd T) M op = some (v, M')) (hk : WO P k ops l ⟨N, T, M'⟩ K) : WO P k ops (⟨none, op, ty, pos, af, none⟩ :: l) ⟨N, T, M⟩ K :=
  let ⟨r, h1, h2⟩ := hk.h; ⟨⟨r, Ev.cons rfl rfl (Ev.mem h) h1, h2⟩⟩
theorem s_memN {op : Op} {v : AV} {news : Mem} (h : evMem P (opnd T) M op = some (v, M ++ news)) (hM : M ++ news = M') (hd : decide (d < N) = true) (hk : WO P k ops l ⟨N, upd T d v, M'⟩ K) : WO P k ops (⟨some d, op, ty, pos, af, none⟩ :: l) ⟨N, T, M⟩ K :=
  s_mem (by rw [h, hM]) hd hk
theorem s_ev {op : Op} {v : AV} (h : Ev P (.op op (opnd T) M) (.val v M')) (hd : decide (d < N) = true) (hk : WO P k ops l ⟨N, upd T d v, M'⟩ K) : WO P k ops (⟨some d, op, ty, pos, af, none⟩ :: l) ⟨N, T, M⟩ K :=
  let ⟨r, h1, h2⟩ := hk.h; ⟨⟨r, Ev.cons rfl hd h h1, h2⟩⟩
theorem s_ev0 {op : Op} {v : AV} (h : Ev P (.op op (opnd T) M) (.val v M')) (hk : WO P k ops l ⟨N, T, M'⟩ K) : WO P k ops (⟨none, op, ty, pos, af, none⟩ :: l) ⟨N, T, M⟩ K :=
  let ⟨r, h1, h2⟩ := hk.h; ⟨⟨r, Ev.cons rfl rfl h h1, h2⟩⟩
theorem s_evN {op : Op} {v : AV} {news : Mem} (h : Ev P (.op op (opnd T) M) (.val v (M ++ news))) (hM : M ++ news = M') (hd : decide (d < N) = true) (hk : WO P k ops l ⟨N, upd T d v, M'⟩ K) : WO P k ops (⟨some d, op, ty, pos, af, none⟩ :: l) ⟨N, T, M⟩ K :=
  s_ev (by rw [← hM]; exact h) hd hk
/-- An operation under a test. -/
theorem s_go {o : Oper} {s : St} (hw : evWanted ops s.t o = some true) (h : WO P k ops (⟨o.dst, o.op, o.type, o.pos, o.after, none⟩ :: l) s K) : WO P k ops (o :: l) s K := by
  obtain ⟨r, h1, h2⟩ := h.h
  refine ⟨⟨r, ?_, h2⟩⟩
  cases h1 with
  | cons hw' hd h hk => exact Ev.cons hw hd h hk
  | skip hw' hd hk => cases hw'
theorem s_no {o : Oper} {s : St} (hw : evWanted ops s.t o = some false) (hd : dstOk s.n o.dst = true) (h : WO P k ops l ⟨s.n, putT s.t o.dst (.c .any), s.m⟩ K) : WO P k ops (o :: l) s K :=
  let ⟨r, h1, h2⟩ := h.h; ⟨⟨r, Ev.skip hw hd h1, h2⟩⟩
/-- The head of a region whose order is open. -/
def HW (P : Program) (ops : Array Oper) (K : St → Prop) : List Oper → St → Prop
  | [], s => K s
  | o :: l, s => (evWanted ops s.t o = some true ∧ ∃ v news, Ev P (.op o.op (opnd s.t) (roMem s.m)) (.val v (roMem s.m ++ news)) ∧ HW P ops K l ⟨s.n, putT s.t o.dst v, s.m ++ news⟩) ∨
      (evWanted ops s.t o = some false ∧ HW P ops K l ⟨s.n, putT s.t o.dst (.c .any), s.m⟩)
structure HO (P : Program) (ops : Array Oper) (l : List Oper) (s : St) (K : St → Prop) : Prop where
  h : HW P ops K l s
theorem h_nil {s : St} (h : K s) : HO P ops [] s K := ⟨h⟩
theorem h_val {op : Op} {v : AV} (h : evVal P (opnd T) (roMem M) op = some v) (_hd : decide (d < N) = true) (hk : HO P ops l ⟨N, upd T d v, M⟩ K) : HO P ops (⟨some d, op, ty, pos, af, none⟩ :: l) ⟨N, T, M⟩ K :=
  ⟨.inl ⟨rfl, v, [], by rw [List.append_nil]; exact Ev.val h, by rw [List.append_nil]; exact hk.h⟩⟩
theorem h_memN {op : Op} {v : AV} {news : Mem} (h : evMem P (opnd T) (roMem M) op = some (v, roMem M ++ news)) (hM : M ++ news = M') (_hd : decide (d < N) = true) (hk : HO P ops l ⟨N, upd T d v, M'⟩ K) : HO P ops (⟨some d, op, ty, pos, af, none⟩ :: l) ⟨N, T, M⟩ K :=
  ⟨.inl ⟨rfl, v, news, Ev.mem h, by rw [hM]; exact hk.h⟩⟩
theorem h_evN {op : Op} {v : AV} {news : Mem} (h : Ev P (.op op (opnd T) (roMem M)) (.val v (roMem M ++ news))) (hM : M ++ news = M') (_hd : decide (d < N) = true) (hk : HO P ops l ⟨N, upd T d v, M'⟩ K) : HO P ops (⟨some d, op, ty, pos, af, none⟩ :: l) ⟨N, T, M⟩ K :=
  ⟨.inl ⟨rfl, v, news, h, by rw [hM]; exact hk.h⟩⟩
theorem h_go {o : Oper} {s : St} (hw : evWanted ops s.t o = some true) (h : HO P ops (⟨o.dst, o.op, o.type, o.pos, o.after, none⟩ :: l) s K) : HO P ops (o :: l) s K := by
  rcases h.h with ⟨_, r⟩ | ⟨h0, _⟩
  · exact ⟨.inl ⟨hw, r⟩⟩
  · cases h0
theorem h_no {o : Oper} {s : St} (hw : evWanted ops s.t o = some false) (h : HO P ops l ⟨s.n, putT s.t o.dst (.c .any), s.m⟩ K) : HO P ops (o :: l) s K := ⟨.inr ⟨hw, h.h⟩⟩
theorem HW.line {s0 : St} : ∀ {l : List Oper} {s : St}, HW P ops K l s → s.n = s0.n → ∃ (A : Nat → St) (W : Nat → Bool) (V : Nat → AV) (N : Nat → Mem), A 0 = s ∧ (∀ i o, l[i]? = some o → evWanted ops (A i).t o = some (W i)) ∧
    (∀ i o, l[i]? = some o → W i = true → Ev P (.op o.op (opnd (A i).t) (roMem (A i).m)) (.val (V i) (roMem (A i).m ++ N i))) ∧
    (∀ i o, l[i]? = some o → A (i + 1) = if W i = true then ⟨s0.n, putT (A i).t o.dst (V i), (A i).m ++ N i⟩ else ⟨s0.n, putT (A i).t o.dst (.c .any), (A i).m⟩) ∧ K (A l.length)
  | [], s, h, _ => ⟨fun _ => s, fun _ => true, fun _ => .c .any, fun _ => [], rfl, fun i o h => by simp at h, fun i o h => by simp at h, fun i o h => by simp at h, h⟩
  | o :: l, s, h, hn => by
    rcases h with ⟨hw, v, news, hv, hr⟩ | ⟨hw, hr⟩
    · obtain ⟨A, W, V, N, h0, h1, h2, h3, h4⟩ := HW.line (s := ⟨s.n, putT s.t o.dst v, s.m ++ news⟩) hr hn
      refine ⟨fun i => match i with | 0 => s | i + 1 => A i, fun i => match i with | 0 => true | i + 1 => W i, fun i => match i with | 0 => v | i + 1 => V i, fun i => match i with | 0 => news | i + 1 => N i, rfl, fun i o' h => ?_, fun i o' h hw' => ?_, fun i o' h => ?_, h4⟩
      · cases i with
        | zero => simp at h; subst h; exact hw
        | succ i => exact h1 i o' (by simpa using h)
      · cases i with
        | zero => simp at h; subst h; exact hv
        | succ i => exact h2 i o' (by simpa using h) hw'
      · cases i with
        | zero => simp at h; subst h; simp only [if_true]; rw [h0, hn]
        | succ i => exact h3 i o' (by simpa using h)
    · obtain ⟨A, W, V, N, h0, h1, h2, h3, h4⟩ := HW.line (s := ⟨s.n, putT s.t o.dst (.c .any), s.m⟩) hr hn
      refine ⟨fun i => match i with | 0 => s | i + 1 => A i, fun i => match i with | 0 => false | i + 1 => W i, fun i => match i with | 0 => .c .any | i + 1 => V i, fun i => match i with | 0 => [] | i + 1 => N i, rfl, fun i o' h => ?_, fun i o' h hw' => ?_, fun i o' h => ?_, h4⟩
      · cases i with
        | zero => simp at h; subst h; exact hw
        | succ i => exact h1 i o' (by simpa using h)
      · cases i with
        | zero => cases hw'
        | succ i => exact h2 i o' (by simpa using h) hw'
      · cases i with
        | zero => simp at h; subst h; simp only; rw [h0, hn]; rfl
        | succ i => exact h3 i o' (by simpa using h)
theorem c_draw {id : Nat} {l hl tl : List Oper} {s : St} {Φ : Ex → St → Prop} (n : Nat) (hm : P.follows .mixedOrders = true) (hok : Region.okAll l.toArray n s.n = true) (h1 : l.take n = hl) (h2 : l.drop n = tl) (hlen : hl.length = n) (h : HO P l.toArray hl s fun s' => WO P k l.toArray tl s' (Φ .normal)) :
    WC P k (.region id l.toArray true) s Φ := by
  obtain ⟨A, W, V, N', h0, g1, g2, g3, g4⟩ := HW.line (s0 := s) h.h rfl
  obtain ⟨r, h3, h4⟩ := g4.h
  have conv : ∀ (i : Nat) (o : Oper), i < n → l.toArray[i]? = some o → hl[i]? = some o := fun i o hi ho => by
    rw [← h1, List.getElem?_take, if_pos hi]; simpa using ho
  exact ⟨⟨.normal, r, Ev.draw n A W V N' hm hok h0 (fun i o hi ho => g1 i o (conv i o hi ho)) (fun i o hi ho => g2 i o (conv i o hi ho)) (fun i o hi ho => g3 i o (conv i o hi ho)) (by rw [hlen] at h3; simpa [h2] using h3), h4⟩⟩
/-- A region of operations that look at no row, and of stores one behind the other. -/
def SW (P : Program) (D : Nat) (K : St → Prop) : List Oper → St → Prop
  | [], s => K s
  | o :: l, s => (isStore o = true ∧ ∃ v m', evMem P (opnd s.t) s.m o.op = some (v, m') ∧ m'.length = s.m.length ∧ SW P D K l ⟨s.n, s.t, m'⟩) ∨
      (isStore o = false ∧ ∃ v, evVal P (opnd s.t) (deadMem D) o.op = some v ∧ SW P D K l ⟨s.n, putT s.t o.dst v, s.m⟩)
structure DO (P : Program) (D : Nat) (l : List Oper) (s : St) (K : St → Prop) : Prop where
  h : SW P D K l s
theorem d_nil {D : Nat} {s : St} (h : K s) : DO P D [] s K := ⟨h⟩
theorem d_val {D : Nat} {op : Op} {v : AV} (h : evVal P (opnd T) (deadMem D) op = some v) (hs : isStore ⟨some d, op, ty, pos, af, none⟩ = false) (hk : DO P D l ⟨N, upd T d v, M⟩ K) : DO P D (⟨some d, op, ty, pos, af, none⟩ :: l) ⟨N, T, M⟩ K :=
  ⟨.inr ⟨hs, v, h, hk.h⟩⟩
theorem d_store {D : Nat} {t : TypeId} {a v : Operand} {b o : Nat} {x z : Arr} {c : Cell} (ha : opnd T a = .c (.ptr b o)) (hv : opnd T v = .c c) (hm : M[b]? = some (.row true x)) (h1 : c.one = true) (hs : szT P t = some 1) (ho : o < x.size) (hz : x.set o c = some z) (hM : M.set b (.row true z) = M')
    (hk : DO P D l ⟨N, T, M'⟩ K) : DO P D (⟨none, .store t a v, ty, pos, af, none⟩ :: l) ⟨N, T, M⟩ K :=
  ⟨.inl ⟨rfl, .c .any, M', by simp [evMem, evStore, ha, hv, hm, h1, hs, ho, hz, hM], by rw [← hM]; simp, hk.h⟩⟩
theorem d_store8 {D : Nat} {t : TypeId} {a v : Operand} {b o : Nat} {x : List (BitVec 8)} {w : BitVec 8} (ha : opnd T a = .c (.ptr b o)) (hv : opnd T v = .c (.val (U8 w))) (hm : M[b]? = some (.row true (.a8 x))) (hs : szT P t = some 1) (ho : o < x.length) (hM : M.set b (.row true (.a8 (put x o w))) = M')
    (hk : DO P D l ⟨N, T, M'⟩ K) : DO P D (⟨none, .store t a v, ty, pos, af, none⟩ :: l) ⟨N, T, M⟩ K := d_store ha hv hm rfl hs ho (set8 x o w) hM hk
theorem d_store32 {D : Nat} {t : TypeId} {a v : Operand} {b o : Nat} {x : List (BitVec 32)} {w : BitVec 32} (ha : opnd T a = .c (.ptr b o)) (hv : opnd T v = .c (.val (U32 w))) (hm : M[b]? = some (.row true (.a32 x))) (hs : szT P t = some 1) (ho : o < x.length) (hM : M.set b (.row true (.a32 (put x o w))) = M')
    (hk : DO P D l ⟨N, T, M'⟩ K) : DO P D (⟨none, .store t a v, ty, pos, af, none⟩ :: l) ⟨N, T, M⟩ K := d_store ha hv hm rfl hs ho (set32 x o w) hM hk
theorem d_store64 {D : Nat} {t : TypeId} {a v : Operand} {b o : Nat} {x : List (BitVec 64)} {w : BitVec 64} (ha : opnd T a = .c (.ptr b o)) (hv : opnd T v = .c (.val (U64 w))) (hm : M[b]? = some (.row true (.a64 x))) (hs : szT P t = some 1) (ho : o < x.length) (hM : M.set b (.row true (.a64 (put x o w))) = M')
    (hk : DO P D l ⟨N, T, M'⟩ K) : DO P D (⟨none, .store t a v, ty, pos, af, none⟩ :: l) ⟨N, T, M⟩ K := d_store ha hv hm rfl hs ho (set64 x o w) hM hk
theorem d_storeI {D : Nat} {t : TypeId} {a v : Operand} {b o : Nat} {x : List Int} {w : Int} (ha : opnd T a = .c (.ptr b o)) (hv : opnd T v = .c (.val (.int .i64 w))) (hm : M[b]? = some (.row true (.ai x))) (hs : szT P t = some 1) (ho : o < x.length) (hM : M.set b (.row true (.ai (puti x o w))) = M')
    (hk : DO P D l ⟨N, T, M'⟩ K) : DO P D (⟨none, .store t a v, ty, pos, af, none⟩ :: l) ⟨N, T, M⟩ K := d_store ha hv hm rfl hs ho (seti x o w) hM hk
theorem SW.line {s0 : St} {D : Nat} : ∀ {l : List Oper} {s : St}, SW P D K l s → s.n = s0.n → ∃ (A : Nat → St) (V : Nat → AV), A 0 = s ∧
    (∀ i o, l[i]? = some o → isStore o = false → evVal P (opnd (A i).t) (deadMem D) o.op = some (V i) ∧ A (i + 1) = ⟨s0.n, putT (A i).t o.dst (V i), (A i).m⟩) ∧
    (∀ i o, l[i]? = some o → isStore o = true → ∃ v m', evMem P (opnd (A i).t) (A i).m o.op = some (v, m') ∧ m'.length = (A i).m.length ∧ A (i + 1) = ⟨s0.n, (A i).t, m'⟩) ∧ K (A l.length)
  | [], s, h, _ => ⟨fun _ => s, fun _ => .c .any, rfl, fun i o h => by simp at h, fun i o h => by simp at h, h⟩
  | o :: l, s, h, hn => by
    rcases h with ⟨hs, v, m', hv, hl, hr⟩ | ⟨hs, v, hv, hr⟩
    · obtain ⟨A, V, h0, h1, h2, h3⟩ := SW.line (s := ⟨s.n, s.t, m'⟩) hr hn
      refine ⟨fun i => match i with | 0 => s | i + 1 => A i, fun i => match i with | 0 => .c .any | i + 1 => V i, rfl, fun i o' h hs' => ?_, fun i o' h hs' => ?_, h3⟩
      · cases i with
        | zero => simp at h; subst h; rw [hs] at hs'; cases hs'
        | succ i => exact h1 i o' (by simpa using h) hs'
      · cases i with
        | zero => simp at h; subst h; exact ⟨v, m', hv, hl, by simp only; rw [h0, hn]⟩
        | succ i => exact h2 i o' (by simpa using h) hs'
    · obtain ⟨A, V, h0, h1, h2, h3⟩ := SW.line (s := ⟨s.n, putT s.t o.dst v, s.m⟩) hr hn
      refine ⟨fun i => match i with | 0 => s | i + 1 => A i, fun i => match i with | 0 => v | i + 1 => V i, rfl, fun i o' h hs' => ?_, fun i o' h hs' => ?_, h3⟩
      · cases i with
        | zero => simp at h; subst h; exact ⟨hv, by simp only; rw [h0, hn]⟩
        | succ i => exact h1 i o' (by simpa using h) hs'
      · cases i with
        | zero => simp at h; subst h; rw [hs] at hs'; cases hs'
        | succ i => exact h2 i o' (by simpa using h) hs'
theorem c_stores {id : Nat} {l : List Oper} {s : St} {Φ : Ex → St → Prop} (hm : P.follows .mixedOrders = true) (hok : Region.okStores l.toArray s.n = true) (h : DO P s.m.length l s (Φ .normal)) : WC P k (.region id l.toArray true) s Φ := by
  obtain ⟨A, V, h0, h1, h2, h3⟩ := SW.line (s0 := s) h.h rfl
  exact ⟨⟨.normal, _, Ev.stores A V hm hok h0 (fun i o ho => h1 i o (by simpa using ho)) (fun i o ho => h2 i o (by simpa using ho)), by simpa using h3⟩⟩
theorem v_move {x : Operand} {v : AV} (h : opnd T x = v) : evVal P (opnd T) M (.move x) = some v := by rw [← h]; rfl
theorem v_moveC {x : Operand} {v : Cell} (h : opnd T x = .c v) : evVal P (opnd T) M (.move x) = some ((.c v)) :=
  v_move h
theorem v_moveA {x : Operand} {v : Arr} (h : opnd T x = .agg v) : evVal P (opnd T) M (.move x) = some ((.agg v)) :=
  v_move h
theorem v_moveT {x : Operand} {v : List AV} (h : opnd T x = .tup v) : evVal P (opnd T) M (.move x) = some ((.tup v)) :=
  v_move h
theorem v_assign {x : Operand} {v : AV} (h : opnd T x = v) : evVal P (opnd T) M (.assign x) = some (v) :=
  (by rw [← h]; rfl)
theorem v_assignC {x : Operand} {v : Cell} (h : opnd T x = .c v) : evVal P (opnd T) M (.assign x) = some ((.c v)) :=
  v_assign h
theorem v_assignA {x : Operand} {v : Arr} (h : opnd T x = .agg v) : evVal P (opnd T) M (.assign x) = some ((.agg v)) :=
  v_assign h
theorem v_assignT {x : Operand} {v : List AV} (h : opnd T x = .tup v) : evVal P (opnd T) M (.assign x) = some ((.tup v)) :=
  v_assign h
theorem bin_of {op : BinOp} {t : TypeId} {x y : Operand} {a b c : Value} (h : binOp op t a b = (pure c : Sem Value)) (hg : eqGuard op t x y a b = (pure () : Sem Unit)) : bin op t x y a b = (pure c : Sem Value) := by
  unfold bin; rw [hg, h]; rfl
theorem evBin_val {op : BinOp} {t : TypeId} {x y : Operand} {a b c : Value} (hb : ∀ p, a ≠ .bool p) (h : bin op t x y a b = (pure c : Sem Value)) : evBin P op t x y (.c (.val a)) (.c (.val b)) = some (.c (.val c)) := by
  unfold evBin
  simp only
  split
  · rename_i p q; exact absurd rfl (hb p)
  · rename_i p q; exact absurd rfl (hb p)
  · rw [h]; rfl
theorem v_bin {op : BinOp} {t t' : TypeId} {x y : Operand} {ka kb : IntKind} {a b : Int} {c : Value} (hx : opnd T x = .c (.val (.int ka a))) (hy : opnd T y = .c (.val (.int kb b))) (h : binOp op t (.int ka a) (.int kb b) = (pure c : Sem Value)) : evVal P (opnd T) M (.binOp op t x y t') = some ((.c (.val c))) :=
  (by
    show evBin P op t x y (opnd T x) (opnd T y) = _
    rw [hx, hy]
    refine evBin_val (fun p h => by cases h) (bin_of h ?_)
    unfold eqGuard
    cases op <;> rfl)
theorem v_idxA {t n el : Nat} {x i : Operand} {b o sz : Nat} {kd : IntKind} {j : Nat} (hx : opnd T x = .c (.ptr b o)) (hi : opnd T i = .c (.val (.int kd (j : Int)))) (hu : P.underlying t = some (.array n el)) (hs : szT P el = some sz) (h0 : j < n) : evVal P (opnd T) M (.indexAddr t x i) = some ((.c (.ptr b (o + j * sz)))) :=
  (by
    show evIndex P t (opnd T x) (opnd T i) = _
    rw [hx, hi]
    have h1 : (0 : Int) ≤ (j : Int) ∧ (j : Int) < (n : Int) := by omega
    simp only [evIndex, hu, intOf?, hs, h1, and_self, if_true, Int.toNat_natCast])
theorem v_idxA1 {t n el : Nat} {x i : Operand} {b : Nat} {kd : IntKind} {j : Nat} (hx : opnd T x = .c (.ptr b 0)) (hi : opnd T i = .c (.val (.int kd (j : Int)))) (hu : P.underlying t = some (.array n el)) (hs : szT P el = some 1) (h0 : j < n) : evVal P (opnd T) M (.indexAddr t x i) = some ((.c (.ptr b j))) :=
  (v_idxA hx hi hu hs h0).trans (by rw [Nat.zero_add, Nat.mul_one])
theorem v_idxS {t el : Nat} {x i : Operand} {b o len cap sz : Nat} {kd : IntKind} {j : Nat} (hx : opnd T x = .c (.sl b o len cap sz)) (hi : opnd T i = .c (.val (.int kd (j : Int)))) (hu : P.underlying t = some (.slice el)) (hs : szT P el = some sz) (h0 : j < len) : evVal P (opnd T) M (.indexAddr t x i) = some ((.c (.ptr b (o + j * sz)))) :=
  (by
    show evIndex P t (opnd T x) (opnd T i) = _
    rw [hx, hi]
    have h1 : (0 : Int) ≤ (j : Int) ∧ (j : Int) < (len : Int) := by omega
    simp only [evIndex, hu, intOf?, hs, h1, and_self, if_true, Int.toNat_natCast])
theorem v_idxS1 {t el : Nat} {x i : Operand} {b len cap : Nat} {kd : IntKind} {j : Nat} (hx : opnd T x = .c (.sl b 0 len cap 1)) (hi : opnd T i = .c (.val (.int kd (j : Int)))) (hu : P.underlying t = some (.slice el)) (hs : szT P el = some 1) (h0 : j < len) : evVal P (opnd T) M (.indexAddr t x i) = some ((.c (.ptr b j))) :=
  (v_idxS hx hi hu hs h0).trans (by rw [Nat.zero_add, Nat.mul_one])
theorem v_idxSo {t el : Nat} {x i : Operand} {b o len cap : Nat} {kd : IntKind} {j : Nat} (hx : opnd T x = .c (.sl b o len cap 1)) (hi : opnd T i = .c (.val (.int kd (j : Int)))) (hu : P.underlying t = some (.slice el)) (hs : szT P el = some 1) (h0 : j < len) : evVal P (opnd T) M (.indexAddr t x i) = some ((.c (.ptr b (o + j)))) :=
  (v_idxS hx hi hu hs h0).trans (by rw [Nat.mul_one])
/-- One cell is read. -/
theorem v_load {t : TypeId} {a : Operand} {b o : Nat} {own : Bool} {x : Arr} {c : Cell} (ha : opnd T a = .c (.ptr b o)) (hm : M[b]? = some (.row own x)) (hr : isRowT P t = some false) (ho : o < x.size) (hg : x.get o = c) : evVal P (opnd T) M (.load t a) = some ((.c c)) :=
  (by
    simp only [evVal, ha, hm, partA, hr, ho, if_true, hg])
theorem v_load8 {t : TypeId} {a : Operand} {b o : Nat} {own : Bool} {x : List (BitVec 8)} (ha : opnd T a = .c (.ptr b o)) (hm : M[b]? = some (.row own (.a8 x))) (hr : isRowT P t = some false) (ho : o < x.length) : evVal P (opnd T) M (.load t a) = some ((.c (.val (U8 (nth x o))))) :=
  v_load ha hm hr ho rfl
theorem v_load32 {t : TypeId} {a : Operand} {b o : Nat} {own : Bool} {x : List (BitVec 32)} (ha : opnd T a = .c (.ptr b o)) (hm : M[b]? = some (.row own (.a32 x))) (hr : isRowT P t = some false) (ho : o < x.length) : evVal P (opnd T) M (.load t a) = some ((.c (.val (U32 (nth x o))))) :=
  v_load ha hm hr ho rfl
theorem v_load64 {t : TypeId} {a : Operand} {b o : Nat} {own : Bool} {x : List (BitVec 64)} (ha : opnd T a = .c (.ptr b o)) (hm : M[b]? = some (.row own (.a64 x))) (hr : isRowT P t = some false) (ho : o < x.length) : evVal P (opnd T) M (.load t a) = some ((.c (.val (U64 (nth x o))))) :=
  v_load ha hm hr ho rfl
theorem v_loadI {t : TypeId} {a : Operand} {b o : Nat} {own : Bool} {x : List (Int)} (ha : opnd T a = .c (.ptr b o)) (hm : M[b]? = some (.row own (.ai x))) (hr : isRowT P t = some false) (ho : o < x.length) : evVal P (opnd T) M (.load t a) = some ((.c (.val (.int .i64 (geti x o))))) :=
  v_load ha hm hr ho rfl
/-- A whole row is read. -/
theorem v_loadR {t : TypeId} {a : Operand} {b n : Nat} {own : Bool} {x : Arr} (ha : opnd T a = .c (.ptr b 0)) (hm : M[b]? = some (.row own x)) (hr : isRowT P t = some true) (hs : szT P t = some n) (hx : x.size = n) (h0 : 0 < n) : evVal P (opnd T) M (.load t a) = some ((.agg x)) :=
  (by
    simp [evVal, ha, hm, partA, hr, hs, hx, h0, winA])
/-- One cell is written. -/
theorem s_store {t : TypeId} {a v : Operand} {b o : Nat} {x z : Arr} {c : Cell} (ha : opnd T a = .c (.ptr b o)) (hv : opnd T v = .c c) (hm : M[b]? = some (.row true x)) (h1 : c.one = true) (hs : szT P t = some 1) (ho : o < x.size) (hz : x.set o c = some z) (hM : M.set b (.row true z) = M')
    (hk : WO P k ops l ⟨N, T, M'⟩ K) : WO P k ops (⟨none, .store t a v, ty, pos, af, none⟩ :: l) ⟨N, T, M⟩ K :=
  s_mem0 (v := .c .any) (by
    simp [evMem, evStore, ha, hv, hm, h1, hs, ho, hz, hM]) hk
/-- A whole row is written. -/
theorem s_storeR {t : TypeId} {a v : Operand} {b : Nat} {x y : Arr} (ha : opnd T a = .c (.ptr b 0)) (hv : opnd T v = .agg y) (hm : M[b]? = some (.row true x)) (h1 : y.one = true) {n : Nat} (hs : szT P t = some n) (hy : y.size = n) (hx : x.size = n) (hM : M.set b (.row true y) = M')
    (hk : WO P k ops l ⟨N, T, M'⟩ K) : WO P k ops (⟨none, .store t a v, ty, pos, af, none⟩ :: l) ⟨N, T, M⟩ K :=
  s_mem0 (v := .c .any) (by
    simp [evMem, evStore, ha, hv, hm, h1, hs, hx, hy, hM]) hk
theorem s_store8 {t : TypeId} {a v : Operand} {b o : Nat} {x : List (BitVec 8)} {w : BitVec 8} (ha : opnd T a = .c (.ptr b o)) (hv : opnd T v = .c (.val (U8 w))) (hm : M[b]? = some (.row true (.a8 x))) (hs : szT P t = some 1) (ho : o < x.length) (hM : M.set b (.row true (.a8 (put x o w))) = M')
    (hk : WO P k ops l ⟨N, T, M'⟩ K) : WO P k ops (⟨none, .store t a v, ty, pos, af, none⟩ :: l) ⟨N, T, M⟩ K := s_store ha hv hm rfl hs ho (set8 x o w) hM hk
theorem s_store32 {t : TypeId} {a v : Operand} {b o : Nat} {x : List (BitVec 32)} {w : BitVec 32} (ha : opnd T a = .c (.ptr b o)) (hv : opnd T v = .c (.val (U32 w))) (hm : M[b]? = some (.row true (.a32 x))) (hs : szT P t = some 1) (ho : o < x.length) (hM : M.set b (.row true (.a32 (put x o w))) = M')
    (hk : WO P k ops l ⟨N, T, M'⟩ K) : WO P k ops (⟨none, .store t a v, ty, pos, af, none⟩ :: l) ⟨N, T, M⟩ K := s_store ha hv hm rfl hs ho (set32 x o w) hM hk
theorem s_store64 {t : TypeId} {a v : Operand} {b o : Nat} {x : List (BitVec 64)} {w : BitVec 64} (ha : opnd T a = .c (.ptr b o)) (hv : opnd T v = .c (.val (U64 w))) (hm : M[b]? = some (.row true (.a64 x))) (hs : szT P t = some 1) (ho : o < x.length) (hM : M.set b (.row true (.a64 (put x o w))) = M')
    (hk : WO P k ops l ⟨N, T, M'⟩ K) : WO P k ops (⟨none, .store t a v, ty, pos, af, none⟩ :: l) ⟨N, T, M⟩ K := s_store ha hv hm rfl hs ho (set64 x o w) hM hk
theorem s_storeI {t : TypeId} {a v : Operand} {b o : Nat} {x : List (Int)} {w : Int} (ha : opnd T a = .c (.ptr b o)) (hv : opnd T v = .c (.val (.int .i64 w))) (hm : M[b]? = some (.row true (.ai x))) (hs : szT P t = some 1) (ho : o < x.length) (hM : M.set b (.row true (.ai (puti x o w))) = M')
    (hk : WO P k ops l ⟨N, T, M'⟩ K) : WO P k ops (⟨none, .store t a v, ty, pos, af, none⟩ :: l) ⟨N, T, M⟩ K := s_store ha hv hm rfl hs ho (seti x o w) hM hk
theorem m_alloc {t : TypeId} {x : Arr} {n : Nat} (hz : ∀ m, evAlloc P m t = some (.c (.ptr m.length 0), m ++ [.row true x])) (hn : M.length = n) : evMem P (opnd T) M (.alloc t) = some (.c (.ptr n 0), M ++ [.row true x]) := by subst hn; exact hz M
theorem m_box {t : TypeId} {v : Operand} {x : Arr} {n : Nat} (hv : rowOfV (opnd T v) = some x) (hn : M.length = n) : evMem P (opnd T) M (.box t v) = some (.c (.ptr n 0), M ++ [.row true x]) := by
  show evBox M (opnd T v) = _
  subst hn
  simp only [evBox, hv, Option.map_some]
theorem v_conv {s t : TypeId} {x : Operand} {k1 k2 : IntKind} {a b : Int} {ds : TypeDesc} (hx : opnd T x = .c (.val (.int k1 a))) (hs : P.underlying s = some ds) (ht : P.underlying t = some (.int k2)) (h : k2.wrap a = b) : evVal P (opnd T) M (.convert s t x) = some (.c (.val (.int k2 b))) := by
  show evConv P s t (opnd T x) = _
  rw [hx]
  simp only [evConv, hs, ht, h]
theorem v_extract {x : Operand} {i : Nat} {vs : List AV} {v : AV} (hx : opnd T x = .tup vs) (hi : vs[i]? = some v) : evVal P (opnd T) M (.extract x i) = some (v) :=
  (by
    simp only [evVal, hx, hi])
end
section
variable {P : Program} {k : Nat} {s s1 : St} {a b : Code} {Φ : Ex → St → Prop}
theorem c_region {id : Nat} {l : List Oper} (h : WO P k l.toArray l s (Φ .normal)) : WC P k (.region id l.toArray false) s Φ := let ⟨r, h1, h2⟩ := h.h; ⟨⟨.normal, r, Ev.region h1, h2⟩⟩
def seqK (P : Program) (k : Nat) (b : Code) (Φ : Ex → St → Prop) : Ex → St → Prop
  | .normal, s => WC P k b s Φ
  | e, s => Φ e s
theorem c_seq (h : WC P k a s (seqK P k b Φ)) : WC P k (.seq a b) s Φ := by
  obtain ⟨e, r, h1, h2⟩ := h.h
  cases e with
  | normal => obtain ⟨e', r', h3, h4⟩ := h2.h; exact ⟨⟨e', r', Ev.seq h1 h3, h4⟩⟩
  | exit id => exact ⟨⟨_, r, Ev.seqx h1 (by simp), h2⟩⟩
  | ret => exact ⟨⟨_, r, Ev.seqx h1 (by simp), h2⟩⟩
theorem c_skip (h : Φ .normal s) : WC P k .skip s Φ := ⟨⟨_, _, Ev.cskip, h⟩⟩
theorem c_label {l : Nat} (h : Φ .normal s) : WC P k (.label l) s Φ := ⟨⟨_, _, Ev.label, h⟩⟩
theorem c_exit {id : Nat} (h : Φ (.exit id) s) : WC P k (.exit id) s Φ := ⟨⟨_, _, Ev.exit, h⟩⟩
theorem c_ret (h : Φ .ret s) : WC P k .ret s Φ := ⟨⟨_, _, Ev.ret, h⟩⟩
theorem c_scope (h : WC P k a s Φ) : WC P k (.scope a) s Φ := let ⟨e, r, h1, h2⟩ := h.h; ⟨⟨e, r, Ev.scope h1, h2⟩⟩
def blockK (id : Nat) (Φ : Ex → St → Prop) : Ex → St → Prop
  | .exit i, s => if i = id then Φ .normal s else Φ (.exit i) s
  | e, s => Φ e s
theorem c_block {id : Nat} (h : WC P k a s (blockK id Φ)) : WC P k (.block id a) s Φ := by
  obtain ⟨e, r, h1, h2⟩ := h.h
  refine ⟨⟨_, r, Ev.block h1, ?_⟩⟩
  cases e with
  | normal => exact h2
  | ret => exact h2
  | exit i =>
    simp only [blockK, Ex.block] at h2 ⊢
    split
    · rename_i e; rw [if_pos e] at h2; exact h2
    · rename_i e; rw [if_neg e] at h2; exact h2
theorem c_condT {c : Operand} {t : Bool} (hc : opnd s.t c = .c (.val (.bool t))) (ht : t = true) (h : WC P k a s Φ) : WC P k (.cond c a b) s Φ := let ⟨e, r, h1, h2⟩ := h.h; ⟨⟨e, r, Ev.cond true (by rw [hc, ht]) h1, h2⟩⟩
theorem c_condF {c : Operand} {t : Bool} (hc : opnd s.t c = .c (.val (.bool t))) (ht : t = false) (h : WC P k b s Φ) : WC P k (.cond c a b) s Φ := let ⟨e, r, h1, h2⟩ := h.h; ⟨⟨e, r, Ev.cond false (by rw [hc, ht]) h1, h2⟩⟩
theorem c_clean (keep : List Nat) (hc : clean k keep s = some s1) (h : WC P k a s1 Φ) : WC P k a s Φ := let ⟨e, r, h1, h2⟩ := h.h; ⟨⟨e, r, Ev.clean keep hc h1, h2⟩⟩
theorem c_mono {Φ' : Ex → St → Prop} (h : WC P k a s Φ') (hm : ∀ e r, Φ' e r → Φ e r) : WC P k a s Φ := let ⟨e, r, h1, h2⟩ := h.h; ⟨⟨e, r, h1, hm _ _ h2⟩⟩
/-- A round leads from one state of the loop to the next. -/
def roundK (k : Nat) (keep : List Nat) {σ : Type} (I : σ → St) (y : σ) : Ex → St → Prop
  | .normal, s => ∃ x, clean k keep s = some (I x) ∧ x = y
  | _, _ => False
def endK (Φ : Ex → St → Prop) : Ex → St → Prop
  | .normal, _ => False
  | e, s => Φ e s
/-- A loop of n rounds. -/
theorem c_loop (keep : List Nat) {σ : Type} (I : σ → St) (f : Nat → σ) (n : Nat) {c : Code} {s0 : St} (h0 : s0 = I (f 0)) (hstep : ∀ j, j < n → WC P k c (I (f j)) (roundK k keep I (f (j + 1)))) (hend : WC P k c (I (f n)) (endK Φ)) : WC P k (.loop c) s0 Φ := by
  subst h0
  have key : ∀ d j, j + d = n → WC P k (.loop c) (I (f j)) Φ := by
    intro d
    induction d with
    | zero =>
      intro j hj
      obtain rfl : j = n := by omega
      obtain ⟨e, r, h1, h2⟩ := hend.h
      cases e with
      | normal => exact h2.elim
      | exit id => exact ⟨⟨_, r, Ev.loopx h1 (by simp), h2⟩⟩
      | ret => exact ⟨⟨_, r, Ev.loopx h1 (by simp), h2⟩⟩
    | succ d ih =>
      intro j hj
      obtain ⟨e, r, h1, h2⟩ := (hstep j (by omega)).h
      cases e with
      | normal =>
        obtain ⟨x, h3, rfl⟩ := h2
        obtain ⟨e', r', h4, h5⟩ := (ih (j + 1) (by omega)).h
        exact ⟨⟨e', r', Ev.loop h1 (Ev.clean keep h3 h4), h5⟩⟩
      | exit id => exact h2.elim
      | ret => exact h2.elim
  exact key n 0 (by omega)
theorem c_loopC (keep : List Nat) {σ : Type} (I : σ → St) (f : Nat → σ) (n : Nat) {c : Code} {s0 : St} (h0 : clean k keep s0 = some (I (f 0))) (hstep : ∀ j, j < n → WC P k c (I (f j)) (roundK k keep I (f (j + 1)))) (hend : WC P k c (I (f n)) (endK Φ)) : WC P k (.loop c) s0 Φ :=
  c_clean keep h0 (c_loop keep I f n rfl hstep hend)
/-- Both arms lead to one state. -/
theorem c_join (keep : List Nat) {σ : Type} (I : σ → St) (y : σ) {c : Operand} {t : Bool} (hc : opnd s.t c = .c (.val (.bool t))) (ha : t = true → WC P k a s (roundK k keep I y)) (hb : t = false → WC P k b s (roundK k keep I y)) (h : Φ .normal (I y)) : WC P k (.cond c a b) s Φ := by
  cases t with
  | true =>
    obtain ⟨e, r, h1, h2⟩ := (ha rfl).h
    cases e with
    | normal => obtain ⟨x, h3, rfl⟩ := h2; exact ⟨⟨_, _, Ev.tidy keep (Ev.cond true hc h1) h3, h⟩⟩
    | exit id => exact h2.elim
    | ret => exact h2.elim
  | false =>
    obtain ⟨e, r, h1, h2⟩ := (hb rfl).h
    cases e with
    | normal => obtain ⟨x, h3, rfl⟩ := h2; exact ⟨⟨_, _, Ev.tidy keep (Ev.cond false hc h1) h3, h⟩⟩
    | exit id => exact h2.elim
    | ret => exact h2.elim
/-- A function's answer. -/
def callK (P : Program) (n : Nat) (rs : List ResultVar) (v : AV) (m' : Mem) : Ex → St → Prop
  | .exit _, _ => False
  | _, s => ∃ vs ids, resList P s rs = some vs ∧ canon n [resV vs] s.m = some ([v], m', ids)
theorem c_call {f : FuncId} {fn : Func} {c : Code} {args : List AV} {m m' : Mem} {v : AV} {N n : Nat} (hf : P.funcs[f]? = some fn) (hb : fn.body = some c) (hN : fn.ntmps = N) (hn : Nat.ble args.length N = true) (hm : m.length = n)
    (h : WC P n c ⟨N, argT args, m⟩ (callK P n fn.results.toList v m')) : Ev P (.call f args m) (.val v m') := by
  subst hm; subst hN
  obtain ⟨e, r, h1, h2⟩ := h.h
  cases e with
  | exit id => exact h2.elim
  | normal => obtain ⟨vs, ids, h3, h4⟩ := h2; exact Ev.call hf hb (Nat.le_of_ble_eq_true hn) h1 (.inl rfl) h3 h4
  | ret => obtain ⟨vs, ids, h3, h4⟩ := h2; exact Ev.call hf hb (Nat.le_of_ble_eq_true hn) h1 (.inr rfl) h3 h4
end
theorem r_row {P : Program} {s : St} {a : Tmp} {ty : TypeId} {b n : Nat} {own : Bool} {x : Arr} (ha : s.t a = .c (.ptr b 0)) (hm : s.m[b]? = some (.row own x)) (hr : isRowT P ty = some true) (hs : szT P ty = some n) (hx : x.size = n) (h0 : 0 < n) : resOne P s (.cell a ty) = some (.agg x) := by
  simp [resOne, ha, hm, partA, hr, hs, hx, h0, winA]
theorem r_cell {P : Program} {s : St} {a : Tmp} {ty : TypeId} {b o : Nat} {own : Bool} {x : Arr} {c : Cell} (ha : s.t a = .c (.ptr b o)) (hm : s.m[b]? = some (.row own x)) (hr : isRowT P ty = some false) (hx : o < x.size) (hc : x.get o = c) : resOne P s (.cell a ty) = some (.c c) := by
  simp [resOne, ha, hm, partA, hr, hx, hc]
theorem r_tmpC {P : Program} {s : St} {t : Tmp} {c : Cell} (h : s.t t = .c c) : resOne P s (.tmp t) = some (.c c) := by simp [resOne, h]
theorem r_tmpA {P : Program} {s : St} {t : Tmp} {x : Arr} (h : s.t t = .agg x) : resOne P s (.tmp t) = some (.agg x) := by simp [resOne, h]
/-- The answer as the caller sees it. -/
def canV (n : Nat) (v : AV) (m : Mem) : Option (List AV × Mem) := (canon n [v] m).map fun r => (r.1, r.2.1)
theorem canV_spec {n : Nat} {v v' : AV} {m m' : Mem} (h : canV n v m = some ([v'], m')) : ∃ ids, canon n [v] m = some ([v'], m', ids) := by
  unfold canV at h
  obtain ⟨⟨a, b, c⟩, h1, h2⟩ := Option.map_eq_some_iff.1 h
  simp only [Prod.mk.injEq] at h2
  obtain ⟨rfl, rfl⟩ := h2
  exact ⟨c, h1⟩
theorem k_0 {P : Program} {n : Nat} {s : St} {v : AV} {m' : Mem} (hc : canV n (.tup []) s.m = some ([v], m')) : callK P n [] v m' .ret s := let ⟨ids, h⟩ := canV_spec hc; ⟨_, ids, rfl, h⟩
theorem k_0n {P : Program} {n : Nat} {s : St} {v : AV} {m' : Mem} (hc : canV n (.tup []) s.m = some ([v], m')) : callK P n [] v m' .normal s := let ⟨ids, h⟩ := canV_spec hc; ⟨_, ids, rfl, h⟩
theorem k_1 {P : Program} {n : Nat} {s : St} {r1 : ResultVar} {v1 v : AV} {m' : Mem} (h1 : resOne P s r1 = some v1) (hc : canV n v1 s.m = some ([v], m')) : callK P n [r1] v m' .ret s := let ⟨ids, h⟩ := canV_spec hc; ⟨[v1], ids, by simp [resList, h1], h⟩
theorem k_2 {P : Program} {n : Nat} {s : St} {r1 r2 : ResultVar} {v1 v2 v : AV} {m' : Mem} (h1 : resOne P s r1 = some v1) (h2 : resOne P s r2 = some v2) (hc : canV n (.tup [v1, v2]) s.m = some ([v], m')) : callK P n [r1, r2] v m' .ret s := let ⟨ids, h⟩ := canV_spec hc; ⟨[v1, v2], ids, by simp [resList, h1, h2], h⟩
theorem k_3 {P : Program} {n : Nat} {s : St} {r1 r2 r3 : ResultVar} {v1 v2 v3 v : AV} {m' : Mem} (h1 : resOne P s r1 = some v1) (h2 : resOne P s r2 = some v2) (h3 : resOne P s r3 = some v3) (hc : canV n (.tup [v1, v2, v3]) s.m = some ([v], m')) : callK P n [r1, r2, r3] v m' .ret s := let ⟨ids, h⟩ := canV_spec hc; ⟨[v1, v2, v3], ids, by simp [resList, h1, h2, h3], h⟩
/-! ### Numbers -/
section
variable {t : TypeId}
theorem addI {a b : Int} (h : -9223372036854775808 ≤ a + b ∧ a + b ≤ 9223372036854775807) : binOp .add t (.int .i64 a) (.int .i64 b) = (pure (.int .i64 (a + b)) : Sem Value) := by
  show (pure (Value.int .i64 (IntKind.i64.wrap (a + b))) : Sem Value) = _
  rw [IntWalk.i64_in _ (by omega)]
theorem subI {a b : Int} (h : -9223372036854775808 ≤ a - b ∧ a - b ≤ 9223372036854775807) : binOp .sub t (.int .i64 a) (.int .i64 b) = (pure (.int .i64 (a - b)) : Sem Value) := by
  show (pure (Value.int .i64 (IntKind.i64.wrap (a - b))) : Sem Value) = _
  rw [IntWalk.i64_in _ (by omega)]
theorem mulI {a b : Int} (h : -9223372036854775808 ≤ a * b ∧ a * b ≤ 9223372036854775807) : binOp .mul t (.int .i64 a) (.int .i64 b) = (pure (.int .i64 (a * b)) : Sem Value) := by
  show (pure (Value.int .i64 (IntKind.i64.wrap (a * b))) : Sem Value) = _
  rw [IntWalk.i64_in _ (by omega)]
theorem lssI {a b : Int} : binOp .lss t (.int .i64 a) (.int .i64 b) = (pure (.bool (decide (a < b))) : Sem Value) := rfl
theorem leqI {a b : Int} : binOp .leq t (.int .i64 a) (.int .i64 b) = (pure (.bool (decide (a ≤ b))) : Sem Value) := rfl
theorem gtrI {a b : Int} : binOp .gtr t (.int .i64 a) (.int .i64 b) = (pure (.bool (decide (b < a))) : Sem Value) := rfl
theorem geqI {a b : Int} : binOp .geq t (.int .i64 a) (.int .i64 b) = (pure (.bool (decide (b ≤ a))) : Sem Value) := rfl
theorem eqlI {a b : Int} : binOp .eql t (.int .i64 a) (.int .i64 b) = (pure (.bool (a == b)) : Sem Value) := rfl
theorem neqI {a b : Int} : binOp .neq t (.int .i64 a) (.int .i64 b) = (pure (.bool (a != b)) : Sem Value) := rfl
theorem addN {a b : Nat} (h : a + b ≤ 9223372036854775807) : binOp .add t (.int .i64 (a : Int)) (.int .i64 (b : Int)) = (pure (.int .i64 ((a + b : Nat) : Int)) : Sem Value) := addI (by omega)
theorem subN {a b : Nat} (h : b ≤ a) (h2 : a ≤ 9223372036854775807) : binOp .sub t (.int .i64 (a : Int)) (.int .i64 (b : Int)) = (pure (.int .i64 ((a - b : Nat) : Int)) : Sem Value) := by
  rw [subI (by omega)]; congr 2; omega
theorem mulN {a b : Nat} (h : a * b ≤ 9223372036854775807) : binOp .mul t (.int .i64 (a : Int)) (.int .i64 (b : Int)) = (pure (.int .i64 ((a * b : Nat) : Int)) : Sem Value) := by
  rw [mulI (by rw [← Int.natCast_mul]; omega)]; rfl
theorem quoN {a b : Nat} (h : 0 < b) (h2 : a ≤ 9223372036854775807) : binOp .quo t (.int .i64 (a : Int)) (.int .i64 (b : Int)) = (pure (.int .i64 ((a / b : Nat) : Int)) : Sem Value) := by
  rw [binOp_quo, Op.intDiv, if_neg (by omega)]
  show (pure (Value.int .i64 (IntKind.i64.wrap ((a / b : Nat) : Int))) : Sem Value) = _
  have hle := Nat.div_le_self a b
  generalize a / b = q at *
  rw [IntWalk.i64_in _ (by omega)]
theorem remN {a b : Nat} (h : 0 < b) (_h2 : a ≤ 9223372036854775807) : binOp .rem t (.int .i64 (a : Int)) (.int .i64 (b : Int)) = (pure (.int .i64 ((a % b : Nat) : Int)) : Sem Value) := by
  rw [binOp_rem, Op.intDiv, if_neg (by omega)]
  rfl
theorem lssN {a b : Nat} : binOp .lss t (.int .i64 (a : Int)) (.int .i64 (b : Int)) = (pure (.bool (decide (a < b))) : Sem Value) := by
  rw [lssI]; congr 2; exact decide_eq_decide.2 (by omega)
theorem leqN {a b : Nat} : binOp .leq t (.int .i64 (a : Int)) (.int .i64 (b : Int)) = (pure (.bool (decide (a ≤ b))) : Sem Value) := by
  rw [leqI]; congr 2; exact decide_eq_decide.2 (by omega)
theorem gtrN {a b : Nat} : binOp .gtr t (.int .i64 (a : Int)) (.int .i64 (b : Int)) = (pure (.bool (decide (b < a))) : Sem Value) := by
  rw [gtrI]; congr 2; exact decide_eq_decide.2 (by omega)
theorem geqN {a b : Nat} : binOp .geq t (.int .i64 (a : Int)) (.int .i64 (b : Int)) = (pure (.bool (decide (b ≤ a))) : Sem Value) := by
  rw [geqI]; congr 2; exact decide_eq_decide.2 (by omega)
theorem eqlN {a b : Nat} : binOp .eql t (.int .i64 (a : Int)) (.int .i64 (b : Int)) = (pure (.bool (decide (a = b))) : Sem Value) := by
  rw [eqlI]; congr 2; rw [Bool.eq_iff_iff]; simp; omega
theorem neqN {a b : Nat} : binOp .neq t (.int .i64 (a : Int)) (.int .i64 (b : Int)) = (pure (.bool (!decide (a = b))) : Sem Value) := by
  rw [neqI]; congr 2; rw [Bool.eq_iff_iff]; simp; omega
/- a literal beside a word -/
theorem add64c {x m : BitVec 64} {n : Int} (h : BitVec.ofInt 64 n = m) : binOp .add t (U64 x) (.int .u64 n) = (pure (U64 (x + m)) : Sem Value) := by rw [add64l, h]
theorem sub64c {x m : BitVec 64} {n : Int} (h : BitVec.ofInt 64 n = m) : binOp .sub t (U64 x) (.int .u64 n) = (pure (U64 (x - m)) : Sem Value) := by rw [sub64l, h]
theorem sub64d {x m : BitVec 64} {n : Int} (h : BitVec.ofInt 64 n = m) : binOp .sub t (.int .u64 n) (U64 x) = (pure (U64 (m - x)) : Sem Value) := by rw [sub64r, h]
theorem mul64c {x m : BitVec 64} {n : Int} (h : BitVec.ofInt 64 n = m) : binOp .mul t (U64 x) (.int .u64 n) = (pure (U64 (x * m)) : Sem Value) := by rw [mul64l, h]
theorem mul64d {x m : BitVec 64} {n : Int} (h : BitVec.ofInt 64 n = m) : binOp .mul t (.int .u64 n) (U64 x) = (pure (U64 (m * x)) : Sem Value) := by rw [mul64r, h]
theorem and64c {x m : BitVec 64} {n : Int} (h : BitVec.ofInt 64 n = m) : binOp .and t (U64 x) (.int .u64 n) = (pure (U64 (x &&& m)) : Sem Value) := by rw [and64l, h]
theorem and32c {x m : BitVec 32} {n : Int} (h : BitVec.ofInt 32 n = m) : binOp .and t (U32 x) (.int .u32 n) = (pure (U32 (x &&& m)) : Sem Value) := by rw [and32l, h]
theorem add32c {x m : BitVec 32} {n : Int} (h : BitVec.ofInt 32 n = m) : binOp .add t (U32 x) (.int .u32 n) = (pure (U32 (x + m)) : Sem Value) := by rw [add32l, h]
theorem mul32d {x m : BitVec 32} {n : Int} (h : BitVec.ofInt 32 n = m) : binOp .mul t (.int .u32 n) (U32 x) = (pure (U32 (m * x)) : Sem Value) := by rw [mul32r, h]
theorem and8c {x m : BitVec 8} {n : Int} (h : BitVec.ofInt 8 n = m) : binOp .and t (U8 x) (.int .u8 n) = (pure (U8 (x &&& m)) : Sem Value) := by rw [and8l, h]
theorem or8c {x m : BitVec 8} {n : Int} (h : BitVec.ofInt 8 n = m) : binOp .or t (U8 x) (.int .u8 n) = (pure (U8 (x ||| m)) : Sem Value) := by rw [or8l, h]
theorem xor8c {x m : BitVec 8} {n : Int} (h : BitVec.ofInt 8 n = m) : binOp .xor t (U8 x) (.int .u8 n) = (pure (U8 (x ^^^ m)) : Sem Value) := by rw [xor8l, h]
theorem shl64n {x : BitVec 64} {kd : IntKind} {n : Nat} : binOp .shl t (U64 x) (.int kd (n : Int)) = (pure (U64 (x <<< n)) : Sem Value) := by rw [shl64 x kd n (by omega), Int.toNat_natCast]
theorem shr64n {x : BitVec 64} {kd : IntKind} {n : Nat} : binOp .shr t (U64 x) (.int kd (n : Int)) = (pure (U64 (x >>> n)) : Sem Value) := by rw [shr64 x kd n (by omega), Int.toNat_natCast]
theorem shl32n {x : BitVec 32} {kd : IntKind} {n : Nat} : binOp .shl t (U32 x) (.int kd (n : Int)) = (pure (U32 (x <<< n)) : Sem Value) := by rw [shl32 x kd n (by omega), Int.toNat_natCast]
theorem shr32n {x : BitVec 32} {kd : IntKind} {n : Nat} : binOp .shr t (U32 x) (.int kd (n : Int)) = (pure (U32 (x >>> n)) : Sem Value) := by rw [shr32 x kd n (by omega), Int.toNat_natCast]
theorem shl8n {x : BitVec 8} {kd : IntKind} {n : Nat} : binOp .shl t (U8 x) (.int kd (n : Int)) = (pure (U8 (x <<< n)) : Sem Value) := by rw [shl8 x kd n (by omega), Int.toNat_natCast]
theorem shr8n {x : BitVec 8} {kd : IntKind} {n : Nat} : binOp .shr t (U8 x) (.int kd (n : Int)) = (pure (U8 (x >>> n)) : Sem Value) := by rw [shr8 x kd n (by omega), Int.toNat_natCast]
theorem gtr64c {x : BitVec 64} {n : Nat} : binOp .gtr t (U64 x) (.int .u64 (n : Int)) = (pure (.bool (decide (n < x.toNat))) : Sem Value) := by rw [gtr64l x n (by omega), Int.toNat_natCast]
theorem eql64c {x m : BitVec 64} {n : Int} (h : BitVec.ofInt 64 n = m) (h0 : 0 ≤ n ∧ n ≤ 18446744073709551615) : binOp .eql t (U64 x) (.int .u64 n) = (pure (.bool (x == m)) : Sem Value) := by rw [eql64l x n h0.1 h0.2, h]
theorem eql8c {x m : BitVec 8} {n : Int} (h : BitVec.ofInt 8 n = m) (h0 : 0 ≤ n ∧ n ≤ 255) : binOp .eql t (U8 x) (.int .u8 n) = (pure (.bool (x == m)) : Sem Value) := by rw [eql8l x n h0.1 h0.2, h]
/- conversions -/
theorem w8_64 (x : BitVec 8) : IntKind.u64.wrap (tn x) = tn (x.setWidth 64) := by rw [wrapU64]; unfold tn; rw [ofInt_wide]
theorem w8_32 (x : BitVec 8) : IntKind.u32.wrap (tn x) = tn (x.setWidth 32) := by rw [wrapU32]; unfold tn; rw [ofInt_wide]
theorem w64_32 (x : BitVec 64) : IntKind.u32.wrap (tn x) = tn (x.setWidth 32) := by rw [wrapU32]; unfold tn; rw [ofInt_wide]
theorem w64_8 (x : BitVec 64) : IntKind.u8.wrap (tn x) = tn (x.setWidth 8) := by rw [wrapU8]; unfold tn; rw [ofInt_wide]
theorem w32_8 (x : BitVec 32) : IntKind.u8.wrap (tn x) = tn (x.setWidth 8) := by rw [wrapU8]; unfold tn; rw [ofInt_wide]
theorem w32_64 (x : BitVec 32) : IntKind.u64.wrap (tn x) = tn (x.setWidth 64) := by rw [wrapU64]; unfold tn; rw [ofInt_wide]
theorem wi_64 (n : Nat) : IntKind.u64.wrap (n : Int) = tn (BitVec.ofNat 64 n) := by rw [wrapU64, BitVec.ofInt_natCast]; rfl
theorem wi_32 (n : Nat) : IntKind.u32.wrap (n : Int) = tn (BitVec.ofNat 32 n) := by rw [wrapU32, BitVec.ofInt_natCast]; rfl
theorem wi_8 (n : Nat) : IntKind.u8.wrap (n : Int) = tn (BitVec.ofNat 8 n) := by rw [wrapU8, BitVec.ofInt_natCast]; rfl
theorem w8_i (x : BitVec 8) : IntKind.i64.wrap (tn x) = ((x.toNat : Nat) : Int) := IntWalk.i64_in _ (by unfold tn; have := x.isLt; omega)
end
section
variable {P : Program} {k N : Nat} {ops : Array Oper} {d : Nat} {ty : TypeId} {pos : String} {af : Array Edge} {l : List Oper} {T : Nat → AV} {M : Mem} {K : St → Prop} {t t' : TypeId} {x y : Operand}
theorem v_add64 {a b : BitVec 64} (hx : opnd T x = .c (.val (U64 a))) (hy : opnd T y = .c (.val (U64 b))) : evVal P (opnd T) M (.binOp .add t x y t') = some ((.c (.val (U64 (a + b))))) :=
  v_bin hx hy (add64 a b)
theorem v_sub64 {a b : BitVec 64} (hx : opnd T x = .c (.val (U64 a))) (hy : opnd T y = .c (.val (U64 b))) : evVal P (opnd T) M (.binOp .sub t x y t') = some ((.c (.val (U64 (a - b))))) :=
  v_bin hx hy (sub64 a b)
theorem v_and64 {a b : BitVec 64} (hx : opnd T x = .c (.val (U64 a))) (hy : opnd T y = .c (.val (U64 b))) : evVal P (opnd T) M (.binOp .and t x y t') = some ((.c (.val (U64 (a &&& b))))) :=
  v_bin hx hy (and64 a b)
theorem v_or64 {a b : BitVec 64} (hx : opnd T x = .c (.val (U64 a))) (hy : opnd T y = .c (.val (U64 b))) : evVal P (opnd T) M (.binOp .or t x y t') = some ((.c (.val (U64 (a ||| b))))) :=
  v_bin hx hy (or64 a b)
theorem v_xor64 {a b : BitVec 64} (hx : opnd T x = .c (.val (U64 a))) (hy : opnd T y = .c (.val (U64 b))) : evVal P (opnd T) M (.binOp .xor t x y t') = some ((.c (.val (U64 (a ^^^ b))))) :=
  v_bin hx hy (xor64 a b)
theorem v_mul64 {a b : BitVec 64} (hx : opnd T x = .c (.val (U64 a))) (hy : opnd T y = .c (.val (U64 b))) : evVal P (opnd T) M (.binOp .mul t x y t') = some ((.c (.val (U64 (a * b))))) :=
  v_bin hx hy (mul64 a b)
theorem v_add32 {a b : BitVec 32} (hx : opnd T x = .c (.val (U32 a))) (hy : opnd T y = .c (.val (U32 b))) : evVal P (opnd T) M (.binOp .add t x y t') = some ((.c (.val (U32 (a + b))))) :=
  v_bin hx hy (add32 a b)
theorem v_sub32 {a b : BitVec 32} (hx : opnd T x = .c (.val (U32 a))) (hy : opnd T y = .c (.val (U32 b))) : evVal P (opnd T) M (.binOp .sub t x y t') = some ((.c (.val (U32 (a - b))))) :=
  v_bin hx hy (sub32 a b)
theorem v_and32 {a b : BitVec 32} (hx : opnd T x = .c (.val (U32 a))) (hy : opnd T y = .c (.val (U32 b))) : evVal P (opnd T) M (.binOp .and t x y t') = some ((.c (.val (U32 (a &&& b))))) :=
  v_bin hx hy (and32 a b)
theorem v_or32 {a b : BitVec 32} (hx : opnd T x = .c (.val (U32 a))) (hy : opnd T y = .c (.val (U32 b))) : evVal P (opnd T) M (.binOp .or t x y t') = some ((.c (.val (U32 (a ||| b))))) :=
  v_bin hx hy (or32 a b)
theorem v_xor32 {a b : BitVec 32} (hx : opnd T x = .c (.val (U32 a))) (hy : opnd T y = .c (.val (U32 b))) : evVal P (opnd T) M (.binOp .xor t x y t') = some ((.c (.val (U32 (a ^^^ b))))) :=
  v_bin hx hy (xor32 a b)
theorem v_mul32 {a b : BitVec 32} (hx : opnd T x = .c (.val (U32 a))) (hy : opnd T y = .c (.val (U32 b))) : evVal P (opnd T) M (.binOp .mul t x y t') = some ((.c (.val (U32 (a * b))))) :=
  v_bin hx hy (mul32 a b)
theorem v_add8 {a b : BitVec 8} (hx : opnd T x = .c (.val (U8 a))) (hy : opnd T y = .c (.val (U8 b))) : evVal P (opnd T) M (.binOp .add t x y t') = some ((.c (.val (U8 (a + b))))) :=
  v_bin hx hy (add8 a b)
theorem v_sub8 {a b : BitVec 8} (hx : opnd T x = .c (.val (U8 a))) (hy : opnd T y = .c (.val (U8 b))) : evVal P (opnd T) M (.binOp .sub t x y t') = some ((.c (.val (U8 (a - b))))) :=
  v_bin hx hy (sub8 a b)
theorem v_and8 {a b : BitVec 8} (hx : opnd T x = .c (.val (U8 a))) (hy : opnd T y = .c (.val (U8 b))) : evVal P (opnd T) M (.binOp .and t x y t') = some ((.c (.val (U8 (a &&& b))))) :=
  v_bin hx hy (and8 a b)
theorem v_or8 {a b : BitVec 8} (hx : opnd T x = .c (.val (U8 a))) (hy : opnd T y = .c (.val (U8 b))) : evVal P (opnd T) M (.binOp .or t x y t') = some ((.c (.val (U8 (a ||| b))))) :=
  v_bin hx hy (or8 a b)
theorem v_xor8 {a b : BitVec 8} (hx : opnd T x = .c (.val (U8 a))) (hy : opnd T y = .c (.val (U8 b))) : evVal P (opnd T) M (.binOp .xor t x y t') = some ((.c (.val (U8 (a ^^^ b))))) :=
  v_bin hx hy (xor8 a b)
theorem v_add64c {a m : BitVec 64} {i : Int} (hx : opnd T x = .c (.val (U64 a))) (hy : opnd T y = .c (.val (.int .u64 i))) (h : BitVec.ofInt 64 i = m) : evVal P (opnd T) M (.binOp .add t x y t') = some ((.c (.val (U64 (a + m))))) :=
  v_bin hx hy (add64c h)
theorem v_sub64c {a m : BitVec 64} {i : Int} (hx : opnd T x = .c (.val (U64 a))) (hy : opnd T y = .c (.val (.int .u64 i))) (h : BitVec.ofInt 64 i = m) : evVal P (opnd T) M (.binOp .sub t x y t') = some ((.c (.val (U64 (a - m))))) :=
  v_bin hx hy (sub64c h)
theorem v_mul64c {a m : BitVec 64} {i : Int} (hx : opnd T x = .c (.val (U64 a))) (hy : opnd T y = .c (.val (.int .u64 i))) (h : BitVec.ofInt 64 i = m) : evVal P (opnd T) M (.binOp .mul t x y t') = some ((.c (.val (U64 (a * m))))) :=
  v_bin hx hy (mul64c h)
theorem v_and64c {a m : BitVec 64} {i : Int} (hx : opnd T x = .c (.val (U64 a))) (hy : opnd T y = .c (.val (.int .u64 i))) (h : BitVec.ofInt 64 i = m) : evVal P (opnd T) M (.binOp .and t x y t') = some ((.c (.val (U64 (a &&& m))))) :=
  v_bin hx hy (and64c h)
theorem v_add32c {a m : BitVec 32} {i : Int} (hx : opnd T x = .c (.val (U32 a))) (hy : opnd T y = .c (.val (.int .u32 i))) (h : BitVec.ofInt 32 i = m) : evVal P (opnd T) M (.binOp .add t x y t') = some ((.c (.val (U32 (a + m))))) :=
  v_bin hx hy (add32c h)
theorem v_and32c {a m : BitVec 32} {i : Int} (hx : opnd T x = .c (.val (U32 a))) (hy : opnd T y = .c (.val (.int .u32 i))) (h : BitVec.ofInt 32 i = m) : evVal P (opnd T) M (.binOp .and t x y t') = some ((.c (.val (U32 (a &&& m))))) :=
  v_bin hx hy (and32c h)
theorem v_and8c {a m : BitVec 8} {i : Int} (hx : opnd T x = .c (.val (U8 a))) (hy : opnd T y = .c (.val (.int .u8 i))) (h : BitVec.ofInt 8 i = m) : evVal P (opnd T) M (.binOp .and t x y t') = some ((.c (.val (U8 (a &&& m))))) :=
  v_bin hx hy (and8c h)
theorem v_or8c {a m : BitVec 8} {i : Int} (hx : opnd T x = .c (.val (U8 a))) (hy : opnd T y = .c (.val (.int .u8 i))) (h : BitVec.ofInt 8 i = m) : evVal P (opnd T) M (.binOp .or t x y t') = some ((.c (.val (U8 (a ||| m))))) :=
  v_bin hx hy (or8c h)
theorem v_xor8c {a m : BitVec 8} {i : Int} (hx : opnd T x = .c (.val (U8 a))) (hy : opnd T y = .c (.val (.int .u8 i))) (h : BitVec.ofInt 8 i = m) : evVal P (opnd T) M (.binOp .xor t x y t') = some ((.c (.val (U8 (a ^^^ m))))) :=
  v_bin hx hy (xor8c h)
theorem v_sub64d {a m : BitVec 64} {i : Int} (hx : opnd T x = .c (.val (.int .u64 i))) (hy : opnd T y = .c (.val (U64 a))) (h : BitVec.ofInt 64 i = m) : evVal P (opnd T) M (.binOp .sub t x y t') = some ((.c (.val (U64 (m - a))))) :=
  v_bin hx hy (sub64d h)
theorem v_mul64d {a m : BitVec 64} {i : Int} (hx : opnd T x = .c (.val (.int .u64 i))) (hy : opnd T y = .c (.val (U64 a))) (h : BitVec.ofInt 64 i = m) : evVal P (opnd T) M (.binOp .mul t x y t') = some ((.c (.val (U64 (m * a))))) :=
  v_bin hx hy (mul64d h)
theorem v_mul32d {a m : BitVec 32} {i : Int} (hx : opnd T x = .c (.val (.int .u32 i))) (hy : opnd T y = .c (.val (U32 a))) (h : BitVec.ofInt 32 i = m) : evVal P (opnd T) M (.binOp .mul t x y t') = some ((.c (.val (U32 (m * a))))) :=
  v_bin hx hy (mul32d h)
theorem v_shl64n {a : BitVec 64} {kd : IntKind} {j : Nat} (hx : opnd T x = .c (.val (U64 a))) (hy : opnd T y = .c (.val (.int kd (j : Int)))) : evVal P (opnd T) M (.binOp .shl t x y t') = some ((.c (.val (U64 (a <<< j))))) :=
  v_bin hx hy (shl64n)
theorem v_shr64n {a : BitVec 64} {kd : IntKind} {j : Nat} (hx : opnd T x = .c (.val (U64 a))) (hy : opnd T y = .c (.val (.int kd (j : Int)))) : evVal P (opnd T) M (.binOp .shr t x y t') = some ((.c (.val (U64 (a >>> j))))) :=
  v_bin hx hy (shr64n)
theorem v_shl32n {a : BitVec 32} {kd : IntKind} {j : Nat} (hx : opnd T x = .c (.val (U32 a))) (hy : opnd T y = .c (.val (.int kd (j : Int)))) : evVal P (opnd T) M (.binOp .shl t x y t') = some ((.c (.val (U32 (a <<< j))))) :=
  v_bin hx hy (shl32n)
theorem v_shr32n {a : BitVec 32} {kd : IntKind} {j : Nat} (hx : opnd T x = .c (.val (U32 a))) (hy : opnd T y = .c (.val (.int kd (j : Int)))) : evVal P (opnd T) M (.binOp .shr t x y t') = some ((.c (.val (U32 (a >>> j))))) :=
  v_bin hx hy (shr32n)
theorem v_shl8n {a : BitVec 8} {kd : IntKind} {j : Nat} (hx : opnd T x = .c (.val (U8 a))) (hy : opnd T y = .c (.val (.int kd (j : Int)))) : evVal P (opnd T) M (.binOp .shl t x y t') = some ((.c (.val (U8 (a <<< j))))) :=
  v_bin hx hy (shl8n)
theorem v_shr8n {a : BitVec 8} {kd : IntKind} {j : Nat} (hx : opnd T x = .c (.val (U8 a))) (hy : opnd T y = .c (.val (.int kd (j : Int)))) : evVal P (opnd T) M (.binOp .shr t x y t') = some ((.c (.val (U8 (a >>> j))))) :=
  v_bin hx hy (shr8n)
theorem v_shl64w {a : BitVec 64} {b : BitVec 64} (hx : opnd T x = .c (.val (U64 a))) (hy : opnd T y = .c (.val (U64 b))) : evVal P (opnd T) M (.binOp .shl t x y t') = some ((.c (.val (U64 (a <<< b.toNat))))) :=
  v_bin hx hy (shl64w a b)
theorem v_shr64w {a : BitVec 64} {b : BitVec 64} (hx : opnd T x = .c (.val (U64 a))) (hy : opnd T y = .c (.val (U64 b))) : evVal P (opnd T) M (.binOp .shr t x y t') = some ((.c (.val (U64 (a >>> b.toNat))))) :=
  v_bin hx hy (shr64w a b)
theorem v_shl32w {a : BitVec 32} {b : BitVec 64} (hx : opnd T x = .c (.val (U32 a))) (hy : opnd T y = .c (.val (U64 b))) : evVal P (opnd T) M (.binOp .shl t x y t') = some ((.c (.val (U32 (a <<< b.toNat))))) :=
  v_bin hx hy (shl32w a b)
theorem v_shr32w {a : BitVec 32} {b : BitVec 64} (hx : opnd T x = .c (.val (U32 a))) (hy : opnd T y = .c (.val (U64 b))) : evVal P (opnd T) M (.binOp .shr t x y t') = some ((.c (.val (U32 (a >>> b.toNat))))) :=
  v_bin hx hy (shr32w a b)
theorem v_eql64 {a b : BitVec 64} (hx : opnd T x = .c (.val (U64 a))) (hy : opnd T y = .c (.val (U64 b))) : evVal P (opnd T) M (.binOp .eql t x y t') = some ((.c (.val (.bool (a == b))))) :=
  v_bin hx hy (eql64 a b)
theorem v_neq64 {a b : BitVec 64} (hx : opnd T x = .c (.val (U64 a))) (hy : opnd T y = .c (.val (U64 b))) : evVal P (opnd T) M (.binOp .neq t x y t') = some ((.c (.val (.bool (a != b))))) :=
  v_bin hx hy (neq64 a b)
theorem v_eql64c {a m : BitVec 64} {i : Int} (hx : opnd T x = .c (.val (U64 a))) (hy : opnd T y = .c (.val (.int .u64 i))) (h : BitVec.ofInt 64 i = m) (h0 : 0 ≤ i ∧ i ≤ 18446744073709551615) : evVal P (opnd T) M (.binOp .eql t x y t') = some ((.c (.val (.bool (a == m))))) :=
  v_bin hx hy (eql64c h h0)
theorem v_eql8 {a b : BitVec 8} (hx : opnd T x = .c (.val (U8 a))) (hy : opnd T y = .c (.val (U8 b))) : evVal P (opnd T) M (.binOp .eql t x y t') = some ((.c (.val (.bool (a == b))))) :=
  v_bin hx hy (eql8 a b)
theorem v_neq8 {a b : BitVec 8} (hx : opnd T x = .c (.val (U8 a))) (hy : opnd T y = .c (.val (U8 b))) : evVal P (opnd T) M (.binOp .neq t x y t') = some ((.c (.val (.bool (a != b))))) :=
  v_bin hx hy (neq8 a b)
theorem v_eql8c {a m : BitVec 8} {i : Int} (hx : opnd T x = .c (.val (U8 a))) (hy : opnd T y = .c (.val (.int .u8 i))) (h : BitVec.ofInt 8 i = m) (h0 : 0 ≤ i ∧ i ≤ 255) : evVal P (opnd T) M (.binOp .eql t x y t') = some ((.c (.val (.bool (a == m))))) :=
  v_bin hx hy (eql8c h h0)
theorem v_gtr64c {a : BitVec 64} {j : Nat} (hx : opnd T x = .c (.val (U64 a))) (hy : opnd T y = .c (.val (.int .u64 (j : Int)))) : evVal P (opnd T) M (.binOp .gtr t x y t') = some ((.c (.val (.bool (decide (j < a.toNat)))))) :=
  v_bin hx hy (gtr64c)
theorem v_lssN {a b : Nat} (hx : opnd T x = .c (.val (.int .i64 (a : Int)))) (hy : opnd T y = .c (.val (.int .i64 (b : Int)))) : evVal P (opnd T) M (.binOp .lss t x y t') = some ((.c (.val (.bool (decide (a < b)))))) :=
  v_bin hx hy (lssN)
theorem v_leqN {a b : Nat} (hx : opnd T x = .c (.val (.int .i64 (a : Int)))) (hy : opnd T y = .c (.val (.int .i64 (b : Int)))) : evVal P (opnd T) M (.binOp .leq t x y t') = some ((.c (.val (.bool (decide (a ≤ b)))))) :=
  v_bin hx hy (leqN)
theorem v_gtrN {a b : Nat} (hx : opnd T x = .c (.val (.int .i64 (a : Int)))) (hy : opnd T y = .c (.val (.int .i64 (b : Int)))) : evVal P (opnd T) M (.binOp .gtr t x y t') = some ((.c (.val (.bool (decide (b < a)))))) :=
  v_bin hx hy (gtrN)
theorem v_geqN {a b : Nat} (hx : opnd T x = .c (.val (.int .i64 (a : Int)))) (hy : opnd T y = .c (.val (.int .i64 (b : Int)))) : evVal P (opnd T) M (.binOp .geq t x y t') = some ((.c (.val (.bool (decide (b ≤ a)))))) :=
  v_bin hx hy (geqN)
theorem v_eqlN {a b : Nat} (hx : opnd T x = .c (.val (.int .i64 (a : Int)))) (hy : opnd T y = .c (.val (.int .i64 (b : Int)))) : evVal P (opnd T) M (.binOp .eql t x y t') = some ((.c (.val (.bool (decide (a = b)))))) :=
  v_bin hx hy (eqlN)
theorem v_neqN {a b : Nat} (hx : opnd T x = .c (.val (.int .i64 (a : Int)))) (hy : opnd T y = .c (.val (.int .i64 (b : Int)))) : evVal P (opnd T) M (.binOp .neq t x y t') = some ((.c (.val (.bool (!decide (a = b)))))) :=
  v_bin hx hy (neqN)
theorem v_addN {a b : Nat} (hx : opnd T x = .c (.val (.int .i64 (a : Int)))) (hy : opnd T y = .c (.val (.int .i64 (b : Int)))) (h : a + b ≤ 9223372036854775807) : evVal P (opnd T) M (.binOp .add t x y t') = some ((.c (.val (.int .i64 ((a + b : Nat) : Int))))) :=
  v_bin hx hy (addN h)
theorem v_subN {a b : Nat} (hx : opnd T x = .c (.val (.int .i64 (a : Int)))) (hy : opnd T y = .c (.val (.int .i64 (b : Int)))) (h : b ≤ a) (h2 : a ≤ 9223372036854775807) : evVal P (opnd T) M (.binOp .sub t x y t') = some ((.c (.val (.int .i64 ((a - b : Nat) : Int))))) :=
  v_bin hx hy (subN h h2)
theorem v_mulN {a b : Nat} (hx : opnd T x = .c (.val (.int .i64 (a : Int)))) (hy : opnd T y = .c (.val (.int .i64 (b : Int)))) (h : a * b ≤ 9223372036854775807) : evVal P (opnd T) M (.binOp .mul t x y t') = some ((.c (.val (.int .i64 ((a * b : Nat) : Int))))) :=
  v_bin hx hy (mulN h)
theorem v_quoN {a b : Nat} (hx : opnd T x = .c (.val (.int .i64 (a : Int)))) (hy : opnd T y = .c (.val (.int .i64 (b : Int)))) (h : 0 < b) (h2 : a ≤ 9223372036854775807) : evVal P (opnd T) M (.binOp .quo t x y t') = some ((.c (.val (.int .i64 ((a / b : Nat) : Int))))) :=
  v_bin hx hy (quoN h h2)
theorem v_remN {a b : Nat} (hx : opnd T x = .c (.val (.int .i64 (a : Int)))) (hy : opnd T y = .c (.val (.int .i64 (b : Int)))) (h : 0 < b) (h2 : a ≤ 9223372036854775807) : evVal P (opnd T) M (.binOp .rem t x y t') = some ((.c (.val (.int .i64 ((a % b : Nat) : Int))))) :=
  v_bin hx hy (remN h h2)
theorem v_lssI {a b : Int} (hx : opnd T x = .c (.val (.int .i64 a))) (hy : opnd T y = .c (.val (.int .i64 b))) : evVal P (opnd T) M (.binOp .lss t x y t') = some ((.c (.val (.bool (decide (a < b)))))) :=
  v_bin hx hy (lssI)
theorem v_leqI {a b : Int} (hx : opnd T x = .c (.val (.int .i64 a))) (hy : opnd T y = .c (.val (.int .i64 b))) : evVal P (opnd T) M (.binOp .leq t x y t') = some ((.c (.val (.bool (decide (a ≤ b)))))) :=
  v_bin hx hy (leqI)
theorem v_gtrI {a b : Int} (hx : opnd T x = .c (.val (.int .i64 a))) (hy : opnd T y = .c (.val (.int .i64 b))) : evVal P (opnd T) M (.binOp .gtr t x y t') = some ((.c (.val (.bool (decide (b < a)))))) :=
  v_bin hx hy (gtrI)
theorem v_geqI {a b : Int} (hx : opnd T x = .c (.val (.int .i64 a))) (hy : opnd T y = .c (.val (.int .i64 b))) : evVal P (opnd T) M (.binOp .geq t x y t') = some ((.c (.val (.bool (decide (b ≤ a)))))) :=
  v_bin hx hy (geqI)
theorem v_addI {a b : Int} (hx : opnd T x = .c (.val (.int .i64 a))) (hy : opnd T y = .c (.val (.int .i64 b))) (h : -9223372036854775808 ≤ a + b ∧ a + b ≤ 9223372036854775807) : evVal P (opnd T) M (.binOp .add t x y t') = some ((.c (.val (.int .i64 (a + b))))) :=
  v_bin hx hy (addI h)
theorem v_subI {a b : Int} (hx : opnd T x = .c (.val (.int .i64 a))) (hy : opnd T y = .c (.val (.int .i64 b))) (h : -9223372036854775808 ≤ a - b ∧ a - b ≤ 9223372036854775807) : evVal P (opnd T) M (.binOp .sub t x y t') = some ((.c (.val (.int .i64 (a - b))))) :=
  v_bin hx hy (subI h)
end
end Go.Proofs.Ytlnekohkbhidnaa
