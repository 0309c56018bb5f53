/- The texts AvTac, AvNum, AvTac2, AvTac3, AvMore, AvTac4, AvMore2, AvStruct, AvStay, AvMap, AvRows, AvBits, AvWhile, merged into one. -/
import Derived.Test.YtmbepikkgkcgkaaGreatDoorUK2
import Derived.MapKept
namespace Go.Proofs.YtmbepikkgkcgkaaGreatDoor
open Go.RowKit
structure WO (P : Program) (k : Nat) (ops : Array Oper) (l : List Oper) (s : St) (K : St → Prop) : Prop where
  h : ∃ r, Ev P (.ops k ops l s) (.out .normal r) ∧ K r
structure WC (P : Program) (k : Nat) (c : Code) (s : St) (Φ : Ex → St → Prop) : Prop where
  h : ∃ e r, Ev P (.code k c s) (.out e r) ∧ Φ e r
theorem cut_length {α : Type} (l : List α) (o n : Nat) : (cut l o n).length = min n (l.length - o) := by simp [cut]
theorem set_put {n : Nat} (l : List (BitVec n)) (i : Nat) (v : BitVec n) : l.set i v = put l i v := rfl
theorem put_again {n : Nat} (l : List (BitVec n)) (k : Nat) (x y : BitVec n) : put (put l k x) k y = put l k y := by simp [put]
theorem puti_length (l : List Int) (i : Nat) (v : Int) : (puti l i v).length = l.length := by simp [puti]
theorem set8 (l : List (BitVec 8)) (i : Nat) (v : BitVec 8) : (Arr.a8 l).set i (.val (U8 v)) = some (.a8 (put l i v)) := by simp [Arr.set]
theorem set32 (l : List (BitVec 32)) (i : Nat) (v : BitVec 32) : (Arr.a32 l).set i (.val (U32 v)) = some (.a32 (put l i v)) := by simp [Arr.set]
theorem set64 (l : List (BitVec 64)) (i : Nat) (v : BitVec 64) : (Arr.a64 l).set i (.val (U64 v)) = some (.a64 (put l i v)) := by simp [Arr.set]
theorem seti (l : List Int) (i : Nat) (v : Int) : (Arr.ai l).set i (.val (.int .i64 v)) = some (.ai (puti l i v)) := by simp [Arr.set, i?]
theorem setc (l : List Cell) (i : Nat) (c : Cell) : (Arr.ac l).set i c = some (.ac (putc l i c)) := rfl
section
variable {P : Program} {k N : Nat} {ops : Array Oper} {d : Nat} {ty : TypeId} {pos : String} {af : Array Edge} {l : List Oper} {T : Nat → AV} {M M' : Mem} {K : St → Prop}
theorem s_nil {s : St} (h : K s) : WO P k ops [] s K := ⟨⟨s, Ev.nil, h⟩⟩
theorem s_val {op : Op} {v : AV} (h : evVal P (opnd T) M op = some v) (hd : decide (d < N) = true) (hk : WO P k ops l ⟨N, upd T d v, M⟩ K) : WO P k ops (⟨some d, op, ty, pos, af, none⟩ :: l) ⟨N, T, M⟩ K :=
  let ⟨r, h1, h2⟩ := hk.h; ⟨⟨r, Ev.cons rfl hd (Ev.val h) h1, h2⟩⟩
theorem s_mem {op : Op} {v : AV} (h : evMem P (opnd T) M op = some (v, M')) (hd : decide (d < N) = true) (hk : WO P k ops l ⟨N, upd T d v, M'⟩ K) : WO P k ops (⟨some d, op, ty, pos, af, none⟩ :: l) ⟨N, T, M⟩ K :=
  let ⟨r, h1, h2⟩ := hk.h; ⟨⟨r, Ev.cons rfl hd (Ev.mem h) h1, h2⟩⟩
theorem s_mem0 {op : Op} {v : AV} (h : evMem P (opnd T) M op = some (v, M')) (hk : WO P k ops l ⟨N, T, M'⟩ K) : WO P k ops (⟨none, op, ty, pos, af, none⟩ :: l) ⟨N, T, M⟩ K :=
  let ⟨r, h1, h2⟩ := hk.h; ⟨⟨r, Ev.cons rfl rfl (Ev.mem h) h1, h2⟩⟩
theorem s_memN {op : Op} {v : AV} {news : Mem} (h : evMem P (opnd T) M op = some (v, M ++ news)) (hM : M ++ news = M') (hd : decide (d < N) = true) (hk : WO P k ops l ⟨N, upd T d v, M'⟩ K) : WO P k ops (⟨some d, op, ty, pos, af, none⟩ :: l) ⟨N, T, M⟩ K :=
  s_mem (by rw [h, hM]) hd hk
theorem s_ev {op : Op} {v : AV} (h : Ev P (.op op (opnd T) M) (.val v M')) (hd : decide (d < N) = true) (hk : WO P k ops l ⟨N, upd T d v, M'⟩ K) : WO P k ops (⟨some d, op, ty, pos, af, none⟩ :: l) ⟨N, T, M⟩ K :=
  let ⟨r, h1, h2⟩ := hk.h; ⟨⟨r, Ev.cons rfl hd h h1, h2⟩⟩
theorem s_ev0 {op : Op} {v : AV} (h : Ev P (.op op (opnd T) M) (.val v M')) (hk : WO P k ops l ⟨N, T, M'⟩ K) : WO P k ops (⟨none, op, ty, pos, af, none⟩ :: l) ⟨N, T, M⟩ K :=
  let ⟨r, h1, h2⟩ := hk.h; ⟨⟨r, Ev.cons rfl rfl h h1, h2⟩⟩
theorem s_evN {op : Op} {v : AV} {news : Mem} (h : Ev P (.op op (opnd T) M) (.val v (M ++ news))) (hM : M ++ news = M') (hd : decide (d < N) = true) (hk : WO P k ops l ⟨N, upd T d v, M'⟩ K) : WO P k ops (⟨some d, op, ty, pos, af, none⟩ :: l) ⟨N, T, M⟩ K :=
  s_ev (by rw [← hM]; exact h) hd hk
theorem s_go {o : Oper} {s : St} (hw : evWanted ops s.t o = some true) (h : WO P k ops (⟨o.dst, o.op, o.type, o.pos, o.after, none⟩ :: l) s K) : WO P k ops (o :: l) s K := by
  obtain ⟨r, h1, h2⟩ := h.h
  refine ⟨⟨r, ?_, h2⟩⟩
  cases h1 with
  | cons hw' hd h hk => exact Ev.cons hw hd h hk
  | skip hw' hd hk => cases hw'
theorem s_no {o : Oper} {s : St} (hw : evWanted ops s.t o = some false) (hd : dstOk s.n o.dst = true) (h : WO P k ops l ⟨s.n, putT s.t o.dst noV, s.m⟩ K) : WO P k ops (o :: l) s K :=
  let ⟨r, h1, h2⟩ := h.h; ⟨⟨r, Ev.skip hw hd h1, h2⟩⟩
def HW (P : Program) (ops : Array Oper) (K : St → Prop) : List Oper → St → Prop
  | [], s => K s
  | o :: l, s => (evWanted ops s.t o = some true ∧ ∃ v news, Ev P (.op o.op (opnd s.t) (roMem s.m)) (.val v (roMem s.m ++ news)) ∧ HW P ops K l ⟨s.n, putT s.t o.dst v, s.m ++ news⟩) ∨
      (evWanted ops s.t o = some false ∧ HW P ops K l ⟨s.n, putT s.t o.dst noV, s.m⟩)
structure HO (P : Program) (ops : Array Oper) (l : List Oper) (s : St) (K : St → Prop) : Prop where
  h : HW P ops K l s
theorem h_nil {s : St} (h : K s) : HO P ops [] s K := ⟨h⟩
theorem h_val {op : Op} {v : AV} (h : evVal P (opnd T) (roMem M) op = some v) (_hd : decide (d < N) = true) (hk : HO P ops l ⟨N, upd T d v, M⟩ K) : HO P ops (⟨some d, op, ty, pos, af, none⟩ :: l) ⟨N, T, M⟩ K :=
  ⟨.inl ⟨rfl, v, [], by rw [List.append_nil]; exact Ev.val h, by rw [List.append_nil]; exact hk.h⟩⟩
theorem h_memN {op : Op} {v : AV} {news : Mem} (h : evMem P (opnd T) (roMem M) op = some (v, roMem M ++ news)) (hM : M ++ news = M') (_hd : decide (d < N) = true) (hk : HO P ops l ⟨N, upd T d v, M'⟩ K) : HO P ops (⟨some d, op, ty, pos, af, none⟩ :: l) ⟨N, T, M⟩ K :=
  ⟨.inl ⟨rfl, v, news, Ev.mem h, by rw [hM]; exact hk.h⟩⟩
theorem h_evN {op : Op} {v : AV} {news : Mem} (h : Ev P (.op op (opnd T) (roMem M)) (.val v (roMem M ++ news))) (hM : M ++ news = M') (_hd : decide (d < N) = true) (hk : HO P ops l ⟨N, upd T d v, M'⟩ K) : HO P ops (⟨some d, op, ty, pos, af, none⟩ :: l) ⟨N, T, M⟩ K :=
  ⟨.inl ⟨rfl, v, news, h, by rw [hM]; exact hk.h⟩⟩
theorem HW.line {s0 : St} : ∀ {l : List Oper} {s : St}, HW P ops K l s → s.n = s0.n → ∃ (A : Nat → St) (W : Nat → Bool) (V : Nat → AV) (N : Nat → Mem), A 0 = s ∧ (∀ i o, l[i]? = some o → evWanted ops (A i).t o = some (W i)) ∧
    (∀ i o, l[i]? = some o → W i = true → Ev P (.op o.op (opnd (A i).t) (roMem (A i).m)) (.val (V i) (roMem (A i).m ++ N i))) ∧
    (∀ i o, l[i]? = some o → A (i + 1) = if W i = true then ⟨s0.n, putT (A i).t o.dst (V i), (A i).m ++ N i⟩ else ⟨s0.n, putT (A i).t o.dst noV, (A i).m⟩) ∧ K (A l.length)
  | [], s, h, _ => ⟨fun _ => s, fun _ => true, fun _ => .c .any, fun _ => [], rfl, fun i o h => by simp at h, fun i o h => by simp at h, fun i o h => by simp at h, h⟩
  | o :: l, s, h, hn => by
    rcases h with ⟨hw, v, news, hv, hr⟩ | ⟨hw, hr⟩
    · obtain ⟨A, W, V, N, h0, h1, h2, h3, h4⟩ := HW.line (s := ⟨s.n, putT s.t o.dst v, s.m ++ news⟩) hr hn
      refine ⟨fun i => match i with | 0 => s | i + 1 => A i, fun i => match i with | 0 => true | i + 1 => W i, fun i => match i with | 0 => v | i + 1 => V i, fun i => match i with | 0 => news | i + 1 => N i, rfl, fun i o' h => ?_, fun i o' h hw' => ?_, fun i o' h => ?_, h4⟩
      · cases i with
        | zero => simp at h; subst h; exact hw
        | succ i => exact h1 i o' (by simpa using h)
      · cases i with
        | zero => simp at h; subst h; exact hv
        | succ i => exact h2 i o' (by simpa using h) hw'
      · cases i with
        | zero => simp at h; subst h; simp only [if_true]; rw [h0, hn]
        | succ i => exact h3 i o' (by simpa using h)
    · obtain ⟨A, W, V, N, h0, h1, h2, h3, h4⟩ := HW.line (s := ⟨s.n, putT s.t o.dst noV, s.m⟩) hr hn
      refine ⟨fun i => match i with | 0 => s | i + 1 => A i, fun i => match i with | 0 => false | i + 1 => W i, fun i => match i with | 0 => .c .any | i + 1 => V i, fun i => match i with | 0 => [] | i + 1 => N i, rfl, fun i o' h => ?_, fun i o' h hw' => ?_, fun i o' h => ?_, h4⟩
      · cases i with
        | zero => simp at h; subst h; exact hw
        | succ i => exact h1 i o' (by simpa using h)
      · cases i with
        | zero => cases hw'
        | succ i => exact h2 i o' (by simpa using h) hw'
      · cases i with
        | zero => simp at h; subst h; simp only; rw [h0, hn]; rfl
        | succ i => exact h3 i o' (by simpa using h)
theorem c_draw {id : Nat} {l hl tl : List Oper} {s : St} {Φ : Ex → St → Prop} (n : Nat) (hm : P.follows .mixedOrders = true) (hok : Region.okAll l.toArray n s.n = true) (h1 : l.take n = hl) (h2 : l.drop n = tl) (hlen : hl.length = n) (h : HO P l.toArray hl s fun s' => WO P k l.toArray tl s' (Φ .normal)) :
    WC P k (.region id l.toArray true) s Φ := by
  obtain ⟨A, W, V, N', h0, g1, g2, g3, g4⟩ := HW.line (s0 := s) h.h rfl
  obtain ⟨r, h3, h4⟩ := g4.h
  have conv : ∀ (i : Nat) (o : Oper), i < n → l.toArray[i]? = some o → hl[i]? = some o := fun i o hi ho => by
    rw [← h1, List.getElem?_take, if_pos hi]; simpa using ho
  exact ⟨⟨.normal, r, Ev.draw n A W V N' hm hok h0 (fun i o hi ho => g1 i o (conv i o hi ho)) (fun i o hi ho => g2 i o (conv i o hi ho)) (fun i o hi ho => g3 i o (conv i o hi ho)) (by rw [hlen] at h3; simpa [h2] using h3), h4⟩⟩
def lateL : List Oper → Nat → Nat → List Oper
  | [], _, _ => []
  | o :: l, 0, i0 => { o with after := o.after.push ⟨i0, .data⟩ } :: l
  | o :: l, n + 1, i0 => o :: lateL l n i0
def SW (P : Program) (D : Nat) (K : St → Prop) : List Oper → St → Prop
  | [], s => K s
  | o :: l, s => (isStore o = true ∧ ∃ v m', evMem P (opnd s.t) s.m o.op = some (v, m') ∧ m'.length = s.m.length ∧ SW P D K l ⟨s.n, s.t, m'⟩) ∨
      (isStore o = false ∧ ∃ v, evVal P (opnd s.t) (deadMem D) o.op = some v ∧ SW P D K l ⟨s.n, putT s.t o.dst v, s.m⟩)
structure DO (P : Program) (D : Nat) (l : List Oper) (s : St) (K : St → Prop) : Prop where
  h : SW P D K l s
theorem d_nil {D : Nat} {s : St} (h : K s) : DO P D [] s K := ⟨h⟩
theorem d_val {D : Nat} {op : Op} {v : AV} (h : evVal P (opnd T) (deadMem D) op = some v) (hs : isStore ⟨some d, op, ty, pos, af, none⟩ = false) (hk : DO P D l ⟨N, upd T d v, M⟩ K) : DO P D (⟨some d, op, ty, pos, af, none⟩ :: l) ⟨N, T, M⟩ K :=
  ⟨.inr ⟨hs, v, h, hk.h⟩⟩
theorem d_store {D : Nat} {t : TypeId} {a v : Operand} {b o : Nat} {x z : Arr} {c : Cell} (ha : opnd T a = .c (.ptr b o)) (hv : opnd T v = .c c) (hm : M[b]? = some (.row true x)) (h1 : c.one = true) (hs : szT P t = some 1) (ho : o < x.size) (hz : x.set o c = some z) (hM : M.set b (.row true z) = M')
    (hk : DO P D l ⟨N, T, M'⟩ K) : DO P D (⟨none, .store t a v, ty, pos, af, none⟩ :: l) ⟨N, T, M⟩ K :=
  ⟨.inl ⟨rfl, .c .any, M', by simp [evMem, evStore, ha, hv, hm, h1, hs, ho, hz, hM], by rw [← hM]; simp, hk.h⟩⟩
theorem d_store8 {D : Nat} {t : TypeId} {a v : Operand} {b o : Nat} {x : List (BitVec 8)} {w : BitVec 8} (ha : opnd T a = .c (.ptr b o)) (hv : opnd T v = .c (.val (U8 w))) (hm : M[b]? = some (.row true (.a8 x))) (hs : szT P t = some 1) (ho : o < x.length) (hM : M.set b (.row true (.a8 (put x o w))) = M')
    (hk : DO P D l ⟨N, T, M'⟩ K) : DO P D (⟨none, .store t a v, ty, pos, af, none⟩ :: l) ⟨N, T, M⟩ K := d_store ha hv hm rfl hs ho (set8 x o w) hM hk
theorem SW.line {s0 : St} {D : Nat} : ∀ {l : List Oper} {s : St}, SW P D K l s → s.n = s0.n → ∃ (A : Nat → St) (V : Nat → AV), A 0 = s ∧
    (∀ i o, l[i]? = some o → isStore o = false → evVal P (opnd (A i).t) (deadMem D) o.op = some (V i) ∧ A (i + 1) = ⟨s0.n, putT (A i).t o.dst (V i), (A i).m⟩) ∧
    (∀ i o, l[i]? = some o → isStore o = true → ∃ v m', evMem P (opnd (A i).t) (A i).m o.op = some (v, m') ∧ m'.length = (A i).m.length ∧ A (i + 1) = ⟨s0.n, (A i).t, m'⟩) ∧ K (A l.length)
  | [], s, h, _ => ⟨fun _ => s, fun _ => .c .any, rfl, fun i o h => by simp at h, fun i o h => by simp at h, h⟩
  | o :: l, s, h, hn => by
    rcases h with ⟨hs, v, m', hv, hl, hr⟩ | ⟨hs, v, hv, hr⟩
    · obtain ⟨A, V, h0, h1, h2, h3⟩ := SW.line (s := ⟨s.n, s.t, m'⟩) hr hn
      refine ⟨fun i => match i with | 0 => s | i + 1 => A i, fun i => match i with | 0 => .c .any | i + 1 => V i, rfl, fun i o' h hs' => ?_, fun i o' h hs' => ?_, h3⟩
      · cases i with
        | zero => simp at h; subst h; rw [hs] at hs'; cases hs'
        | succ i => exact h1 i o' (by simpa using h) hs'
      · cases i with
        | zero => simp at h; subst h; exact ⟨v, m', hv, hl, by simp only; rw [h0, hn]⟩
        | succ i => exact h2 i o' (by simpa using h) hs'
    · obtain ⟨A, V, h0, h1, h2, h3⟩ := SW.line (s := ⟨s.n, putT s.t o.dst v, s.m⟩) hr hn
      refine ⟨fun i => match i with | 0 => s | i + 1 => A i, fun i => match i with | 0 => v | i + 1 => V i, rfl, fun i o' h hs' => ?_, fun i o' h hs' => ?_, h3⟩
      · cases i with
        | zero => simp at h; subst h; exact ⟨hv, by simp only; rw [h0, hn]⟩
        | succ i => exact h1 i o' (by simpa using h) hs'
      · cases i with
        | zero => simp at h; subst h; rw [hs] at hs'; cases hs'
        | succ i => exact h2 i o' (by simpa using h) hs'
theorem c_stores {id : Nat} {l : List Oper} {s : St} {Φ : Ex → St → Prop} (hm : P.follows .mixedOrders = true) (hok : Region.okStores l.toArray s.n = true) (h : DO P s.m.length l s (Φ .normal)) : WC P k (.region id l.toArray true) s Φ := by
  obtain ⟨A, V, h0, h1, h2, h3⟩ := SW.line (s0 := s) h.h rfl
  exact ⟨⟨.normal, _, Ev.stores A V hm hok h0 (fun i o ho => h1 i o (by simpa using ho)) (fun i o ho => h2 i o (by simpa using ho)), by simpa using h3⟩⟩
def kill (S : List Nat) : Nat → Mem → Mem
  | _, [] => []
  | i, r :: m => (if S.contains i then .dead else r) :: kill S (i + 1) m
theorem kill_length (S : List Nat) : ∀ (m : Mem) (i : Nat), (kill S i m).length = m.length
  | [], _ => rfl
  | _ :: m, i => by rw [kill, List.length_cons, List.length_cons, kill_length S m]
theorem kill_get (S : List Nat) : ∀ (m : Mem) (i b : Nat) (own : Bool) (x : Arr), (kill S i m)[b]? = some (.row own x) → S.contains (i + b) = false ∧ m[b]? = some (.row own x)
  | [], _, b, own, x, h => by simp [kill] at h
  | r :: m, i, 0, own, x, h => by
    simp only [kill, List.getElem?_cons_zero, Option.some.injEq] at h
    split at h
    · cases h
    · rename_i hc
      exact ⟨by rw [Nat.add_zero]; exact Bool.eq_false_iff.2 hc, by rw [h]; rfl⟩
  | r :: m, i, b + 1, own, x, h => by
    rw [kill, List.getElem?_cons_succ] at h
    have := kill_get S m (i + 1) b own x h
    rw [show i + (b + 1) = i + 1 + b by omega, List.getElem?_cons_succ]
    exact this
def AgreeS (S : List Nat) (m0 m : Mem) : Prop := m.length = m0.length ∧ ∀ b, S.contains b = false → m[b]? = m0[b]?
theorem AgreeS.R {S : List Nat} {m0 m : Mem} (h : AgreeS S m0 m) {ι : Emb} {w : World} (hR : R ι m w) : R ι (kill S 0 m0) w := by
  have get : ∀ {b : Nat} {own : Bool} {x : Arr}, (kill S 0 m0)[b]? = some (.row own x) → m[b]? = some (.row own x) := fun {b own x} hb => by
    obtain ⟨h1, h2⟩ := kill_get S m0 0 b own x hb
    rw [Nat.zero_add] at h1
    rw [h.2 b h1]; exact h2
  exact ⟨fun b hb => hR.dom b (by rw [h.1]; rwa [kill_length] at hb), fun b l own x hb hm => hR.rows b l own x hb (get hm), fun b b' l l' own own' x x' hne hb hb' hm hm' ho => hR.inj b b' l l' own own' x x' hne hb hb' (get hm) (get hm') ho, fun c Φ hc => ⟨(hR.stay c Φ (hc.to _)).1, fun b l x hb hm => (hR.stay c Φ (hc.to _)).2 b l x hb (get hm)⟩⟩
def SX (P : Program) (S : List Nat) (M0 : Mem) (ops : Array Oper) (K : St → Prop) : Nat → List Oper → St → Prop
  | _, [], s => K s
  | i, o :: l, s => (isStore o = true ∧ ∃ v m', evMem P (opnd s.t) s.m o.op = some (v, m') ∧ m'.length = s.m.length ∧ (∀ b, S.contains b = false → m'[b]? = s.m[b]?) ∧ SX P S M0 ops K (i + 1) l ⟨s.n, s.t, m'⟩) ∨
      (isStore o = false ∧ ∃ v, (evVal P (opnd s.t) (kill S 0 M0) o.op = some v ∨ (early ops i = true ∧ Ev P (.op o.op (opnd s.t) M0) (.val v M0))) ∧ SX P S M0 ops K (i + 1) l ⟨s.n, putT s.t o.dst v, s.m⟩)
structure XO (P : Program) (S : List Nat) (M0 : Mem) (ops : Array Oper) (i : Nat) (l : List Oper) (s : St) (K : St → Prop) : Prop where
  h : SX P S M0 ops K i l s
section
variable {S : List Nat} {i : Nat} {M0 : Mem} {ops : Array Oper}
theorem x_nil {s : St} (h : K s) : XO P S M0 ops i [] s K := ⟨h⟩
theorem x_val {op : Op} {v : AV} (h : evVal P (opnd T) (kill S 0 M0) op = some v) (hs : isStore ⟨some d, op, ty, pos, af, none⟩ = false) (hk : XO P S M0 ops (i + 1) l ⟨N, upd T d v, M⟩ K) : XO P S M0 ops i (⟨some d, op, ty, pos, af, none⟩ :: l) ⟨N, T, M⟩ K :=
  ⟨.inr ⟨hs, v, .inl h, hk.h⟩⟩
theorem x_early {op : Op} {v : AV} (he : early ops i = true) (h : evVal P (opnd T) M0 op = some v) (hs : isStore ⟨some d, op, ty, pos, af, none⟩ = false) (hk : XO P S M0 ops (i + 1) l ⟨N, upd T d v, M⟩ K) : XO P S M0 ops i (⟨some d, op, ty, pos, af, none⟩ :: l) ⟨N, T, M⟩ K :=
  ⟨.inr ⟨hs, v, .inr ⟨he, .val h⟩, hk.h⟩⟩
theorem x_agree {b : Nat} {r : Row} (hb : S.contains b = true) (hM : M.set b r = M') : ∀ c, S.contains c = false → M'[c]? = M[c]? := fun c hc => by
  have hne : b ≠ c := fun e => by rw [e, hc] at hb; cases hb
  rw [← hM, List.getElem?_set_ne hne]
theorem x_store {t : TypeId} {a v : Operand} {b o : Nat} {x z : Arr} {c : Cell} (hb : S.contains b = true) (ha : opnd T a = .c (.ptr b o)) (hv : opnd T v = .c c) (hm : M[b]? = some (.row true x)) (h1 : c.one = true) (hs : szT P t = some 1) (ho : o < x.size) (hz : x.set o c = some z) (hM : M.set b (.row true z) = M')
    (hk : XO P S M0 ops (i + 1) l ⟨N, T, M'⟩ K) : XO P S M0 ops i (⟨none, .store t a v, ty, pos, af, none⟩ :: l) ⟨N, T, M⟩ K :=
  ⟨.inl ⟨rfl, .c .any, M', by simp [evMem, evStore, ha, hv, hm, h1, hs, ho, hz, hM], by rw [← hM]; simp, x_agree hb hM, hk.h⟩⟩
theorem SX.line {s0 : St} : ∀ {l : List Oper} {i : Nat} {s : St}, SX P S M0 ops K i l s → s.n = s0.n → AgreeS S M0 s.m → ∃ (A : Nat → St) (V : Nat → AV) (E : Nat → Bool), A 0 = s ∧ (∀ c, c ≤ l.length → AgreeS S M0 (A c).m) ∧
    (∀ j o, l[j]? = some o → isStore o = false → E j = false → evVal P (opnd (A j).t) (kill S 0 M0) o.op = some (V j)) ∧
    (∀ j o, l[j]? = some o → isStore o = false → E j = true → Ev P (.op o.op (opnd (A j).t) M0) (.val (V j) M0)) ∧
    (∀ j o, l[j]? = some o → isStore o = false → (E j = true → early ops (i + j) = true) ∧ A (j + 1) = ⟨s0.n, putT (A j).t o.dst (V j), (A j).m⟩) ∧
    (∀ j o, l[j]? = some o → isStore o = true → ∃ v m', evMem P (opnd (A j).t) (A j).m o.op = some (v, m') ∧ m'.length = (A j).m.length ∧ A (j + 1) = ⟨s0.n, (A j).t, m'⟩) ∧ K (A l.length)
  | [], i, s, h, _, ha => ⟨fun _ => s, fun _ => .c .any, fun _ => false, rfl, fun _ _ => ha, fun j o h => by simp at h, fun j o h => by simp at h, fun j o h => by simp at h, fun j o h => by simp at h, h⟩
  | o :: l, i, s, h, hn, ha => by
    rcases h with ⟨hs, v, m', hv, hl, hag, hr⟩ | ⟨hs, v, hv, hr⟩
    · obtain ⟨A, V, E, h0, hc, h1, h1', h1'', h2, h3⟩ := SX.line (s := ⟨s.n, s.t, m'⟩) hr hn ⟨by rw [hl]; exact ha.1, fun b hb => by rw [hag b hb]; exact ha.2 b hb⟩
      refine ⟨fun i => match i with | 0 => s | i + 1 => A i, fun i => match i with | 0 => .c .any | i + 1 => V i, fun i => match i with | 0 => false | i + 1 => E i, rfl, fun c hcl => ?_, fun j o' h hs' => ?_, fun j o' h hs' => ?_, fun j o' h hs' => ?_, fun j o' h hs' => ?_, h3⟩
      · cases c with
        | zero => exact ha
        | succ c => exact hc c (by simpa using hcl)
      · cases j with
        | zero => simp at h; subst h; rw [hs] at hs'; cases hs'
        | succ j => exact h1 j o' (by simpa using h) hs'
      · cases j with
        | zero => simp at h; subst h; rw [hs] at hs'; cases hs'
        | succ j => exact h1' j o' (by simpa using h) hs'
      · cases j with
        | zero => simp at h; subst h; rw [hs] at hs'; cases hs'
        | succ j => rw [show i + (j + 1) = i + 1 + j by omega]; exact h1'' j o' (by simpa using h) hs'
      · cases j with
        | zero => simp at h; subst h; exact ⟨v, m', hv, hl, by simp only; rw [h0, hn]⟩
        | succ j => exact h2 j o' (by simpa using h) hs'
    · obtain ⟨A, V, E, h0, hc, h1, h1', h1'', h2, h3⟩ := SX.line (s := ⟨s.n, putT s.t o.dst v, s.m⟩) hr hn ha
      have hE : ∃ e : Bool, (e = false → evVal P (opnd s.t) (kill S 0 M0) o.op = some v) ∧ (e = true → early ops i = true ∧ Ev P (.op o.op (opnd s.t) M0) (.val v M0)) := by
        rcases hv with hv | hv
        · exact ⟨false, fun _ => hv, (fun h => by cases h)⟩
        · exact ⟨true, (fun h => by cases h), fun _ => hv⟩
      obtain ⟨e, he1, he2⟩ := hE
      refine ⟨fun i => match i with | 0 => s | i + 1 => A i, fun i => match i with | 0 => v | i + 1 => V i, fun i => match i with | 0 => e | i + 1 => E i, rfl, fun c hcl => ?_, fun j o' h hs' => ?_, fun j o' h hs' => ?_, fun j o' h hs' => ?_, fun j o' h hs' => ?_, h3⟩
      · cases c with
        | zero => exact ha
        | succ c => exact hc c (by simpa using hcl)
      · cases j with
        | zero => simp at h; subst h; exact he1
        | succ j => exact h1 j o' (by simpa using h) hs'
      · cases j with
        | zero => simp at h; subst h; exact fun h => (he2 h).2
        | succ j => exact h1' j o' (by simpa using h) hs'
      · cases j with
        | zero => simp at h; subst h; exact ⟨fun h => (he2 h).1, by simp only; rw [h0, hn]⟩
        | succ j => rw [show i + (j + 1) = i + 1 + j by omega]; exact h1'' j o' (by simpa using h) hs'
      · cases j with
        | zero => simp at h; subst h; rw [hs] at hs'; cases hs'
        | succ j => exact h2 j o' (by simpa using h) hs'
end
theorem c_stores2 {id : Nat} {l : List Oper} {s : St} {Φ : Ex → St → Prop} (S : List Nat) (hm : P.follows .mixedOrders = true) (hok : Region.okStores l.toArray s.n = true) (h : XO P S s.m l.toArray 0 l s (Φ .normal)) : WC P k (.region id l.toArray true) s Φ := by
  obtain ⟨A, V, E, h0, hc, h1, h1', h1'', h2, h3⟩ := SX.line (s0 := s) h.h rfl ⟨rfl, fun _ _ => rfl⟩
  exact ⟨⟨.normal, _, Ev.stores2 A V E hm hok h0 (fun i o ho hs he => ⟨_, fun c hcl ι w hR => (hc c (by simpa using hcl)).R hR, h1 i o (by simpa using ho) hs he⟩) (fun i o ho => h1' i o (by simpa using ho)) (fun i o ho => by have := h1'' i o (by simpa using ho); rw [Nat.zero_add] at this; exact this) (fun i o ho => h2 i o (by simpa using ho)), by simpa using h3⟩⟩
theorem v_move {x : Operand} {v : AV} (h : opnd T x = v) : evVal P (opnd T) M (.move x) = some v := by rw [← h]; rfl
theorem v_moveC {x : Operand} {v : Cell} (h : opnd T x = .c v) : evVal P (opnd T) M (.move x) = some ((.c v)) :=
  v_move h
theorem v_moveA {x : Operand} {v : Arr} (h : opnd T x = .agg v) : evVal P (opnd T) M (.move x) = some ((.agg v)) :=
  v_move h
theorem v_moveT {x : Operand} {v : List AV} (h : opnd T x = .tup v) : evVal P (opnd T) M (.move x) = some ((.tup v)) :=
  v_move h
theorem v_assign {x : Operand} {v : AV} (h : opnd T x = v) : evVal P (opnd T) M (.assign x) = some (v) :=
  (by rw [← h]; rfl)
theorem v_assignC {x : Operand} {v : Cell} (h : opnd T x = .c v) : evVal P (opnd T) M (.assign x) = some ((.c v)) :=
  v_assign h
theorem v_assignA {x : Operand} {v : Arr} (h : opnd T x = .agg v) : evVal P (opnd T) M (.assign x) = some ((.agg v)) :=
  v_assign h
theorem v_assignT {x : Operand} {v : List AV} (h : opnd T x = .tup v) : evVal P (opnd T) M (.assign x) = some ((.tup v)) :=
  v_assign h
theorem bin_of {op : BinOp} {t : TypeId} {x y : Operand} {a b c : Value} (h : binOp op t a b = (pure c : Sem Value)) (hg : eqGuard op t x y a b = (pure () : Sem Unit)) : bin op t x y a b = (pure c : Sem Value) := by
  unfold bin; rw [hg, h]; rfl
theorem evBin_val {op : BinOp} {t : TypeId} {x y : Operand} {a b c : Value} (hb : ∀ p, a ≠ .bool p) (h : bin op t x y a b = (pure c : Sem Value)) : evBin P op t x y (.c (.val a)) (.c (.val b)) = some (.c (.val c)) := by
  unfold evBin
  simp only
  split
  · rename_i p q; exact absurd rfl (hb p)
  · rename_i p q; exact absurd rfl (hb p)
  · rw [h]; rfl
theorem v_bin {op : BinOp} {t t' : TypeId} {x y : Operand} {ka kb : IntKind} {a b : Int} {c : Value} (hx : opnd T x = .c (.val (.int ka a))) (hy : opnd T y = .c (.val (.int kb b))) (h : binOp op t (.int ka a) (.int kb b) = (pure c : Sem Value)) : evVal P (opnd T) M (.binOp op t x y t') = some ((.c (.val c))) :=
  (by
    show evBin P op t x y (opnd T x) (opnd T y) = _
    rw [hx, hy]
    refine evBin_val (fun p h => by cases h) (bin_of h ?_)
    unfold eqGuard
    cases op <;> rfl)
theorem v_idxA {t n el : Nat} {x i : Operand} {b o sz : Nat} {kd : IntKind} {j : Nat} (hx : opnd T x = .c (.ptr b o)) (hi : opnd T i = .c (.val (.int kd (j : Int)))) (hu : P.underlying t = some (.array n el)) (hs : szT P el = some sz) (h0 : j < n) : evVal P (opnd T) M (.indexAddr t x i) = some ((.c (.ptr b (o + j * sz)))) :=
  (by
    show evIndex P t (opnd T x) (opnd T i) = _
    rw [hx, hi]
    have h1 : (0 : Int) ≤ (j : Int) ∧ (j : Int) < (n : Int) := by omega
    simp only [evIndex, hu, intOf?, hs, h1, and_self, if_true, Int.toNat_natCast])
theorem v_idxA1 {t n el : Nat} {x i : Operand} {b : Nat} {kd : IntKind} {j : Nat} (hx : opnd T x = .c (.ptr b 0)) (hi : opnd T i = .c (.val (.int kd (j : Int)))) (hu : P.underlying t = some (.array n el)) (hs : szT P el = some 1) (h0 : j < n) : evVal P (opnd T) M (.indexAddr t x i) = some ((.c (.ptr b j))) :=
  (v_idxA hx hi hu hs h0).trans (by rw [Nat.zero_add, Nat.mul_one])
theorem v_idxS {t el : Nat} {x i : Operand} {b o len cap sz : Nat} {kd : IntKind} {j : Nat} (hx : opnd T x = .c (.sl b o len cap sz)) (hi : opnd T i = .c (.val (.int kd (j : Int)))) (hu : P.underlying t = some (.slice el)) (hs : szT P el = some sz) (h0 : j < len) : evVal P (opnd T) M (.indexAddr t x i) = some ((.c (.ptr b (o + j * sz)))) :=
  (by
    show evIndex P t (opnd T x) (opnd T i) = _
    rw [hx, hi]
    have h1 : (0 : Int) ≤ (j : Int) ∧ (j : Int) < (len : Int) := by omega
    simp only [evIndex, hu, intOf?, hs, h1, and_self, if_true, Int.toNat_natCast])
theorem v_idxS1 {t el : Nat} {x i : Operand} {b len cap : Nat} {kd : IntKind} {j : Nat} (hx : opnd T x = .c (.sl b 0 len cap 1)) (hi : opnd T i = .c (.val (.int kd (j : Int)))) (hu : P.underlying t = some (.slice el)) (hs : szT P el = some 1) (h0 : j < len) : evVal P (opnd T) M (.indexAddr t x i) = some ((.c (.ptr b j))) :=
  (v_idxS hx hi hu hs h0).trans (by rw [Nat.zero_add, Nat.mul_one])
theorem v_idxSo {t el : Nat} {x i : Operand} {b o len cap : Nat} {kd : IntKind} {j : Nat} (hx : opnd T x = .c (.sl b o len cap 1)) (hi : opnd T i = .c (.val (.int kd (j : Int)))) (hu : P.underlying t = some (.slice el)) (hs : szT P el = some 1) (h0 : j < len) : evVal P (opnd T) M (.indexAddr t x i) = some ((.c (.ptr b (o + j)))) :=
  (v_idxS hx hi hu hs h0).trans (by rw [Nat.mul_one])
theorem v_load {t : TypeId} {a : Operand} {b o : Nat} {own : Bool} {x : Arr} {c : Cell} (ha : opnd T a = .c (.ptr b o)) (hm : M[b]? = some (.row own x)) (hr : isRowT P t = some false) (ho : o < x.size) (hg : x.get o = c) : evVal P (opnd T) M (.load t a) = some ((.c c)) :=
  (by
    simp only [evVal, ha, hm, partA, hr, ho, if_true, hg])
theorem v_load8 {t : TypeId} {a : Operand} {b o : Nat} {own : Bool} {x : List (BitVec 8)} (ha : opnd T a = .c (.ptr b o)) (hm : M[b]? = some (.row own (.a8 x))) (hr : isRowT P t = some false) (ho : o < x.length) : evVal P (opnd T) M (.load t a) = some ((.c (.val (U8 (nth x o))))) :=
  v_load ha hm hr ho rfl
theorem v_load32 {t : TypeId} {a : Operand} {b o : Nat} {own : Bool} {x : List (BitVec 32)} (ha : opnd T a = .c (.ptr b o)) (hm : M[b]? = some (.row own (.a32 x))) (hr : isRowT P t = some false) (ho : o < x.length) : evVal P (opnd T) M (.load t a) = some ((.c (.val (U32 (nth x o))))) :=
  v_load ha hm hr ho rfl
theorem v_load64 {t : TypeId} {a : Operand} {b o : Nat} {own : Bool} {x : List (BitVec 64)} (ha : opnd T a = .c (.ptr b o)) (hm : M[b]? = some (.row own (.a64 x))) (hr : isRowT P t = some false) (ho : o < x.length) : evVal P (opnd T) M (.load t a) = some ((.c (.val (U64 (nth x o))))) :=
  v_load ha hm hr ho rfl
theorem v_loadI {t : TypeId} {a : Operand} {b o : Nat} {own : Bool} {x : List (Int)} (ha : opnd T a = .c (.ptr b o)) (hm : M[b]? = some (.row own (.ai x))) (hr : isRowT P t = some false) (ho : o < x.length) : evVal P (opnd T) M (.load t a) = some ((.c (.val (.int .i64 (geti x o))))) :=
  v_load ha hm hr ho rfl
theorem v_loadR {t : TypeId} {a : Operand} {b n : Nat} {own : Bool} {x : Arr} (ha : opnd T a = .c (.ptr b 0)) (hm : M[b]? = some (.row own x)) (hr : isRowT P t = some true) (hs : szT P t = some n) (hx : x.size = n) (h0 : 0 < n) : evVal P (opnd T) M (.load t a) = some ((.agg x)) :=
  (by
    simp [evVal, ha, hm, partA, hr, hs, hx, h0, winA])
theorem s_store {t : TypeId} {a v : Operand} {b o : Nat} {x z : Arr} {c : Cell} (ha : opnd T a = .c (.ptr b o)) (hv : opnd T v = .c c) (hm : M[b]? = some (.row true x)) (h1 : c.one = true) (hs : szT P t = some 1) (ho : o < x.size) (hz : x.set o c = some z) (hM : M.set b (.row true z) = M')
    (hk : WO P k ops l ⟨N, T, M'⟩ K) : WO P k ops (⟨none, .store t a v, ty, pos, af, none⟩ :: l) ⟨N, T, M⟩ K :=
  s_mem0 (v := .c .any) (by
    simp [evMem, evStore, ha, hv, hm, h1, hs, ho, hz, hM]) hk
theorem s_storeR {t : TypeId} {a v : Operand} {b : Nat} {x y : Arr} (ha : opnd T a = .c (.ptr b 0)) (hv : opnd T v = .agg y) (hm : M[b]? = some (.row true x)) (h1 : y.one = true) {n : Nat} (hs : szT P t = some n) (hy : y.size = n) (hx : x.size = n) (hM : M.set b (.row true y) = M')
    (hk : WO P k ops l ⟨N, T, M'⟩ K) (hxm : x.isMap = false := by rfl) : WO P k ops (⟨none, .store t a v, ty, pos, af, none⟩ :: l) ⟨N, T, M⟩ K :=
  s_mem0 (v := .c .any) (by
    simp [evMem, evStore, ha, hv, hm, h1, hs, hx, hy, hM, hxm]) hk
theorem s_store8 {t : TypeId} {a v : Operand} {b o : Nat} {x : List (BitVec 8)} {w : BitVec 8} (ha : opnd T a = .c (.ptr b o)) (hv : opnd T v = .c (.val (U8 w))) (hm : M[b]? = some (.row true (.a8 x))) (hs : szT P t = some 1) (ho : o < x.length) (hM : M.set b (.row true (.a8 (put x o w))) = M')
    (hk : WO P k ops l ⟨N, T, M'⟩ K) : WO P k ops (⟨none, .store t a v, ty, pos, af, none⟩ :: l) ⟨N, T, M⟩ K := s_store ha hv hm rfl hs ho (set8 x o w) hM hk
theorem s_store32 {t : TypeId} {a v : Operand} {b o : Nat} {x : List (BitVec 32)} {w : BitVec 32} (ha : opnd T a = .c (.ptr b o)) (hv : opnd T v = .c (.val (U32 w))) (hm : M[b]? = some (.row true (.a32 x))) (hs : szT P t = some 1) (ho : o < x.length) (hM : M.set b (.row true (.a32 (put x o w))) = M')
    (hk : WO P k ops l ⟨N, T, M'⟩ K) : WO P k ops (⟨none, .store t a v, ty, pos, af, none⟩ :: l) ⟨N, T, M⟩ K := s_store ha hv hm rfl hs ho (set32 x o w) hM hk
theorem s_store64 {t : TypeId} {a v : Operand} {b o : Nat} {x : List (BitVec 64)} {w : BitVec 64} (ha : opnd T a = .c (.ptr b o)) (hv : opnd T v = .c (.val (U64 w))) (hm : M[b]? = some (.row true (.a64 x))) (hs : szT P t = some 1) (ho : o < x.length) (hM : M.set b (.row true (.a64 (put x o w))) = M')
    (hk : WO P k ops l ⟨N, T, M'⟩ K) : WO P k ops (⟨none, .store t a v, ty, pos, af, none⟩ :: l) ⟨N, T, M⟩ K := s_store ha hv hm rfl hs ho (set64 x o w) hM hk
theorem m_alloc {t : TypeId} {x : Arr} {n : Nat} (hz : ∀ m, evAlloc P m t = some (.c (.ptr m.length 0), m ++ [.row true x])) (hn : M.length = n) : evMem P (opnd T) M (.alloc t) = some (.c (.ptr n 0), M ++ [.row true x]) := by subst hn; exact hz M
theorem m_box {t : TypeId} {v : Operand} {x : Arr} {n : Nat} (hv : rowOfV (opnd T v) = some x) (hn : M.length = n) : evMem P (opnd T) M (.box t v) = some (.c (.ptr n 0), M ++ [.row true x]) := by
  show evBox M (opnd T v) = _
  subst hn
  simp only [evBox, hv, Option.map_some]
theorem v_conv {s t : TypeId} {x : Operand} {k1 k2 : IntKind} {a b : Int} {ds : TypeDesc} (hx : opnd T x = .c (.val (.int k1 a))) (hs : P.underlying s = some ds) (ht : P.underlying t = some (.int k2)) (h : k2.wrap a = b) : evVal P (opnd T) M (.convert s t x) = some (.c (.val (.int k2 b))) := by
  show evConv P s t (opnd T x) = _
  rw [hx]
  simp only [evConv, hs, ht, h]
theorem v_extract {x : Operand} {i : Nat} {vs : List AV} {v : AV} (hx : opnd T x = .tup vs) (hi : vs[i]? = some v) : evVal P (opnd T) M (.extract x i) = some (v) :=
  (by
    simp only [evVal, hx, hi])
end
section
variable {P : Program} {k : Nat} {s s1 : St} {a b : Code} {Φ : Ex → St → Prop}
theorem c_region {id : Nat} {l : List Oper} (h : WO P k l.toArray l s (Φ .normal)) : WC P k (.region id l.toArray false) s Φ := let ⟨r, h1, h2⟩ := h.h; ⟨⟨.normal, r, Ev.region h1, h2⟩⟩
def seqK (P : Program) (k : Nat) (b : Code) (Φ : Ex → St → Prop) : Ex → St → Prop
  | .normal, s => WC P k b s Φ
  | e, s => Φ e s
theorem c_seq (h : WC P k a s (seqK P k b Φ)) : WC P k (.seq a b) s Φ := by
  obtain ⟨e, r, h1, h2⟩ := h.h
  cases e with
  | normal => obtain ⟨e', r', h3, h4⟩ := h2.h; exact ⟨⟨e', r', Ev.seq h1 h3, h4⟩⟩
  | exit id => exact ⟨⟨_, r, Ev.seqx h1 (by simp), h2⟩⟩
  | ret => exact ⟨⟨_, r, Ev.seqx h1 (by simp), h2⟩⟩
theorem c_skip (h : Φ .normal s) : WC P k .skip s Φ := ⟨⟨_, _, Ev.cskip, h⟩⟩
theorem c_label {l : Nat} (h : Φ .normal s) : WC P k (.label l) s Φ := ⟨⟨_, _, Ev.label, h⟩⟩
theorem c_exit {id : Nat} (h : Φ (.exit id) s) : WC P k (.exit id) s Φ := ⟨⟨_, _, Ev.exit, h⟩⟩
theorem c_ret (h : Φ .ret s) : WC P k .ret s Φ := ⟨⟨_, _, Ev.ret, h⟩⟩
theorem c_scope (h : WC P k a s Φ) : WC P k (.scope a) s Φ := let ⟨e, r, h1, h2⟩ := h.h; ⟨⟨e, r, Ev.scope h1, h2⟩⟩
def blockK (id : Nat) (Φ : Ex → St → Prop) : Ex → St → Prop
  | .exit i, s => if i = id then Φ .normal s else Φ (.exit i) s
  | e, s => Φ e s
theorem c_block {id : Nat} (h : WC P k a s (blockK id Φ)) : WC P k (.block id a) s Φ := by
  obtain ⟨e, r, h1, h2⟩ := h.h
  refine ⟨⟨_, r, Ev.block h1, ?_⟩⟩
  cases e with
  | normal => exact h2
  | ret => exact h2
  | exit i =>
    simp only [blockK, Ex.block] at h2 ⊢
    split
    · rename_i e; rw [if_pos e] at h2; exact h2
    · rename_i e; rw [if_neg e] at h2; exact h2
theorem c_condT {c : Operand} {t : Bool} (hc : opnd s.t c = .c (.val (.bool t))) (ht : t = true) (h : WC P k a s Φ) : WC P k (.cond c a b) s Φ := let ⟨e, r, h1, h2⟩ := h.h; ⟨⟨e, r, Ev.cond true (by rw [hc, ht]) h1, h2⟩⟩
theorem c_condF {c : Operand} {t : Bool} (hc : opnd s.t c = .c (.val (.bool t))) (ht : t = false) (h : WC P k b s Φ) : WC P k (.cond c a b) s Φ := let ⟨e, r, h1, h2⟩ := h.h; ⟨⟨e, r, Ev.cond false (by rw [hc, ht]) h1, h2⟩⟩
theorem c_clean (keep : List Nat) (hc : clean k keep s = some s1) (h : WC P k a s1 Φ) : WC P k a s Φ := let ⟨e, r, h1, h2⟩ := h.h; ⟨⟨e, r, Ev.clean keep hc h1, h2⟩⟩
def roundK (k : Nat) (keep : List Nat) {σ : Type} (I : σ → St) (y : σ) : Ex → St → Prop
  | .normal, s => ∃ x, clean k keep s = some (I x) ∧ x = y
  | _, _ => False
def endK (Φ : Ex → St → Prop) : Ex → St → Prop
  | .normal, _ => False
  | e, s => Φ e s
theorem c_loop (keep : List Nat) {σ : Type} (I : σ → St) (f : Nat → σ) (n : Nat) {c : Code} {s0 : St} (h0 : s0 = I (f 0)) (hstep : ∀ j, j < n → WC P k c (I (f j)) (roundK k keep I (f (j + 1)))) (hend : WC P k c (I (f n)) (endK Φ)) : WC P k (.loop c) s0 Φ := by
  subst h0
  have key : ∀ d j, j + d = n → WC P k (.loop c) (I (f j)) Φ := by
    intro d
    induction d with
    | zero =>
      intro j hj
      obtain rfl : j = n := by omega
      obtain ⟨e, r, h1, h2⟩ := hend.h
      cases e with
      | normal => exact h2.elim
      | exit id => exact ⟨⟨_, r, Ev.loopx h1 (by simp), h2⟩⟩
      | ret => exact ⟨⟨_, r, Ev.loopx h1 (by simp), h2⟩⟩
    | succ d ih =>
      intro j hj
      obtain ⟨e, r, h1, h2⟩ := (hstep j (by omega)).h
      cases e with
      | normal =>
        obtain ⟨x, h3, rfl⟩ := h2
        obtain ⟨e', r', h4, h5⟩ := (ih (j + 1) (by omega)).h
        exact ⟨⟨e', r', Ev.loop h1 (Ev.clean keep h3 h4), h5⟩⟩
      | exit id => exact h2.elim
      | ret => exact h2.elim
  exact key n 0 (by omega)
theorem c_loopC (keep : List Nat) {σ : Type} (I : σ → St) (f : Nat → σ) (n : Nat) {c : Code} {s0 : St} (h0 : clean k keep s0 = some (I (f 0))) (hstep : ∀ j, j < n → WC P k c (I (f j)) (roundK k keep I (f (j + 1)))) (hend : WC P k c (I (f n)) (endK Φ)) : WC P k (.loop c) s0 Φ :=
  c_clean keep h0 (c_loop keep I f n rfl hstep hend)
theorem c_join (keep : List Nat) {σ : Type} (I : σ → St) (y : σ) {c : Operand} {t : Bool} (hc : opnd s.t c = .c (.val (.bool t))) (ha : t = true → WC P k a s (roundK k keep I y)) (hb : t = false → WC P k b s (roundK k keep I y)) (h : Φ .normal (I y)) : WC P k (.cond c a b) s Φ := by
  cases t with
  | true =>
    obtain ⟨e, r, h1, h2⟩ := (ha rfl).h
    cases e with
    | normal => obtain ⟨x, h3, rfl⟩ := h2; exact ⟨⟨_, _, Ev.tidy keep (Ev.cond true hc h1) h3, h⟩⟩
    | exit id => exact h2.elim
    | ret => exact h2.elim
  | false =>
    obtain ⟨e, r, h1, h2⟩ := (hb rfl).h
    cases e with
    | normal => obtain ⟨x, h3, rfl⟩ := h2; exact ⟨⟨_, _, Ev.tidy keep (Ev.cond false hc h1) h3, h⟩⟩
    | exit id => exact h2.elim
    | ret => exact h2.elim
def callK (P : Program) (n : Nat) (rs : List ResultVar) (v : AV) (m' : Mem) : Ex → St → Prop
  | .exit _, _ => False
  | _, s => ∃ vs ids, resList P s rs = some vs ∧ canon n [resV vs] s.m = some ([v], m', ids)
theorem c_call {f : FuncId} {fn : Func} {c : Code} {args : List AV} {m m' : Mem} {v : AV} {N n : Nat} (hf : P.funcs[f]? = some fn) (hb : fn.body = some c) (hN : fn.ntmps = N) (hn : Nat.ble args.length N = true) (hm : m.length = n)
    (h : WC P n c ⟨N, argT args, m⟩ (callK P n fn.results.toList v m')) : Ev P (.call f args m) (.val v m') := by
  subst hm; subst hN
  obtain ⟨e, r, h1, h2⟩ := h.h
  cases e with
  | exit id => exact h2.elim
  | normal => obtain ⟨vs, ids, h3, h4⟩ := h2; exact Ev.call hf hb (Nat.le_of_ble_eq_true hn) h1 (.inl rfl) h3 h4
  | ret => obtain ⟨vs, ids, h3, h4⟩ := h2; exact Ev.call hf hb (Nat.le_of_ble_eq_true hn) h1 (.inr rfl) h3 h4
end
theorem r_row {P : Program} {s : St} {a : Tmp} {ty : TypeId} {b n : Nat} {own : Bool} {x : Arr} (ha : s.t a = .c (.ptr b 0)) (hm : s.m[b]? = some (.row own x)) (hr : isRowT P ty = some true) (hs : szT P ty = some n) (hx : x.size = n) (h0 : 0 < n) : resOne P s (.cell a ty) = some (.agg x) := by
  simp [resOne, ha, hm, partA, hr, hs, hx, h0, winA]
theorem r_tmpC {P : Program} {s : St} {t : Tmp} {c : Cell} (h : s.t t = .c c) : resOne P s (.tmp t) = some (.c c) := by simp [resOne, h]
theorem r_tmpA {P : Program} {s : St} {t : Tmp} {x : Arr} (h : s.t t = .agg x) : resOne P s (.tmp t) = some (.agg x) := by simp [resOne, h]
def canV (n : Nat) (v : AV) (m : Mem) : Option (List AV × Mem) := (canon n [v] m).map fun r => (r.1, r.2.1)
theorem canV_spec {n : Nat} {v v' : AV} {m m' : Mem} (h : canV n v m = some ([v'], m')) : ∃ ids, canon n [v] m = some ([v'], m', ids) := by
  unfold canV at h
  obtain ⟨⟨a, b, c⟩, h1, h2⟩ := Option.map_eq_some_iff.1 h
  simp only [Prod.mk.injEq] at h2
  obtain ⟨rfl, rfl⟩ := h2
  exact ⟨c, h1⟩
theorem k_1 {P : Program} {n : Nat} {s : St} {r1 : ResultVar} {v1 v : AV} {m' : Mem} (h1 : resOne P s r1 = some v1) (hc : canV n v1 s.m = some ([v], m')) : callK P n [r1] v m' .ret s := let ⟨ids, h⟩ := canV_spec hc; ⟨[v1], ids, by simp [resList, h1], h⟩
theorem k_2 {P : Program} {n : Nat} {s : St} {r1 r2 : ResultVar} {v1 v2 v : AV} {m' : Mem} (h1 : resOne P s r1 = some v1) (h2 : resOne P s r2 = some v2) (hc : canV n (.tup [v1, v2]) s.m = some ([v], m')) : callK P n [r1, r2] v m' .ret s := let ⟨ids, h⟩ := canV_spec hc; ⟨[v1, v2], ids, by simp [resList, h1, h2], h⟩
section
variable {t : TypeId}
theorem addI {a b : Int} (h : -9223372036854775808 ≤ a + b ∧ a + b ≤ 9223372036854775807) : binOp .add t (.int .i64 a) (.int .i64 b) = (pure (.int .i64 (a + b)) : Sem Value) := by
  show (pure (Value.int .i64 (IntKind.i64.wrap (a + b))) : Sem Value) = _
  rw [IntWalk.i64_in _ (by omega)]
theorem subI {a b : Int} (h : -9223372036854775808 ≤ a - b ∧ a - b ≤ 9223372036854775807) : binOp .sub t (.int .i64 a) (.int .i64 b) = (pure (.int .i64 (a - b)) : Sem Value) := by
  show (pure (Value.int .i64 (IntKind.i64.wrap (a - b))) : Sem Value) = _
  rw [IntWalk.i64_in _ (by omega)]
theorem mulI {a b : Int} (h : -9223372036854775808 ≤ a * b ∧ a * b ≤ 9223372036854775807) : binOp .mul t (.int .i64 a) (.int .i64 b) = (pure (.int .i64 (a * b)) : Sem Value) := by
  show (pure (Value.int .i64 (IntKind.i64.wrap (a * b))) : Sem Value) = _
  rw [IntWalk.i64_in _ (by omega)]
theorem lssI {a b : Int} : binOp .lss t (.int .i64 a) (.int .i64 b) = (pure (.bool (decide (a < b))) : Sem Value) := rfl
theorem gtrI {a b : Int} : binOp .gtr t (.int .i64 a) (.int .i64 b) = (pure (.bool (decide (b < a))) : Sem Value) := rfl
theorem geqI {a b : Int} : binOp .geq t (.int .i64 a) (.int .i64 b) = (pure (.bool (decide (b ≤ a))) : Sem Value) := rfl
theorem eqlI {a b : Int} : binOp .eql t (.int .i64 a) (.int .i64 b) = (pure (.bool (a == b)) : Sem Value) := rfl
theorem neqI {a b : Int} : binOp .neq t (.int .i64 a) (.int .i64 b) = (pure (.bool (a != b)) : Sem Value) := rfl
theorem addN {a b : Nat} (h : a + b ≤ 9223372036854775807) : binOp .add t (.int .i64 (a : Int)) (.int .i64 (b : Int)) = (pure (.int .i64 ((a + b : Nat) : Int)) : Sem Value) := addI (by omega)
theorem subN {a b : Nat} (h : b ≤ a) (h2 : a ≤ 9223372036854775807) : binOp .sub t (.int .i64 (a : Int)) (.int .i64 (b : Int)) = (pure (.int .i64 ((a - b : Nat) : Int)) : Sem Value) := by
  rw [subI (by omega)]; congr 2; omega
theorem mulN {a b : Nat} (h : a * b ≤ 9223372036854775807) : binOp .mul t (.int .i64 (a : Int)) (.int .i64 (b : Int)) = (pure (.int .i64 ((a * b : Nat) : Int)) : Sem Value) := by
  rw [mulI (by rw [← Int.natCast_mul]; omega)]; rfl
theorem quoN {a b : Nat} (h : 0 < b) (h2 : a ≤ 9223372036854775807) : binOp .quo t (.int .i64 (a : Int)) (.int .i64 (b : Int)) = (pure (.int .i64 ((a / b : Nat) : Int)) : Sem Value) := by
  rw [binOp_quo, Op.intDiv, if_neg (by omega)]
  show (pure (Value.int .i64 (IntKind.i64.wrap ((a / b : Nat) : Int))) : Sem Value) = _
  have hle := Nat.div_le_self a b
  generalize a / b = q at *
  rw [IntWalk.i64_in _ (by omega)]
theorem remN {a b : Nat} (h : 0 < b) (_h2 : a ≤ 9223372036854775807) : binOp .rem t (.int .i64 (a : Int)) (.int .i64 (b : Int)) = (pure (.int .i64 ((a % b : Nat) : Int)) : Sem Value) := by
  rw [binOp_rem, Op.intDiv, if_neg (by omega)]
  rfl
theorem lssN {a b : Nat} : binOp .lss t (.int .i64 (a : Int)) (.int .i64 (b : Int)) = (pure (.bool (decide (a < b))) : Sem Value) := by
  rw [lssI]; congr 2; exact decide_eq_decide.2 (by omega)
theorem gtrN {a b : Nat} : binOp .gtr t (.int .i64 (a : Int)) (.int .i64 (b : Int)) = (pure (.bool (decide (b < a))) : Sem Value) := by
  rw [gtrI]; congr 2; exact decide_eq_decide.2 (by omega)
theorem geqN {a b : Nat} : binOp .geq t (.int .i64 (a : Int)) (.int .i64 (b : Int)) = (pure (.bool (decide (b ≤ a))) : Sem Value) := by
  rw [geqI]; congr 2; exact decide_eq_decide.2 (by omega)
theorem eqlN {a b : Nat} : binOp .eql t (.int .i64 (a : Int)) (.int .i64 (b : Int)) = (pure (.bool (decide (a = b))) : Sem Value) := by
  rw [eqlI]; congr 2; rw [Bool.eq_iff_iff]; simp; omega
theorem neqN {a b : Nat} : binOp .neq t (.int .i64 (a : Int)) (.int .i64 (b : Int)) = (pure (.bool (!decide (a = b))) : Sem Value) := by
  rw [neqI]; congr 2; rw [Bool.eq_iff_iff]; simp; omega
theorem shl64n {x : BitVec 64} {kd : IntKind} {n : Nat} : binOp .shl t (U64 x) (.int kd (n : Int)) = (pure (U64 (x <<< n)) : Sem Value) := by rw [shl64 x kd n (by omega), Int.toNat_natCast]
theorem shr64n {x : BitVec 64} {kd : IntKind} {n : Nat} : binOp .shr t (U64 x) (.int kd (n : Int)) = (pure (U64 (x >>> n)) : Sem Value) := by rw [shr64 x kd n (by omega), Int.toNat_natCast]
theorem shr32n {x : BitVec 32} {kd : IntKind} {n : Nat} : binOp .shr t (U32 x) (.int kd (n : Int)) = (pure (U32 (x >>> n)) : Sem Value) := by rw [shr32 x kd n (by omega), Int.toNat_natCast]
theorem w8_64 (x : BitVec 8) : IntKind.u64.wrap (tn x) = tn (x.setWidth 64) := by rw [wrapU64]; unfold tn; rw [ofInt_wide]
theorem w64_32 (x : BitVec 64) : IntKind.u32.wrap (tn x) = tn (x.setWidth 32) := by rw [wrapU32]; unfold tn; rw [ofInt_wide]
theorem w64_8 (x : BitVec 64) : IntKind.u8.wrap (tn x) = tn (x.setWidth 8) := by rw [wrapU8]; unfold tn; rw [ofInt_wide]
theorem w32_8 (x : BitVec 32) : IntKind.u8.wrap (tn x) = tn (x.setWidth 8) := by rw [wrapU8]; unfold tn; rw [ofInt_wide]
theorem wi_64 (n : Nat) : IntKind.u64.wrap (n : Int) = tn (BitVec.ofNat 64 n) := by rw [wrapU64, BitVec.ofInt_natCast]; rfl
theorem wi_32 (n : Nat) : IntKind.u32.wrap (n : Int) = tn (BitVec.ofNat 32 n) := by rw [wrapU32, BitVec.ofInt_natCast]; rfl
theorem wi_8 (n : Nat) : IntKind.u8.wrap (n : Int) = tn (BitVec.ofNat 8 n) := by rw [wrapU8, BitVec.ofInt_natCast]; rfl
theorem w8_i (x : BitVec 8) : IntKind.i64.wrap (tn x) = ((x.toNat : Nat) : Int) := IntWalk.i64_in _ (by unfold tn; have := x.isLt; omega)
end
section
variable {P : Program} {k N : Nat} {ops : Array Oper} {d : Nat} {ty : TypeId} {pos : String} {af : Array Edge} {l : List Oper} {T : Nat → AV} {M : Mem} {K : St → Prop} {t t' : TypeId} {x y : Operand}
theorem v_add64 {a b : BitVec 64} (hx : opnd T x = .c (.val (U64 a))) (hy : opnd T y = .c (.val (U64 b))) : evVal P (opnd T) M (.binOp .add t x y t') = some ((.c (.val (U64 (a + b))))) :=
  v_bin hx hy (add64 a b)
theorem v_sub64 {a b : BitVec 64} (hx : opnd T x = .c (.val (U64 a))) (hy : opnd T y = .c (.val (U64 b))) : evVal P (opnd T) M (.binOp .sub t x y t') = some ((.c (.val (U64 (a - b))))) :=
  v_bin hx hy (sub64 a b)
theorem v_and64 {a b : BitVec 64} (hx : opnd T x = .c (.val (U64 a))) (hy : opnd T y = .c (.val (U64 b))) : evVal P (opnd T) M (.binOp .and t x y t') = some ((.c (.val (U64 (a &&& b))))) :=
  v_bin hx hy (and64 a b)
theorem v_or64 {a b : BitVec 64} (hx : opnd T x = .c (.val (U64 a))) (hy : opnd T y = .c (.val (U64 b))) : evVal P (opnd T) M (.binOp .or t x y t') = some ((.c (.val (U64 (a ||| b))))) :=
  v_bin hx hy (or64 a b)
theorem v_mul64 {a b : BitVec 64} (hx : opnd T x = .c (.val (U64 a))) (hy : opnd T y = .c (.val (U64 b))) : evVal P (opnd T) M (.binOp .mul t x y t') = some ((.c (.val (U64 (a * b))))) :=
  v_bin hx hy (mul64 a b)
theorem v_add32 {a b : BitVec 32} (hx : opnd T x = .c (.val (U32 a))) (hy : opnd T y = .c (.val (U32 b))) : evVal P (opnd T) M (.binOp .add t x y t') = some ((.c (.val (U32 (a + b))))) :=
  v_bin hx hy (add32 a b)
theorem v_and32 {a b : BitVec 32} (hx : opnd T x = .c (.val (U32 a))) (hy : opnd T y = .c (.val (U32 b))) : evVal P (opnd T) M (.binOp .and t x y t') = some ((.c (.val (U32 (a &&& b))))) :=
  v_bin hx hy (and32 a b)
theorem v_or32 {a b : BitVec 32} (hx : opnd T x = .c (.val (U32 a))) (hy : opnd T y = .c (.val (U32 b))) : evVal P (opnd T) M (.binOp .or t x y t') = some ((.c (.val (U32 (a ||| b))))) :=
  v_bin hx hy (or32 a b)
theorem v_xor32 {a b : BitVec 32} (hx : opnd T x = .c (.val (U32 a))) (hy : opnd T y = .c (.val (U32 b))) : evVal P (opnd T) M (.binOp .xor t x y t') = some ((.c (.val (U32 (a ^^^ b))))) :=
  v_bin hx hy (xor32 a b)
theorem v_and8 {a b : BitVec 8} (hx : opnd T x = .c (.val (U8 a))) (hy : opnd T y = .c (.val (U8 b))) : evVal P (opnd T) M (.binOp .and t x y t') = some ((.c (.val (U8 (a &&& b))))) :=
  v_bin hx hy (and8 a b)
theorem v_xor8 {a b : BitVec 8} (hx : opnd T x = .c (.val (U8 a))) (hy : opnd T y = .c (.val (U8 b))) : evVal P (opnd T) M (.binOp .xor t x y t') = some ((.c (.val (U8 (a ^^^ b))))) :=
  v_bin hx hy (xor8 a b)
theorem v_shl64n {a : BitVec 64} {kd : IntKind} {j : Nat} (hx : opnd T x = .c (.val (U64 a))) (hy : opnd T y = .c (.val (.int kd (j : Int)))) : evVal P (opnd T) M (.binOp .shl t x y t') = some ((.c (.val (U64 (a <<< j))))) :=
  v_bin hx hy (shl64n)
theorem v_shr64n {a : BitVec 64} {kd : IntKind} {j : Nat} (hx : opnd T x = .c (.val (U64 a))) (hy : opnd T y = .c (.val (.int kd (j : Int)))) : evVal P (opnd T) M (.binOp .shr t x y t') = some ((.c (.val (U64 (a >>> j))))) :=
  v_bin hx hy (shr64n)
theorem v_shr32n {a : BitVec 32} {kd : IntKind} {j : Nat} (hx : opnd T x = .c (.val (U32 a))) (hy : opnd T y = .c (.val (.int kd (j : Int)))) : evVal P (opnd T) M (.binOp .shr t x y t') = some ((.c (.val (U32 (a >>> j))))) :=
  v_bin hx hy (shr32n)
theorem v_shl32w {a : BitVec 32} {b : BitVec 64} (hx : opnd T x = .c (.val (U32 a))) (hy : opnd T y = .c (.val (U64 b))) : evVal P (opnd T) M (.binOp .shl t x y t') = some ((.c (.val (U32 (a <<< b.toNat))))) :=
  v_bin hx hy (shl32w a b)
theorem v_shr32w {a : BitVec 32} {b : BitVec 64} (hx : opnd T x = .c (.val (U32 a))) (hy : opnd T y = .c (.val (U64 b))) : evVal P (opnd T) M (.binOp .shr t x y t') = some ((.c (.val (U32 (a >>> b.toNat))))) :=
  v_bin hx hy (shr32w a b)
theorem v_neq8 {a b : BitVec 8} (hx : opnd T x = .c (.val (U8 a))) (hy : opnd T y = .c (.val (U8 b))) : evVal P (opnd T) M (.binOp .neq t x y t') = some ((.c (.val (.bool (a != b))))) :=
  v_bin hx hy (neq8 a b)
theorem v_lssN {a b : Nat} (hx : opnd T x = .c (.val (.int .i64 (a : Int)))) (hy : opnd T y = .c (.val (.int .i64 (b : Int)))) : evVal P (opnd T) M (.binOp .lss t x y t') = some ((.c (.val (.bool (decide (a < b)))))) :=
  v_bin hx hy (lssN)
theorem v_gtrN {a b : Nat} (hx : opnd T x = .c (.val (.int .i64 (a : Int)))) (hy : opnd T y = .c (.val (.int .i64 (b : Int)))) : evVal P (opnd T) M (.binOp .gtr t x y t') = some ((.c (.val (.bool (decide (b < a)))))) :=
  v_bin hx hy (gtrN)
theorem v_geqN {a b : Nat} (hx : opnd T x = .c (.val (.int .i64 (a : Int)))) (hy : opnd T y = .c (.val (.int .i64 (b : Int)))) : evVal P (opnd T) M (.binOp .geq t x y t') = some ((.c (.val (.bool (decide (b ≤ a)))))) :=
  v_bin hx hy (geqN)
theorem v_eqlN {a b : Nat} (hx : opnd T x = .c (.val (.int .i64 (a : Int)))) (hy : opnd T y = .c (.val (.int .i64 (b : Int)))) : evVal P (opnd T) M (.binOp .eql t x y t') = some ((.c (.val (.bool (decide (a = b)))))) :=
  v_bin hx hy (eqlN)
theorem v_neqN {a b : Nat} (hx : opnd T x = .c (.val (.int .i64 (a : Int)))) (hy : opnd T y = .c (.val (.int .i64 (b : Int)))) : evVal P (opnd T) M (.binOp .neq t x y t') = some ((.c (.val (.bool (!decide (a = b)))))) :=
  v_bin hx hy (neqN)
theorem v_addN {a b : Nat} (hx : opnd T x = .c (.val (.int .i64 (a : Int)))) (hy : opnd T y = .c (.val (.int .i64 (b : Int)))) (h : a + b ≤ 9223372036854775807) : evVal P (opnd T) M (.binOp .add t x y t') = some ((.c (.val (.int .i64 ((a + b : Nat) : Int))))) :=
  v_bin hx hy (addN h)
theorem v_subN {a b : Nat} (hx : opnd T x = .c (.val (.int .i64 (a : Int)))) (hy : opnd T y = .c (.val (.int .i64 (b : Int)))) (h : b ≤ a) (h2 : a ≤ 9223372036854775807) : evVal P (opnd T) M (.binOp .sub t x y t') = some ((.c (.val (.int .i64 ((a - b : Nat) : Int))))) :=
  v_bin hx hy (subN h h2)
theorem v_mulN {a b : Nat} (hx : opnd T x = .c (.val (.int .i64 (a : Int)))) (hy : opnd T y = .c (.val (.int .i64 (b : Int)))) (h : a * b ≤ 9223372036854775807) : evVal P (opnd T) M (.binOp .mul t x y t') = some ((.c (.val (.int .i64 ((a * b : Nat) : Int))))) :=
  v_bin hx hy (mulN h)
theorem v_quoN {a b : Nat} (hx : opnd T x = .c (.val (.int .i64 (a : Int)))) (hy : opnd T y = .c (.val (.int .i64 (b : Int)))) (h : 0 < b) (h2 : a ≤ 9223372036854775807) : evVal P (opnd T) M (.binOp .quo t x y t') = some ((.c (.val (.int .i64 ((a / b : Nat) : Int))))) :=
  v_bin hx hy (quoN h h2)
theorem v_remN {a b : Nat} (hx : opnd T x = .c (.val (.int .i64 (a : Int)))) (hy : opnd T y = .c (.val (.int .i64 (b : Int)))) (h : 0 < b) (h2 : a ≤ 9223372036854775807) : evVal P (opnd T) M (.binOp .rem t x y t') = some ((.c (.val (.int .i64 ((a % b : Nat) : Int))))) :=
  v_bin hx hy (remN h h2)
theorem v_lssI {a b : Int} (hx : opnd T x = .c (.val (.int .i64 a))) (hy : opnd T y = .c (.val (.int .i64 b))) : evVal P (opnd T) M (.binOp .lss t x y t') = some ((.c (.val (.bool (decide (a < b)))))) :=
  v_bin hx hy (lssI)
theorem v_gtrI {a b : Int} (hx : opnd T x = .c (.val (.int .i64 a))) (hy : opnd T y = .c (.val (.int .i64 b))) : evVal P (opnd T) M (.binOp .gtr t x y t') = some ((.c (.val (.bool (decide (b < a)))))) :=
  v_bin hx hy (gtrI)
theorem v_geqI {a b : Int} (hx : opnd T x = .c (.val (.int .i64 a))) (hy : opnd T y = .c (.val (.int .i64 b))) : evVal P (opnd T) M (.binOp .geq t x y t') = some ((.c (.val (.bool (decide (b ≤ a)))))) :=
  v_bin hx hy (geqI)
theorem v_addI {a b : Int} (hx : opnd T x = .c (.val (.int .i64 a))) (hy : opnd T y = .c (.val (.int .i64 b))) (h : -9223372036854775808 ≤ a + b ∧ a + b ≤ 9223372036854775807) : evVal P (opnd T) M (.binOp .add t x y t') = some ((.c (.val (.int .i64 (a + b))))) :=
  v_bin hx hy (addI h)
theorem v_subI {a b : Int} (hx : opnd T x = .c (.val (.int .i64 a))) (hy : opnd T y = .c (.val (.int .i64 b))) (h : -9223372036854775808 ≤ a - b ∧ a - b ≤ 9223372036854775807) : evVal P (opnd T) M (.binOp .sub t x y t') = some ((.c (.val (.int .i64 (a - b))))) :=
  v_bin hx hy (subI h)
end
end Go.Proofs.YtmbepikkgkcgkaaGreatDoor
namespace Go.Proofs.YtmbepikkgkcgkaaGreatDoor
open Go.RowKit
section
variable {t : TypeId}
theorem gtr64' (x y : BitVec 64) : binOp .gtr t (U64 x) (U64 y) = (pure (.bool (decide (y.toNat < x.toNat))) : Sem Value) := by
  show (pure (Value.bool (decide ((y.toNat : Int) < (x.toNat : Int)))) : Sem Value) = _
  congr 2; exact decide_eq_decide.2 (by omega)
theorem wI_64 (i : Int) : IntKind.u64.wrap i = tn (BitVec.ofInt 64 i) := wrapU64 i
end
section
variable {P : Program} {k N : Nat} {ops : Array Oper} {d : Nat} {ty : TypeId} {pos : String} {af : Array Edge} {l0 : List Oper} {T : Nat → AV} {M M' : Mem} {K : St → Prop} {t t' : TypeId} {x y : Operand}
theorem v_gtr64 {a b : BitVec 64} (hx : opnd T x = .c (.val (U64 a))) (hy : opnd T y = .c (.val (U64 b))) : evVal P (opnd T) M (.binOp .gtr t x y t') = some (.c (.val (.bool (decide (b.toNat < a.toNat))))) := v_bin hx hy (gtr64' a b)
def natI (l : List Nat) : List Int := l.map Int.ofNat
def ntn (l : List Nat) (i : Nat) : Nat := l.getD i 0
def putn (l : List Nat) (i v : Nat) : List Nat := l.set i v
theorem natI_length (l : List Nat) : (natI l).length = l.length := by simp [natI]
@[simp] theorem putn_length (l : List Nat) (i v : Nat) : (putn l i v).length = l.length := by simp [putn]
theorem geti_natI (l : List Nat) (i : Nat) : geti (natI l) i = ((ntn l i : Nat) : Int) := by
  unfold geti natI ntn
  simp only [List.getD_eq_getElem?_getD, List.getElem?_map]
  cases l[i]? <;> rfl
theorem v_loadN {a : Operand} {b o : Nat} {own : Bool} {x : List Nat} (ha : opnd T a = .c (.ptr b o)) (hm : M[b]? = some (.row own (.ai (natI x)))) (hr : isRowT P t = some false) (ho : o < x.length) : evVal P (opnd T) M (.load t a) = some (.c (.val (.int .i64 ((ntn x o : Nat) : Int)))) := by
  rw [v_loadI ha hm hr (by rw [natI_length]; exact ho), geti_natI]
end
end Go.Proofs.YtmbepikkgkcgkaaGreatDoor
namespace Go.Proofs.YtmbepikkgkcgkaaGreatDoor
open Go.RowKit
section
variable {P : Program} {k N : Nat} {ops : Array Oper} {d : Nat} {ty : TypeId} {pos : String} {af : Array Edge} {l0 : List Oper} {T : Nat → AV} {M M' : Mem} {K : St → Prop} {t t' : TypeId}
theorem v_lenS {x : Operand} {b o n cap sz el : Nat} (hx : opnd T x = .c (.sl b o n cap sz)) (hu : P.underlying t = some (.slice el)) : evVal P (opnd T) M (.call { callee := .builtin .len, args := #[x], argTypes := #[t] }) = some (.c (.val (.int .i64 (n : Int)))) := by
  show evLen P t (opnd T x) = _
  rw [hx]; simp [evLen, isSliceT, hu]
theorem v_lenN {x : Operand} {el : Nat} (hx : opnd T x = .c .nsl) (hu : P.underlying t = some (.slice el)) : evVal P (opnd T) M (.call { callee := .builtin .len, args := #[x], argTypes := #[t] }) = some (.c (.val (.int .i64 ((0 : Nat) : Int)))) := by
  show evLen P t (opnd T x) = _
  rw [hx]; simp [evLen, isSliceT, hu]
theorem v_lenE {x : Operand} {el : Nat} (hx : opnd T x = .c .esl) (hu : P.underlying t = some (.slice el)) : evVal P (opnd T) M (.call { callee := .builtin .len, args := #[x], argTypes := #[t] }) = some (.c (.val (.int .i64 ((0 : Nat) : Int)))) := by
  show evLen P t (opnd T x) = _
  rw [hx]; simp [evLen, isSliceT, hu]
theorem v_minN {x y : Operand} {ts : Array TypeId} {a b : Nat} (hx : opnd T x = .c (.val (.int .i64 (a : Int)))) (hy : opnd T y = .c (.val (.int .i64 (b : Int)))) : evVal P (opnd T) M (.call { callee := .builtin .min, args := #[x, y], argTypes := ts }) = some (.c (.val (.int .i64 ((min a b : Nat) : Int)))) := by
  show evMin [opnd T x, opnd T y] = _
  rw [hx, hy]; simp only [evMin, if_true]
  congr 4
  split <;> omega
theorem v_arrP {x : Operand} {n el b o len cap sz : Nat} (hx : opnd T x = .c (.sl b o len cap sz)) (hu : P.underlying t = some (.array n el)) (h1 : n ≤ len) (h0 : 0 < n) : evVal P (opnd T) M (.sliceToArrayPointer t x) = some (.c (.ptr b o)) := by
  show evArrPtr P t (opnd T x) = _
  rw [hx]; simp [evArrPtr, hu, h1, h0]
theorem v_slA {x : Operand} {lo hi : Option Operand} {n el b o sz l h : Nat} {own : Bool} {y : Arr} (hx : opnd T x = .c (.ptr b o)) (hu : P.underlying t = some (.array n el)) (hs : szT P el = some sz) (hm : M[b]? = some (.row own y))
    (hl : bnd 0 (lo.map (opnd T)) = some (l : Int)) (hh : bnd n (hi.map (opnd T)) = some (h : Int)) (h1 : l ≤ h) (h2 : h ≤ n) (hf : o + n * sz ≤ y.size) : evVal P (opnd T) M (.slice t x lo hi none) = some (.c (.sl b (o + l * sz) (h - l) (n - l) sz)) := by
  show evSlice P M t (opnd T x) (lo.map (opnd T)) (hi.map (opnd T)) = _
  rw [hx]
  simp only [evSlice, hu, hs, hl, hh, hm]
  rw [if_pos ⟨by omega, by omega, by omega, hf⟩]
  congr 3 <;> omega
theorem v_slA1 {x : Operand} {lo hi : Option Operand} {n el b l h len cp : Nat} {own : Bool} {y : Arr} (hx : opnd T x = .c (.ptr b 0)) (hu : P.underlying t = some (.array n el)) (hs : szT P el = some 1) (hm : M[b]? = some (.row own y))
    (hl : bnd 0 (lo.map (opnd T)) = some (l : Int)) (hh : bnd n (hi.map (opnd T)) = some (h : Int)) (h1 : l ≤ h) (h2 : h ≤ n) (hf : n ≤ y.size) (hlen : h - l = len) (hcp : n - l = cp) : evVal P (opnd T) M (.slice t x lo hi none) = some (.c (.sl b l len cp 1)) := by
  subst hlen; subst hcp
  rw [v_slA hx hu hs hm hl hh h1 h2 (by omega), Nat.zero_add, Nat.mul_one]
theorem v_slS {x : Operand} {lo hi : Option Operand} {el b o sz len cap l h : Nat} (hx : opnd T x = .c (.sl b o len cap sz)) (hu : P.underlying t = some (.slice el)) (hs : szT P el = some sz)
    (hl : bnd 0 (lo.map (opnd T)) = some (l : Int)) (hh : bnd len (hi.map (opnd T)) = some (h : Int)) (h1 : l ≤ h) (h2 : h ≤ max len cap) : evVal P (opnd T) M (.slice t x lo hi none) = some (.c (.sl b (o + l * sz) (h - l) (cap - l) sz)) := by
  show evSlice P M t (opnd T x) (lo.map (opnd T)) (hi.map (opnd T)) = _
  rw [hx]
  simp only [evSlice, hu, hl, hh]
  rw [if_pos ⟨hs, by omega, by omega, by omega⟩]
  congr 3 <;> omega
theorem v_slS1 {x : Operand} {lo hi : Option Operand} {el b len cap l h : Nat} (hx : opnd T x = .c (.sl b 0 len cap 1)) (hu : P.underlying t = some (.slice el)) (hs : szT P el = some 1)
    (hl : bnd 0 (lo.map (opnd T)) = some (l : Int)) (hh : bnd len (hi.map (opnd T)) = some (h : Int)) (h1 : l ≤ h) (h2 : h ≤ max len cap) : evVal P (opnd T) M (.slice t x lo hi none) = some (.c (.sl b l (h - l) (cap - l) 1)) := by
  rw [v_slS hx hu hs hl hh h1 h2, Nat.zero_add, Nat.mul_one]
theorem v_slSo {x : Operand} {lo hi : Option Operand} {el b o len cap l h : Nat} (hx : opnd T x = .c (.sl b o len cap 1)) (hu : P.underlying t = some (.slice el)) (hs : szT P el = some 1)
    (hl : bnd 0 (lo.map (opnd T)) = some (l : Int)) (hh : bnd len (hi.map (opnd T)) = some (h : Int)) (h1 : l ≤ h) (h2 : h ≤ max len cap) : evVal P (opnd T) M (.slice t x lo hi none) = some (.c (.sl b (o + l) (h - l) (cap - l) 1)) := by
  rw [v_slS hx hu hs hl hh h1 h2, Nat.mul_one]
theorem v_slS0 {x : Operand} {hi : Option Operand} {el b o sz len cap h : Nat} (hx : opnd T x = .c (.sl b o len cap sz)) (hu : P.underlying t = some (.slice el)) (hs : szT P el = some sz)
    (hh : bnd len (hi.map (opnd T)) = some (h : Int)) (h2 : h ≤ max len cap) : evVal P (opnd T) M (.slice t x none hi none) = some (.c (.sl b o h cap sz)) := by
  rw [v_slS (lo := none) (l := 0) hx hu hs rfl hh (Nat.zero_le _) h2]; simp
theorem all_map {α : Type} {f : Value → Option α} {g : α → Value} (h : ∀ x, f (g x) = some x) : ∀ l : List α, all? f (l.map g) = some l
  | [] => rfl
  | x :: l => by simp [all?, h, all_map h l]
theorem abs8 (l : List (BitVec 8)) : absArr (l.map U8) = .a8 l := by unfold absArr; rw [all_map w8?_U8]
theorem all_none {α β : Type} {f : Value → Option α} {g : β → Value} (h : ∀ x, f (g x) = none) : ∀ l : List β, l ≠ [] → all? f (l.map g) = none
  | [], hl => absurd rfl hl
  | x :: l, _ => by simp [all?, h]
theorem abs32 {l : List (BitVec 32)} (hl : l ≠ []) : absArr (l.map U32) = .a32 l := by unfold absArr; rw [all_none (fun _ => rfl) l hl, all_map w32?_U32]
theorem absI {l : List Int} (hl : l ≠ []) : absArr (l.map (Value.int .i64)) = .ai l := by unfold absArr; rw [all_none (fun _ => rfl) l hl, all_none (fun _ => rfl) l hl, all_none (fun _ => rfl) l hl, all_map (f := i?) (g := Value.int .i64) (fun _ => rfl)]
theorem m_bs0 {el sz by' : Nat} (hu : P.underlying t = some (.slice el)) (he : elemOk P el = some (sz, by')) : evMem P (opnd T) M (.buildSlice t 0 #[]) = some (.c .esl, M ++ []) := by
  show evBuildSlice P M t 0 [] = _
  simp [evBuildSlice, hu, he]
theorem m_bs {el by' len n : Nat} {ps : Array (Nat × Operand)} {vs : List Value} (hu : P.underlying t = some (.slice el)) (he : elemOk P el = some (1, by')) (hd : denseA 0 (ps.toList.map fun p => (p.1, opnd T p.2)) = some vs) (hl : ps.toList.length = len) (h0 : ¬ len = 0) (h1 : len ≤ 16777216) (hn : M.length = n) :
    evMem P (opnd T) M (.buildSlice t len ps) = some (.c (.sl n 0 len len 1), M ++ [.row true (absArr vs)]) := by
  show evBuildSlice P M t len (ps.toList.map fun p => (p.1, opnd T p.2)) = _
  subst hn
  simp only [evBuildSlice, hu, he, Nat.mul_one]
  rw [if_neg h0, if_pos h1, if_pos ⟨trivial, by simpa using hl⟩, hd]
theorem m_bs8 {l : List (BitVec 8)} {el by' len n : Nat} {ps : Array (Nat × Operand)} (hu : P.underlying t = some (.slice el)) (he : elemOk P el = some (1, by')) (hd : denseA 0 (ps.toList.map fun p => (p.1, opnd T p.2)) = some (l.map U8)) (hl : ps.toList.length = len) (h0 : ¬ len = 0) (h1 : len ≤ 16777216) (hn : M.length = n) :
    evMem P (opnd T) M (.buildSlice t len ps) = some (.c (.sl n 0 len len 1), M ++ [.row true (.a8 l)]) := by
  have hn0 : l ≠ [] := by
    intro e; subst e
    have := denseA_len hd
    have h9 : ps.toList.length = ps.size := by simp
    simp at this
    omega
  rw [m_bs hu he hd hl h0 h1 hn, abs8 l]
theorem m_make8 {x y : Operand} {el by' a b n : Nat} {ka kb : IntKind} (hu : P.underlying t = some (.slice el)) (hx : opnd T x = .c (.val (.int ka (a : Int)))) (hy : opnd T y = .c (.val (.int kb (b : Int)))) (he : elemOk P el = some (1, by')) (hrep : ∀ n, repArr P el n = some (.a8 (zer8 n))) (h1 : a ≤ b) (h2 : b * by' ≤ 281474976710656) (h3 : b ≤ 9223372036854775807) (hn : M.length = n) :
    evMem P (opnd T) M (.makeSlice t x y) = some (.c (.sl n 0 a b 1), M ++ [.row true (.a8 (zer8 b))]) := by
  show evMakeSlice P M t (opnd T x) (opnd T y) = _
  subst hn
  rw [hx, hy]
  simp only [evMakeSlice, hu, intOf?, he]
  rw [if_pos ⟨by omega, by omega, by rw [← Int.natCast_mul]; omega, by omega⟩]
  simp [hrep]
theorem m_appE8 {s x : Operand} {el by' b n c m : Nat} {own : Bool} {r : List (BitVec 8)} {e2 : TypeId} (hs : opnd T s = .c .esl) (hx : opnd T x = .c (.sl b 0 n c 1)) (hm : M[b]? = some (.row own (.a8 r))) (hu : P.underlying t = some (.slice el)) (hu2 : P.underlying t' = some (.slice e2)) (he : elemOk P el = some (1, by')) (hl : r.length = n) (hb : n * by' ≤ 140737488355328 ∧ n ≤ 9223372036854775807) (hn : M.length = m) :
    evMem P (opnd T) M (.call { callee := .builtin .append, args := #[s, x], argTypes := #[t, t'] }) = some (.c (.sl m 0 n n 1), M ++ [.row true (.a8 r)]) := by
  show evAppend P M t t' (opnd T s) (opnd T x) = _
  subst hn
  rw [hs, hx]
  have hz : Arr.size (.a8 r) = n := hl
  simp [evAppend, hu, noIntT, hu2, he, srcOf, hm, hz, winA, Arr.one, hb.1, hb.2]
theorem m_appE8c {s x : Operand} {el by' b o n c m : Nat} {own : Bool} {r : List (BitVec 8)} {e2 : TypeId} (hs : opnd T s = .c .esl) (hx : opnd T x = .c (.sl b o n c 1)) (hm : M[b]? = some (.row own (.a8 r))) (hu : P.underlying t = some (.slice el)) (hu2 : P.underlying t' = some (.slice e2)) (he : elemOk P el = some (1, by')) (hl : o + n ≤ r.length) (hb : n * by' ≤ 140737488355328 ∧ n ≤ 9223372036854775807) (hn : M.length = m) :
    evMem P (opnd T) M (.call { callee := .builtin .append, args := #[s, x], argTypes := #[t, t'] }) = some (.c (.sl m 0 n n 1), M ++ [.row true (.a8 (cut r o n))]) := by
  show evAppend P M t t' (opnd T s) (opnd T x) = _
  subst hn
  rw [hs, hx]
  have hw : winA (.a8 r) o (n * 1) = .a8 (cut r o n) := by
    unfold winA
    split
    · rename_i h
      have h2 : r.length = n := by have := h.2; simp [Arr.size] at this; omega
      rw [h.1]; subst h2; simp [cut]
    · rw [Nat.mul_one]; rfl
  have hsz : o + n * 1 ≤ Arr.size (.a8 r) := by simp [Arr.size]; exact hl
  have hsrc : srcOf M 1 (.c (.sl b o n c 1)) = some (n, .a8 (cut r o n)) := by
    simp only [srcOf, hm]
    rw [if_pos ⟨trivial, hsz⟩, hw]
  simp [evAppend, hu, noIntT, hu2, he, hsrc, Arr.one, hb.1, hb.2]
theorem m_appN8 {s x : Operand} {el by' b n c m : Nat} {own : Bool} {r : List (BitVec 8)} {e2 : TypeId} (hs : opnd T s = .c .nsl) (hx : opnd T x = .c (.sl b 0 n c 1)) (hm : M[b]? = some (.row own (.a8 r))) (hu : P.underlying t = some (.slice el)) (hu2 : P.underlying t' = some (.slice e2)) (he : elemOk P el = some (1, by')) (hl : r.length = n) (hb : n * by' ≤ 140737488355328 ∧ n ≤ 9223372036854775807) (hn : M.length = m) :
    evMem P (opnd T) M (.call { callee := .builtin .append, args := #[s, x], argTypes := #[t, t'] }) = some (.c (.sl m 0 n n 1), M ++ [.row true (.a8 r)]) := by
  show evAppend P M t t' (opnd T s) (opnd T x) = _
  subst hn
  rw [hs, hx]
  have hz : Arr.size (.a8 r) = n := hl
  simp [evAppend, hu, noIntT, hu2, he, srcOf, hm, hz, winA, Arr.one, hb.1, hb.2]
theorem m_appN8c {s x : Operand} {el by' b o n c m : Nat} {own : Bool} {r : List (BitVec 8)} {e2 : TypeId} (hs : opnd T s = .c .nsl) (hx : opnd T x = .c (.sl b o n c 1)) (hm : M[b]? = some (.row own (.a8 r))) (hu : P.underlying t = some (.slice el)) (hu2 : P.underlying t' = some (.slice e2)) (he : elemOk P el = some (1, by')) (hl : o + n ≤ r.length) (hb : n * by' ≤ 140737488355328 ∧ n ≤ 9223372036854775807) (hn : M.length = m) :
    evMem P (opnd T) M (.call { callee := .builtin .append, args := #[s, x], argTypes := #[t, t'] }) = some (.c (.sl m 0 n n 1), M ++ [.row true (.a8 (cut r o n))]) := by
  show evAppend P M t t' (opnd T s) (opnd T x) = _
  subst hn
  rw [hs, hx]
  have hw : winA (.a8 r) o (n * 1) = .a8 (cut r o n) := by
    unfold winA
    split
    · rename_i h
      have h2 : r.length = n := by have := h.2; simp [Arr.size] at this; omega
      rw [h.1]; subst h2; simp [cut]
    · rw [Nat.mul_one]; rfl
  have hsz : o + n * 1 ≤ Arr.size (.a8 r) := by simp [Arr.size]; exact hl
  have hsrc : srcOf M 1 (.c (.sl b o n c 1)) = some (n, .a8 (cut r o n)) := by
    simp only [srcOf, hm]
    rw [if_pos ⟨trivial, hsz⟩, hw]
  simp [evAppend, hu, noIntT, hu2, he, hsrc, Arr.one, hb.1, hb.2]
theorem s_app8 {s x : Operand} {el by' b0 len cap b n c m : Nat} {own : Bool} {u r : List (BitVec 8)} {e2 : TypeId} (hs : opnd T s = .c (.sl b0 0 len cap 1)) (hms : M[b0]? = some (.row true (.a8 u))) (hx : opnd T x = .c (.sl b 0 n c 1)) (hm : M[b]? = some (.row own (.a8 r))) (hu : P.underlying t = some (.slice el)) (hu2 : P.underlying t' = some (.slice e2)) (he : elemOk P el = some (1, by'))
    (hlu : u.length = len) (hl : r.length = n) (hb : (len + n) * by' ≤ 140737488355328 ∧ len + n ≤ 9223372036854775807 ∧ n * by' ≤ 140737488355328) (hn : M.length = m) (hM : M.set b0 .dead ++ [.row true (.a8 (u ++ r))] = M') (hd : decide (d < N) = true) (hk : WO P k ops l0 ⟨N, upd T d (.c (.sl m 0 (len + n) (len + n) 1)), M'⟩ K) :
    WO P k ops (⟨some d, .call { callee := .builtin .append, args := #[s, x], argTypes := #[t, t'] }, ty, pos, af, none⟩ :: l0) ⟨N, T, M⟩ K :=
  s_mem (by
    show evAppend P M t t' (opnd T s) (opnd T x) = _
    subst hn; subst hM
    rw [hs, hx]
    have hz : Arr.size (.a8 r) = n := hl
    have hz2 : Arr.size (.a8 u) = len := hlu
    have hn9 : n ≤ 9223372036854775807 := by omega
    simp [evAppend, hu, noIntT, hu2, he, srcOf, hm, hms, hz, hz2, winA, Arr.one, Arr.app, hb.1, hb.2.1, hb.2.2, hn9]) hd hk
theorem s_app8c {s x : Operand} {el by' b0 len cap b o n c m : Nat} {own : Bool} {u r : List (BitVec 8)} {e2 : TypeId} (hs : opnd T s = .c (.sl b0 0 len cap 1)) (hms : M[b0]? = some (.row true (.a8 u))) (hx : opnd T x = .c (.sl b o n c 1)) (hm : M[b]? = some (.row own (.a8 r))) (hu : P.underlying t = some (.slice el)) (hu2 : P.underlying t' = some (.slice e2)) (he : elemOk P el = some (1, by'))
    (hlu : u.length = len) (hl : o + n ≤ r.length) (hb : (len + n) * by' ≤ 140737488355328 ∧ len + n ≤ 9223372036854775807 ∧ n * by' ≤ 140737488355328) (hn : M.length = m) (hM : M.set b0 .dead ++ [.row true (.a8 (u ++ cut r o n))] = M') (hd : decide (d < N) = true) (hk : WO P k ops l0 ⟨N, upd T d (.c (.sl m 0 (len + n) (len + n) 1)), M'⟩ K) :
    WO P k ops (⟨some d, .call { callee := .builtin .append, args := #[s, x], argTypes := #[t, t'] }, ty, pos, af, none⟩ :: l0) ⟨N, T, M⟩ K :=
  s_mem (by
    show evAppend P M t t' (opnd T s) (opnd T x) = _
    subst hn; subst hM
    rw [hs, hx]
    have hw : winA (.a8 r) o (n * 1) = .a8 (cut r o n) := by
      unfold winA
      split
      · rename_i h
        have h2 : r.length = n := by have := h.2; simp [Arr.size] at this; omega
        rw [h.1]; subst h2; simp [cut]
      · rw [Nat.mul_one]; rfl
    have hsz : o + n * 1 ≤ Arr.size (.a8 r) := by simp [Arr.size]; exact hl
    have hsrc : srcOf M 1 (.c (.sl b o n c 1)) = some (n, .a8 (cut r o n)) := by
      simp only [srcOf, hm]
      rw [if_pos ⟨trivial, hsz⟩, hw]
    have hz2 : Arr.size (.a8 u) = len := hlu
    have hn9 : n ≤ 9223372036854775807 := by omega
    simp [evAppend, hu, noIntT, hu2, he, hsrc, hms, hz2, winA, Arr.one, Arr.app, hb.1, hb.2.1, hb.2.2, hn9]) hd hk
theorem m_bs32 {l : List (BitVec 32)} {el by' len n : Nat} {ps : Array (Nat × Operand)} (hu : P.underlying t = some (.slice el)) (he : elemOk P el = some (1, by')) (hd : denseA 0 (ps.toList.map fun p => (p.1, opnd T p.2)) = some (l.map U32)) (hl : ps.toList.length = len) (h0 : ¬ len = 0) (h1 : len ≤ 16777216) (hn : M.length = n) :
    evMem P (opnd T) M (.buildSlice t len ps) = some (.c (.sl n 0 len len 1), M ++ [.row true (.a32 l)]) := by
  have hn0 : l ≠ [] := by
    intro e; subst e
    have := denseA_len hd
    have h9 : ps.toList.length = ps.size := by simp
    simp at this
    omega
  rw [m_bs hu he hd hl h0 h1 hn, abs32 hn0]
theorem v_bld32 {l : List (BitVec 32)} {n el : Nat} {ps : Array (Nat × Operand)} (hz : (P.info? t).bind (fun i => i.zero.map (·.cells.size)) = some n) (hu : P.underlying t = some (.array n el)) (hs : szT P el = some 1) (hd : denseA 0 (ps.toList.map fun p => (p.1, opnd T p.2)) = some (l.map U32)) (hl : ps.toList.length = n) (h0 : ¬ n = 0) :
    evVal P (opnd T) M (.build t ps) = some (.agg (.a32 l)) := by
  show evBuild P t (ps.toList.map fun p => (p.1, opnd T p.2)) = _
  obtain ⟨it, hi, hz2⟩ := Option.bind_eq_some_iff.1 hz
  obtain ⟨z, hz3, hz4⟩ := Option.map_eq_some_iff.1 hz2
  obtain ⟨ie, hie, h1⟩ := Option.map_eq_some_iff.1 hs
  have hn0 : l ≠ [] := by
    intro e; subst e
    have := denseA_len hd
    have h9 : ps.toList.length = ps.size := by simp
    simp at this
    omega
  simp only [evBuild, hi, hu, hz3, hie]
  rw [if_pos ⟨h1, by simpa using hl, hz4⟩, hd]
  simp only [abs32 hn0]
theorem m_bsI {l : List (Int)} {el by' len n : Nat} {ps : Array (Nat × Operand)} (hu : P.underlying t = some (.slice el)) (he : elemOk P el = some (1, by')) (hd : denseA 0 (ps.toList.map fun p => (p.1, opnd T p.2)) = some (l.map (Value.int .i64))) (hl : ps.toList.length = len) (h0 : ¬ len = 0) (h1 : len ≤ 16777216) (hn : M.length = n) :
    evMem P (opnd T) M (.buildSlice t len ps) = some (.c (.sl n 0 len len 1), M ++ [.row true (.ai l)]) := by
  have hn0 : l ≠ [] := by
    intro e; subst e
    have := denseA_len hd
    have h9 : ps.toList.length = ps.size := by simp
    simp at this
    omega
  rw [m_bs hu he hd hl h0 h1 hn, absI hn0]
theorem m_appEI {s x : Operand} {el by' b n c m : Nat} {own : Bool} {r : List (Int)} {e2 : TypeId} (hs : opnd T s = .c .esl) (hx : opnd T x = .c (.sl b 0 n c 1)) (hm : M[b]? = some (.row own (.ai r))) (hu : P.underlying t = some (.slice el)) (hu2 : P.underlying t' = some (.slice e2)) (he : elemOk P el = some (1, by')) (hl : r.length = n) (hb : n * by' ≤ 140737488355328 ∧ n ≤ 9223372036854775807) (hn : M.length = m) :
    evMem P (opnd T) M (.call { callee := .builtin .append, args := #[s, x], argTypes := #[t, t'] }) = some (.c (.sl m 0 n n 1), M ++ [.row true (.ai r)]) := by
  show evAppend P M t t' (opnd T s) (opnd T x) = _
  subst hn
  rw [hs, hx]
  have hz : Arr.size (.ai r) = n := hl
  simp [evAppend, hu, noIntT, hu2, he, srcOf, hm, hz, winA, Arr.one, hb.1, hb.2]
theorem m_appEIc {s x : Operand} {el by' b o n c m : Nat} {own : Bool} {r : List (Int)} {e2 : TypeId} (hs : opnd T s = .c .esl) (hx : opnd T x = .c (.sl b o n c 1)) (hm : M[b]? = some (.row own (.ai r))) (hu : P.underlying t = some (.slice el)) (hu2 : P.underlying t' = some (.slice e2)) (he : elemOk P el = some (1, by')) (hl : o + n ≤ r.length) (hb : n * by' ≤ 140737488355328 ∧ n ≤ 9223372036854775807) (hn : M.length = m) :
    evMem P (opnd T) M (.call { callee := .builtin .append, args := #[s, x], argTypes := #[t, t'] }) = some (.c (.sl m 0 n n 1), M ++ [.row true (.ai (cut r o n))]) := by
  show evAppend P M t t' (opnd T s) (opnd T x) = _
  subst hn
  rw [hs, hx]
  have hw : winA (.ai r) o (n * 1) = .ai (cut r o n) := by
    unfold winA
    split
    · rename_i h
      have h2 : r.length = n := by have := h.2; simp [Arr.size] at this; omega
      rw [h.1]; subst h2; simp [cut]
    · rw [Nat.mul_one]; rfl
  have hsz : o + n * 1 ≤ Arr.size (.ai r) := by simp [Arr.size]; exact hl
  have hsrc : srcOf M 1 (.c (.sl b o n c 1)) = some (n, .ai (cut r o n)) := by
    simp only [srcOf, hm]
    rw [if_pos ⟨trivial, hsz⟩, hw]
  simp [evAppend, hu, noIntT, hu2, he, hsrc, Arr.one, hb.1, hb.2]
theorem m_appNI {s x : Operand} {el by' b n c m : Nat} {own : Bool} {r : List (Int)} {e2 : TypeId} (hs : opnd T s = .c .nsl) (hx : opnd T x = .c (.sl b 0 n c 1)) (hm : M[b]? = some (.row own (.ai r))) (hu : P.underlying t = some (.slice el)) (hu2 : P.underlying t' = some (.slice e2)) (he : elemOk P el = some (1, by')) (hl : r.length = n) (hb : n * by' ≤ 140737488355328 ∧ n ≤ 9223372036854775807) (hn : M.length = m) :
    evMem P (opnd T) M (.call { callee := .builtin .append, args := #[s, x], argTypes := #[t, t'] }) = some (.c (.sl m 0 n n 1), M ++ [.row true (.ai r)]) := by
  show evAppend P M t t' (opnd T s) (opnd T x) = _
  subst hn
  rw [hs, hx]
  have hz : Arr.size (.ai r) = n := hl
  simp [evAppend, hu, noIntT, hu2, he, srcOf, hm, hz, winA, Arr.one, hb.1, hb.2]
theorem m_appNIc {s x : Operand} {el by' b o n c m : Nat} {own : Bool} {r : List (Int)} {e2 : TypeId} (hs : opnd T s = .c .nsl) (hx : opnd T x = .c (.sl b o n c 1)) (hm : M[b]? = some (.row own (.ai r))) (hu : P.underlying t = some (.slice el)) (hu2 : P.underlying t' = some (.slice e2)) (he : elemOk P el = some (1, by')) (hl : o + n ≤ r.length) (hb : n * by' ≤ 140737488355328 ∧ n ≤ 9223372036854775807) (hn : M.length = m) :
    evMem P (opnd T) M (.call { callee := .builtin .append, args := #[s, x], argTypes := #[t, t'] }) = some (.c (.sl m 0 n n 1), M ++ [.row true (.ai (cut r o n))]) := by
  show evAppend P M t t' (opnd T s) (opnd T x) = _
  subst hn
  rw [hs, hx]
  have hw : winA (.ai r) o (n * 1) = .ai (cut r o n) := by
    unfold winA
    split
    · rename_i h
      have h2 : r.length = n := by have := h.2; simp [Arr.size] at this; omega
      rw [h.1]; subst h2; simp [cut]
    · rw [Nat.mul_one]; rfl
  have hsz : o + n * 1 ≤ Arr.size (.ai r) := by simp [Arr.size]; exact hl
  have hsrc : srcOf M 1 (.c (.sl b o n c 1)) = some (n, .ai (cut r o n)) := by
    simp only [srcOf, hm]
    rw [if_pos ⟨trivial, hsz⟩, hw]
  simp [evAppend, hu, noIntT, hu2, he, hsrc, Arr.one, hb.1, hb.2]
theorem s_appI {s x : Operand} {el by' b0 len cap b n c m : Nat} {own : Bool} {u r : List (Int)} {e2 : TypeId} (hs : opnd T s = .c (.sl b0 0 len cap 1)) (hms : M[b0]? = some (.row true (.ai u))) (hx : opnd T x = .c (.sl b 0 n c 1)) (hm : M[b]? = some (.row own (.ai r))) (hu : P.underlying t = some (.slice el)) (hu2 : P.underlying t' = some (.slice e2)) (he : elemOk P el = some (1, by'))
    (hlu : u.length = len) (hl : r.length = n) (hb : (len + n) * by' ≤ 140737488355328 ∧ len + n ≤ 9223372036854775807 ∧ n * by' ≤ 140737488355328) (hn : M.length = m) (hM : M.set b0 .dead ++ [.row true (.ai (u ++ r))] = M') (hd : decide (d < N) = true) (hk : WO P k ops l0 ⟨N, upd T d (.c (.sl m 0 (len + n) (len + n) 1)), M'⟩ K) :
    WO P k ops (⟨some d, .call { callee := .builtin .append, args := #[s, x], argTypes := #[t, t'] }, ty, pos, af, none⟩ :: l0) ⟨N, T, M⟩ K :=
  s_mem (by
    show evAppend P M t t' (opnd T s) (opnd T x) = _
    subst hn; subst hM
    rw [hs, hx]
    have hz : Arr.size (.ai r) = n := hl
    have hz2 : Arr.size (.ai u) = len := hlu
    have hn9 : n ≤ 9223372036854775807 := by omega
    simp [evAppend, hu, noIntT, hu2, he, srcOf, hm, hms, hz, hz2, winA, Arr.one, Arr.app, hb.1, hb.2.1, hb.2.2, hn9]) hd hk
theorem s_appIc {s x : Operand} {el by' b0 len cap b o n c m : Nat} {own : Bool} {u r : List (Int)} {e2 : TypeId} (hs : opnd T s = .c (.sl b0 0 len cap 1)) (hms : M[b0]? = some (.row true (.ai u))) (hx : opnd T x = .c (.sl b o n c 1)) (hm : M[b]? = some (.row own (.ai r))) (hu : P.underlying t = some (.slice el)) (hu2 : P.underlying t' = some (.slice e2)) (he : elemOk P el = some (1, by'))
    (hlu : u.length = len) (hl : o + n ≤ r.length) (hb : (len + n) * by' ≤ 140737488355328 ∧ len + n ≤ 9223372036854775807 ∧ n * by' ≤ 140737488355328) (hn : M.length = m) (hM : M.set b0 .dead ++ [.row true (.ai (u ++ cut r o n))] = M') (hd : decide (d < N) = true) (hk : WO P k ops l0 ⟨N, upd T d (.c (.sl m 0 (len + n) (len + n) 1)), M'⟩ K) :
    WO P k ops (⟨some d, .call { callee := .builtin .append, args := #[s, x], argTypes := #[t, t'] }, ty, pos, af, none⟩ :: l0) ⟨N, T, M⟩ K :=
  s_mem (by
    show evAppend P M t t' (opnd T s) (opnd T x) = _
    subst hn; subst hM
    rw [hs, hx]
    have hw : winA (.ai r) o (n * 1) = .ai (cut r o n) := by
      unfold winA
      split
      · rename_i h
        have h2 : r.length = n := by have := h.2; simp [Arr.size] at this; omega
        rw [h.1]; subst h2; simp [cut]
      · rw [Nat.mul_one]; rfl
    have hsz : o + n * 1 ≤ Arr.size (.ai r) := by simp [Arr.size]; exact hl
    have hsrc : srcOf M 1 (.c (.sl b o n c 1)) = some (n, .ai (cut r o n)) := by
      simp only [srcOf, hm]
      rw [if_pos ⟨trivial, hsz⟩, hw]
    have hz2 : Arr.size (.ai u) = len := hlu
    have hn9 : n ≤ 9223372036854775807 := by omega
    simp [evAppend, hu, noIntT, hu2, he, hsrc, hms, hz2, winA, Arr.one, Arr.app, hb.1, hb.2.1, hb.2.2, hn9]) hd hk
theorem v_pickT {c a b : Operand} {p : Bool} {v : AV} (hc : opnd T c = .c (.val (.bool p))) (hp : p = true) (ha : opnd T a = v) : evVal P (opnd T) M (.pick c a b) = some v := by
  subst hp
  simp only [evVal, hc, if_true, ha]
theorem v_pickF {c a b : Operand} {p : Bool} {v : AV} (hc : opnd T c = .c (.val (.bool p))) (hp : p = false) (hb : opnd T b = v) : evVal P (opnd T) M (.pick c a b) = some v := by
  subst hp
  simp only [evVal, hc, hb]
  rfl
theorem v_unxor32 {x : Operand} {a : BitVec 32} (hx : opnd T x = .c (.val (U32 a))) : evVal P (opnd T) M (.unOp .xor t x) = some (.c (.val (U32 (~~~a)))) := by
  simp only [evVal, hx, not32]; rfl
theorem v_unnotB {x : Operand} {a : Bool} (hx : opnd T x = .c (.val (.bool a))) : evVal P (opnd T) M (.unOp .not t x) = some (.c (.val (.bool (!a)))) := by
  simp only [evVal, hx]; rfl
theorem v_eqlI {x y : Operand} {a b : Int} (hx : opnd T x = .c (.val (.int .i64 a))) (hy : opnd T y = .c (.val (.int .i64 b))) : evVal P (opnd T) M (.binOp .eql t x y t') = some (.c (.val (.bool (a == b)))) := v_bin hx hy eqlI
theorem v_neqI {x y : Operand} {a b : Int} (hx : opnd T x = .c (.val (.int .i64 a))) (hy : opnd T y = .c (.val (.int .i64 b))) : evVal P (opnd T) M (.binOp .neq t x y t') = some (.c (.val (.bool (a != b)))) := v_bin hx hy neqI
theorem e_call {f : FuncId} {ops2 : Array Operand} {ts : Array TypeId} {args : List AV} {mc mc' : Mem} {bs : List Nat} {v v' : AV} {news : Mem} (h : Ev P (.call f args mc) (.val v mc')) (hf : (P.funcs[f]?).any (fun fn => fn.body.isSome && !(fn.name == "runtime.NumGoroutine")) = true)
    (hin : canon 0 (ops2.toList.map (opnd T)) M = some (args, mc, bs)) (hM : backRows bs mc' (backRen bs M.length) 0 M = M) (hN : (mc'.drop bs.length).map (Row.ren (backRen bs M.length)) = news) (hv : v.ren (backRen bs M.length) = v') :
    Ev P (.op (.call { callee := .value (.func f), args := ops2, argTypes := ts }) (opnd T) M) (.val v' (M ++ news)) := by
  have := Ev.fn (c := { callee := .value (.func f), args := ops2, argTypes := ts }) (e := opnd T) f rfl rfl hf hin h
  simp only [linkOut, hM, hN, hv] at this
  exact this
theorem e_callR {f : FuncId} {ops2 : Array Operand} {ts : Array TypeId} {args : List AV} {mc mc' : Mem} {bs : List Nat} {v v' : AV} {news : Mem} (h : Ev P (.call f args mc) (.val v mc')) (hf : (P.funcs[f]?).any (fun fn => fn.body.isSome && !(fn.name == "runtime.NumGoroutine")) = true)
    (hin : canon 0 (ops2.toList.map (opnd T)) (roMem M) = some (args, mc, bs)) (hM : backRows bs mc' (backRen bs (roMem M).length) 0 (roMem M) = roMem M) (hN : (mc'.drop bs.length).map (Row.ren (backRen bs (roMem M).length)) = news) (hv : v.ren (backRen bs (roMem M).length) = v') :
    Ev P (.op (.call { callee := .value (.func f), args := ops2, argTypes := ts }) (opnd T) M) (.val v' (M ++ news)) :=
  .ro (e_call h hf hin hM hN hv)
theorem e_callK {f : FuncId} {ops2 : Array Operand} {ts : Array TypeId} {args : List AV} {mc mc' : Mem} {bs : List Nat} {v v' : AV} {news M1 : Mem} (h : Ev P (.call f args mc) (.val v mc')) (hf : (P.funcs[f]?).any (fun fn => fn.body.isSome && !(fn.name == "runtime.NumGoroutine")) = true)
    (hin : canon 0 (ops2.toList.map (opnd T)) M = some (args, mc, bs)) (hM : backRows bs mc' (backRen bs M.length) 0 M = M1) (hN : (mc'.drop bs.length).map (Row.ren (backRen bs M.length)) = news) (hv : v.ren (backRen bs M.length) = v') (hA : M1 ++ news = M') :
    Ev P (.op (.call { callee := .value (.func f), args := ops2, argTypes := ts }) (opnd T) M) (.val v' M') := by
  have := Ev.fn (c := { callee := .value (.func f), args := ops2, argTypes := ts }) (e := opnd T) f rfl rfl hf hin h
  simp only [linkOut, hM, hN, hv, hA] at this
  exact this
def viewOf (r : List (Option Nat)) (j : Nat) : Option Nat := (r[j]?).bind id
theorem e_add {f : FuncId} {x y z : Operand} {ts : Array TypeId} {a b : BitVec 64} {cv : Value} {c : BitVec 64} (hf : ExtIs P f add64Entry) (hx : opnd T x = .c (.val (U64 a))) (hy : opnd T y = .c (.val (U64 b))) (hz : opnd T z = .c (.val cv)) (hcv : cv = U64 c) (hc : c.toNat ≤ 1) :
    Ev P (.op (.call { callee := .value (.func f), args := #[x, y, z], argTypes := ts }) (opnd T) M) (.val (addAV a b c) (M ++ [])) := by
  rw [List.append_nil]
  refine Ev.add64 f rfl rfl hf ?_
  show ev64 addAV [opnd T x, opnd T y, opnd T z] = _
  rw [hx, hy, hz, hcv]
  simp [ev64, hc]
end
end Go.Proofs.YtmbepikkgkcgkaaGreatDoor
namespace Go.Proofs.YtmbepikkgkcgkaaGreatDoor
open Go.RowKit
theorem cut_all {α : Type} {l : List α} {n : Nat} (h : l.length = n) : cut l 0 n = l := by subst h; simp [cut]
theorem emb_lt {ι : Emb} {M : Mem} {w : World} (hR : R ι M w) {b : Nat} {l : Loc} (h : ι b = some l) : b < M.length := by
  rcases Nat.lt_or_ge b M.length with h1 | h1
  · exact h1
  · rw [hR.dom b h1] at h; cases h
theorem app_lt {M : Mem} {x : Row} {b : Nat} (h : b < M.length) : (M ++ [x])[b]? = M[b]? := List.getElem?_append_left h
theorem nil_step {k : Nat} {ι : Emb} {M : Mem} {w : World} {x : Arr} (hk : k ≤ M.length) (hR : R ι M w) : Step k ι M w ι (M ++ [.row true x]) w := by
  have lt := fun {b : Nat} {l : Loc} (h : ι b = some l) => emb_lt hR h
  refine Step.make hR (fun b hb => hR.dom b (by simp at hb; omega)) (fun b l own y h1 h2 => ?_) (fun b b' l l' own own' y y' hne h1 h2 h3 h4 ho => ?_) ⟨rfl, rfl, rfl, Nat.le_refl _, fun _ _ _ => rfl, ?_⟩ rfl (fun _ _ => rfl) (by simp; omega) (fun b y hb h => ?_) (fun b own y hb h => ?_) (fun b l own y hb h1 h2 => ?_)
  · rw [app_lt (lt h1)] at h2; exact hR.rows b l own y h1 h2
  · rw [app_lt (lt h1)] at h3; rw [app_lt (lt h2)] at h4; exact hR.inj b b' l l' own own' y y' hne h1 h2 h3 h4 ho
  · rintro c ⟨b, l, y, h1, h2, h3⟩
    rw [app_lt (lt h1)] at h2; exact .inr ⟨b, l, y, h1, h2, h3⟩
  · rw [app_lt (by omega)]; exact h
  · rw [app_lt (by omega)] at h; exact ⟨y, h⟩
  · rw [app_lt (lt h1)] at h2; exact .inr (.inr ⟨b, l, own, y, hb, h1, h2, rfl⟩)
def moveEmb (n b : Nat) (ι : Emb) : Emb := ⟨fun i => if i = n then ι b else ι i, ι.tx⟩
theorem move_le {ι : Emb} {M : Mem} {w : World} (hR : R ι M w) (b : Nat) : ι.le (moveEmb M.length b ι) := by
  refine ⟨fun i l h => ?_, fun _ _ _ h => h⟩
  have := emb_lt hR h
  unfold moveEmb
  dsimp only
  rw [if_neg (by omega)]; exact h
theorem move_step {k : Nat} {ι : Emb} {M : Mem} {w : World} {b : Nat} {x : Arr} (hk : k ≤ M.length) (hR : R ι M w) (hb : M[b]? = some (.row true x)) : Step k ι M w (moveEmb M.length b ι) (M.set b .dead ++ [.row true x]) w := by
  have hbl : b < M.length := by
    rcases Nat.lt_or_ge b M.length with h1 | h1
    · exact h1
    · rw [List.getElem?_eq_none h1] at hb; cases hb
  have e1 : ∀ {i : Nat}, i ≠ M.length → moveEmb M.length b ι i = ι i := fun h => if_neg h
  have e2 : moveEmb M.length b ι M.length = ι b := if_pos rfl
  -- a row that is there after it
  have src : ∀ {i : Nat} {own : Bool} {y : Arr}, (M.set b .dead ++ [.row true x])[i]? = some (.row own y) → (i = M.length ∧ own = true ∧ y = x) ∨ (i < M.length ∧ i ≠ b ∧ M[i]? = some (.row own y)) := by
    intro i own y h
    rcases Nat.lt_trichotomy i M.length with h1 | h1 | h1
    · right
      rw [List.getElem?_append_left (by simp; exact h1), List.getElem?_set] at h
      by_cases e : b = i
      · subst e; simp [h1] at h
      · rw [if_neg e] at h; exact ⟨h1, fun h => e h.symm, h⟩
    · left
      subst h1
      rw [List.getElem?_append_right (by simp)] at h
      simp only [List.length_set, Nat.sub_self, List.getElem?_cons_zero, Option.some.injEq, Row.row.injEq] at h
      exact ⟨rfl, h.1.symm, h.2.symm⟩
    · rw [List.getElem?_eq_none (by simp; omega)] at h; cases h
  -- where it was
  have org : ∀ {i : Nat} {l : Loc} {own : Bool} {y : Arr}, moveEmb M.length b ι i = some l → (M.set b .dead ++ [.row true x])[i]? = some (.row own y) → ∃ i0, ι i0 = some l ∧ M[i0]? = some (.row own y) ∧ (i0 = i ∨ (i0 = b ∧ i = M.length)) := by
    intro i l own y h1 h2
    rcases src h2 with ⟨rfl, rfl, rfl⟩ | ⟨h3, h4, h5⟩
    · rw [e2] at h1; exact ⟨b, h1, hb, .inr ⟨rfl, rfl⟩⟩
    · rw [e1 (by omega)] at h1; exact ⟨i, h1, h5, .inl rfl⟩
  refine Step.make hR (fun i hi => ?_) (fun i l own y h1 h2 => ?_) (fun i i' l l' own own' y y' hne h1 h2 h3 h4 ho => ?_) ⟨rfl, rfl, rfl, Nat.le_refl _, fun _ _ _ => rfl, ?_⟩ rfl (fun i hi => e1 (by omega)) (by simp; omega) (fun i y hi h => ?_) (fun i own y hi h => ?_) (fun i l own y hi h1 h2 => ?_)
  · simp at hi
    rw [e1 (by omega)]; exact hR.dom i (by omega)
  · obtain ⟨i0, h3, h4, _⟩ := org h1 h2
    exact (hR.rows i0 l own y h3 h4).mono (move_le hR b)
  · obtain ⟨j, k1, k2, k3⟩ := org h1 h3
    obtain ⟨j', g1, g2, g3⟩ := org h2 h4
    have hs := src h3
    have hs' := src h4
    refine hR.inj j j' l l' own own' y y' (fun e => ?_) k1 g1 k2 g2 ho
    subst e
    rcases k3 with k3 | k3 <;> rcases g3 with g3 | g3
    · exact hne (by omega)
    · rcases hs with hs | hs
      · have := emb_lt hR k1; omega
      · omega
    · rcases hs' with hs' | hs'
      · have := emb_lt hR k1; omega
      · omega
    · omega
  · rintro c ⟨i, l, y, h1, h2, h3⟩
    obtain ⟨i0, h4, h5, _⟩ := org h1 h2
    exact .inr ⟨i0, l, y, h4, h5, h3⟩
  · rw [List.getElem?_append_left (by simp; omega), List.getElem?_set]
    by_cases e : b = i
    · subst e; rw [hb] at h; cases h
    · rw [if_neg e]; exact h
  · rcases src h with ⟨h1, _⟩ | ⟨_, _, h1⟩
    · omega
    · exact ⟨y, h1⟩
  · obtain ⟨i0, h3, h4, h5⟩ := org h1 h2
    rcases h5 with rfl | ⟨rfl, rfl⟩
    · exact .inr (.inr ⟨i0, l, own, y, hi, h3, h4, rfl⟩)
    · rcases src h2 with ⟨_, rfl, rfl⟩ | ⟨h6, _⟩
      · exact .inr (.inl ⟨i0, l, y, h3, hb, rfl⟩)
      · omega
section
variable {P : Program} {k N n : Nat} {c : Code} {T : Nat → AV} {M M' : Mem} {Φ : Ex → St → Prop}
theorem frel_upd {ι : Emb} {s s' : St} {a : Act} (d : Nat) {v : AV} (h : FRel ι s a) (hn : s'.n = s.n) (ht : s'.t = upd s.t d v) (hv : ∀ u, (s.t d).rel ι u → v.rel ι u) : FRel ι s' a := by
  refine ⟨h.size.trans hn.symm, fun t => ?_⟩
  rw [ht]
  unfold upd
  split
  · rename_i e; subst e; exact hv _ (h.rel t)
  · exact h.rel t
theorem c_nil (d sz : Nat) (x : Arr) (_hx : x.size = 0) (hd : T d = .c .nsl) (hn : M.length = n) (hM : M ++ [.row true x] = M') (h : WC P k c ⟨N, upd T d (.c (.sl n 0 0 0 sz)), M'⟩ Φ) : WC P k c ⟨N, T, M⟩ Φ := by
  subst hM; subst hn
  obtain ⟨e, r, h1, h2⟩ := h.h
  refine ⟨⟨e, r, Ev.weak ?_ h1, h2⟩⟩
  intro ι w a hk hR hf
  refine ⟨ι, frel_upd (s := ⟨N, T, M⟩) d hf rfl rfl ?_, nil_step hk hR⟩
  intro u hu
  change (T d).rel ι u at hu
  rw [hd] at hu
  change u = _ at hu
  subst hu
  exact ⟨none, 0, rfl, Nat.le_refl _, Nat.le_refl _, .inl rfl⟩
theorem c_move (d : Nat) {b o len cap sz : Nat} {x : Arr} (hd : T d = .c (.sl b o len cap sz)) (hb : M[b]? = some (.row true x)) (hn : M.length = n) (hM : M.set b .dead ++ [.row true x] = M') (h : WC P k c ⟨N, upd T d (.c (.sl n o len len sz)), M'⟩ Φ) : WC P k c ⟨N, T, M⟩ Φ := by
  subst hM; subst hn
  obtain ⟨e, r, h1, h2⟩ := h.h
  refine ⟨⟨e, r, Ev.weak ?_ h1, h2⟩⟩
  intro ι w a hk hR hf
  refine ⟨_, frel_upd (s := ⟨N, T, M⟩) d (hf.mono (move_le hR b) M) rfl rfl ?_, move_step hk hR hb⟩
  intro u hu
  have hu' := hf.rel d
  change (T d).rel _ u at hu
  rw [hd] at hu
  obtain ⟨p, c', rfl, h3, h4, h5⟩ := hu
  refine ⟨p, c', rfl, h4, h4, h5.imp id ?_⟩
  rintro ⟨l, h6, h7⟩
  refine ⟨l, ?_, h7⟩
  show (if M.length = M.length then ι b else ι M.length) = some l
  rw [if_pos rfl]
  unfold moveEmb at h6
  dsimp only at h6
  split at h6
  · exact h6
  · exact h6
def peelK (P : Program) (k : Nat) (c : Code) (Φ : Ex → St → Prop) : Ex → St → Prop
  | .normal, s => WC P k (.loop c) s Φ
  | e, s => Φ e s
end
section
variable {P : Program} {k N : Nat} {ops : Array Oper} {d : Nat} {ty : TypeId} {pos : String} {af : Array Edge} {l0 : List Oper} {T : Nat → AV} {M M' : Mem} {K : St → Prop} {t t' : TypeId} {x y : Operand}
end
end Go.Proofs.YtmbepikkgkcgkaaGreatDoor
namespace Go.Proofs.YtmbepikkgkcgkaaGreatDoor
open Go.RowKit
theorem ev_want {ops : Array Oper} {t : Nat → AV} {o : Oper} {j d : Nat} {want b c : Bool} (hg : o.guard = some (j, want)) (hd : (ops[j]?).bind (·.dst) = some d) (ht : t d = .c (.val (.bool b))) (hb : (b == want) = c) : evWanted ops t o = some c := by
  simp only [evWanted, hg, hd, ht, hb]
theorem ev_wantU {ops : Array Oper} {t : Nat → AV} {o : Oper} {j d : Nat} {want : Bool} {y : Array Value} (hg : o.guard = some (j, want)) (hd : (ops[j]?).bind (·.dst) = some d) (ht : t d = .c (.val (.tuple y))) : evWanted ops t o = some false := by
  simp only [evWanted, hg, hd, ht]
theorem beqT {p : Prop} [Decidable p] (h : p) : (decide p == true) = true := by simp [h]
theorem beqF {p : Prop} [Decidable p] (h : ¬ p) : (decide p == false) = true := by simp [h]
theorem beqTn {p : Prop} [Decidable p] (h : p) : (decide p == false) = false := by simp [h]
theorem beqFn {p : Prop} [Decidable p] (h : ¬ p) : (decide p == true) = false := by simp [h]
def zern (n : Nat) : List Nat := List.replicate n 0
@[simp] theorem zern_len (n : Nat) : (zern n).length = n := by simp [zern]
@[simp] theorem over_len {α : Type} (u m : List α) (o : Nat) : (over u o m).length = min o u.length + m.length + (u.length - (o + m.length)) := by simp [over, Nat.add_assoc]
section
variable {P : Program} {k N : Nat} {ops : Array Oper} {d : Nat} {ty : TypeId} {pos : String} {af : Array Edge} {l0 : List Oper} {T : Nat → AV} {M M' : Mem} {K : St → Prop} {t t' : TypeId}
theorem v_pickOr {c a b : Operand} {p q : Bool} (hc : opnd T c = .c (.val (.bool p))) (ha : opnd T a = .c (.val (.bool true))) (hb : opnd T b = .c (.val (.bool q))) : evVal P (opnd T) M (.pick c a b) = some (.c (.val (.bool (p || q)))) := by
  simp only [evVal, hc, ha, hb]
  cases p <;> rfl
theorem v_pickAnd {c a b : Operand} {p q : Bool} (hc : opnd T c = .c (.val (.bool p))) (ha : opnd T a = .c (.val (.bool q))) (hb : opnd T b = .c (.val (.bool false))) : evVal P (opnd T) M (.pick c a b) = some (.c (.val (.bool (p && q)))) := by
  simp only [evVal, hc, ha, hb]
  cases p <;> rfl
theorem copy8 {s x : Operand} {el b0 o len cap b o2 n c m : Nat} {own : Bool} {u r : List (BitVec 8)} (hs : opnd T s = .c (.sl b0 o len cap 1)) (hms : M[b0]? = some (.row true (.a8 u))) (hx : opnd T x = .c (.sl b o2 n c 1)) (hm : M[b]? = some (.row own (.a8 r))) (hu : P.underlying t = some (.slice el)) (hz : szT P el = some 1)
    (hlu : o + len ≤ u.length) (hl : o2 + n ≤ r.length) (hn : min n len = m) (hM : M.set b0 (.row true (.a8 (over u o (cut r o2 m)))) = M') :
    evMem P (opnd T) M (.call { callee := .builtin .copy, args := #[s, x], argTypes := #[t, t'] }) = some (.c (.val (.int .i64 ((m : Nat) : Int))), M') := by
  show evCopy P M t (opnd T s) (opnd T x) = _
  subst hM; subst hn
  rw [hs, hx]
  have h1 : o2 + min n len ≤ Arr.size (.a8 r) := by simp only [Arr.size]; omega
  have h2 : o + min n len ≤ Arr.size (.a8 u) := by simp only [Arr.size]; omega
  simp only [evCopy, hu, hz, hms, hm, if_true, Nat.zero_lt_one, h1, h2, Arr.win, Arr.one, and_self, Arr.putW, Option.map_some, Nat.mul_one]
theorem s_copy8 {s x : Operand} {el b0 o len cap b o2 n c m : Nat} {own : Bool} {u r : List (BitVec 8)} (hs : opnd T s = .c (.sl b0 o len cap 1)) (hms : M[b0]? = some (.row true (.a8 u))) (hx : opnd T x = .c (.sl b o2 n c 1)) (hm : M[b]? = some (.row own (.a8 r))) (hu : P.underlying t = some (.slice el)) (hz : szT P el = some 1)
    (hlu : o + len ≤ u.length) (hl : o2 + n ≤ r.length) (hn : min n len = m) (hM : M.set b0 (.row true (.a8 (over u o (cut r o2 m)))) = M') (hd : decide (d < N) = true) (hk : WO P k ops l0 ⟨N, upd T d (.c (.val (.int .i64 ((m : Nat) : Int)))), M'⟩ K) :
    WO P k ops (⟨some d, .call { callee := .builtin .copy, args := #[s, x], argTypes := #[t, t'] }, ty, pos, af, none⟩ :: l0) ⟨N, T, M⟩ K :=
  s_mem (copy8 hs hms hx hm hu hz hlu hl hn hM) hd hk
theorem s_copy8a {s x : Operand} {el b0 o len cap b n c m : Nat} {own : Bool} {u r : List (BitVec 8)} (hs : opnd T s = .c (.sl b0 o len cap 1)) (hms : M[b0]? = some (.row true (.a8 u))) (hx : opnd T x = .c (.sl b 0 n c 1)) (hm : M[b]? = some (.row own (.a8 r))) (hu : P.underlying t = some (.slice el)) (hz : szT P el = some 1)
    (hlu : o + len ≤ u.length) (hl : r.length = n) (hn : min n len = m) (he : m = n) (hM : M.set b0 (.row true (.a8 (over u o r))) = M') (hd : decide (d < N) = true) (hk : WO P k ops l0 ⟨N, upd T d (.c (.val (.int .i64 ((m : Nat) : Int)))), M'⟩ K) :
    WO P k ops (⟨some d, .call { callee := .builtin .copy, args := #[s, x], argTypes := #[t, t'] }, ty, pos, af, none⟩ :: l0) ⟨N, T, M⟩ K :=
  s_mem (copy8 hs hms hx hm hu hz hlu (by omega) hn (by rw [he, cut_all hl]; exact hM)) hd hk
theorem v_blf8 {l : List (BitVec 8)} {n n' el : Nat} {ps : Array (Nat × Operand)} (hz : (P.info? t).bind (fun i => i.zero.map (fun z => absArr z.cells.toList)) = some (.a8 (zer8 n))) (hu : P.underlying t = some (.array n' el)) (hs : szT P el = some 1) (h0 : (decide (ps.toList.length = n')) = false)
    (hf : fillA (fun i => some (i * 1, 1)) (.a8 (zer8 n)) (ps.toList.map fun p => (p.1, opnd T p.2)) = some (.a8 l)) : evVal P (opnd T) M (.build t ps) = some (.agg (.a8 l)) := by
  show evBuild P t (ps.toList.map fun p => (p.1, opnd T p.2)) = _
  obtain ⟨it, hi, hz2⟩ := Option.bind_eq_some_iff.1 hz
  obtain ⟨z, hz3, hz4⟩ := Option.map_eq_some_iff.1 hz2
  obtain ⟨ie, hie, h1⟩ := Option.map_eq_some_iff.1 hs
  have h9 : ¬ (ie.size = 1 ∧ (ps.toList.map fun p => (p.1, opnd T p.2)).length = n' ∧ z.cells.size = n') := by
    rintro ⟨_, h, _⟩
    rw [List.length_map] at h
    exact of_decide_eq_false h0 h
  simp only [evBuild, hi, hu, hz3, hie]
  rw [if_neg h9]
  simp only [hz4, h1, hf, Option.map_some]
theorem v_blf32 {l : List (BitVec 32)} {n n' el : Nat} {ps : Array (Nat × Operand)} (hz : (P.info? t).bind (fun i => i.zero.map (fun z => absArr z.cells.toList)) = some (.a32 (zer32 n))) (hu : P.underlying t = some (.array n' el)) (hs : szT P el = some 1) (h0 : (decide (ps.toList.length = n')) = false)
    (hf : fillA (fun i => some (i * 1, 1)) (.a32 (zer32 n)) (ps.toList.map fun p => (p.1, opnd T p.2)) = some (.a32 l)) : evVal P (opnd T) M (.build t ps) = some (.agg (.a32 l)) := by
  show evBuild P t (ps.toList.map fun p => (p.1, opnd T p.2)) = _
  obtain ⟨it, hi, hz2⟩ := Option.bind_eq_some_iff.1 hz
  obtain ⟨z, hz3, hz4⟩ := Option.map_eq_some_iff.1 hz2
  obtain ⟨ie, hie, h1⟩ := Option.map_eq_some_iff.1 hs
  have h9 : ¬ (ie.size = 1 ∧ (ps.toList.map fun p => (p.1, opnd T p.2)).length = n' ∧ z.cells.size = n') := by
    rintro ⟨_, h, _⟩
    rw [List.length_map] at h
    exact of_decide_eq_false h0 h
  simp only [evBuild, hi, hu, hz3, hie]
  rw [if_neg h9]
  simp only [hz4, h1, hf, Option.map_some]
end
end Go.Proofs.YtmbepikkgkcgkaaGreatDoor
namespace Go.Proofs.YtmbepikkgkcgkaaGreatDoor
open Go.RowKit
attribute [simp] cut_length
theorem LEN_ {p : Prop} (h : p := by first | exact (rfl : _ = 0) | exact (rfl : _ = 1) | exact (rfl : _ = 2) | exact (rfl : _ = 3) | exact (rfl : _ = 4) | exact (rfl : _ = 5) | exact (rfl : _ = 6) | exact (rfl : _ = 7) | exact (rfl : _ = 8) | exact (rfl : _ = 9) | exact (rfl : _ = 10) | exact (rfl : _ = 11) | exact (rfl : _ = 12)) : p := h
theorem APP_ {p : Prop} (h : p := by first | exact (rfl : _ = []) | exact (rfl : _ = [_]) | exact (rfl : _ = [_, _]) | exact (rfl : _ = [_, _, _]) | exact (rfl : _ = [_, _, _, _]) | exact (rfl : _ = [_, _, _, _, _]) | exact (rfl : _ = [_, _, _, _, _, _]) | exact (rfl : _ = [_, _, _, _, _, _, _]) | exact (rfl : _ = [_, _, _, _, _, _, _, _]) | exact (rfl : _ = [_, _, _, _, _, _, _, _, _]) | exact (rfl : _ = [_, _, _, _, _, _, _, _, _, _]) | exact (rfl : _ = [_, _, _, _, _, _, _, _, _, _, _]) | exact (rfl : _ = [_, _, _, _, _, _, _, _, _, _, _, _]) | exact (rfl : _ = [_, _, _, _, _, _, _, _, _, _, _, _, _]) | exact (rfl : _ = [_, _, _, _, _, _, _, _, _, _, _, _, _, _]) | exact (rfl : _ = [_, _, _, _, _, _, _, _, _, _, _, _, _, _, _]) | exact (rfl : _ = [_, _, _, _, _, _, _, _, _, _, _, _, _, _, _, _]) | exact (rfl : _ = [_, _, _, _, _, _, _, _, _, _, _, _, _, _, _, _, _]) | exact (rfl : _ = [_, _, _, _, _, _, _, _, _, _, _, _, _, _, _, _, _, _]) | exact (rfl : _ = [_, _, _, _, _, _, _, _, _, _, _, _, _, _, _, _, _, _, _]) | exact (rfl : _ = [_, _, _, _, _, _, _, _, _, _, _, _, _, _, _, _, _, _, _, _]) | exact (rfl : _ = [_, _, _, _, _, _, _, _, _, _, _, _, _, _, _, _, _, _, _, _, _]) | exact (rfl : _ = [_, _, _, _, _, _, _, _, _, _, _, _, _, _, _, _, _, _, _, _, _, _])) : p := h
theorem KILL_ {p : Prop} (h : p := by first | exact (rfl : _ = []) | exact (rfl : _ = [_]) | exact (rfl : _ = [_, _]) | exact (rfl : _ = [_, _, _]) | exact (rfl : _ = [_, _, _, _]) | exact (rfl : _ = [_, _, _, _, _]) | exact (rfl : _ = [_, _, _, _, _, _]) | exact (rfl : _ = [_, _, _, _, _, _, _]) | exact (rfl : _ = [_, _, _, _, _, _, _, _]) | exact (rfl : _ = [_, _, _, _, _, _, _, _, _]) | exact (rfl : _ = [_, _, _, _, _, _, _, _, _, _]) | exact (rfl : _ = [_, _, _, _, _, _, _, _, _, _, _]) | exact (rfl : _ = [_, _, _, _, _, _, _, _, _, _, _, _]) | exact (rfl : _ = [_, _, _, _, _, _, _, _, _, _, _, _, _]) | exact (rfl : _ = [_, _, _, _, _, _, _, _, _, _, _, _, _, _]) | exact (rfl : _ = [_, _, _, _, _, _, _, _, _, _, _, _, _, _, _]) | exact (rfl : _ = [_, _, _, _, _, _, _, _, _, _, _, _, _, _, _, _]) | exact (rfl : _ = [_, _, _, _, _, _, _, _, _, _, _, _, _, _, _, _, _]) | exact (rfl : _ = [_, _, _, _, _, _, _, _, _, _, _, _, _, _, _, _, _, _]) | exact (rfl : _ = [_, _, _, _, _, _, _, _, _, _, _, _, _, _, _, _, _, _, _]) | exact (rfl : _ = [_, _, _, _, _, _, _, _, _, _, _, _, _, _, _, _, _, _, _, _]) | exact (rfl : _ = [_, _, _, _, _, _, _, _, _, _, _, _, _, _, _, _, _, _, _, _, _]) | exact (rfl : _ = [_, _, _, _, _, _, _, _, _, _, _, _, _, _, _, _, _, _, _, _, _, _])) : p := h
theorem FIT_ {p : Prop} (h : p := by show _ ≤ List.length _; first | omega | (simp only [put_length]; omega) | (simp only [zer8_length]; omega)) : p := h
theorem EQL_ {p : Prop} (h : p := by first | assumption | omega | rfl | (simp only [put_length]; first | assumption | omega) | (simp only [List.length_append]; omega) | (simp; done) | (simp [*]; done) | (simp [*]; omega)) : p := h
theorem LE_ {p : Prop} (h : p := by first | omega | (simp only [put_length]; omega) | (simp; done) | (simp; omega) | (simp [*]; done) | (simp [*]; omega)) : p := h
theorem VAL_ {p : Prop} (h : p := by first | exact (rfl : _ = AV.c (.val _)) | exact (rfl : _ = AV.agg (.a64 _)) | exact (rfl : _ = AV.agg (.a8 _)) | exact (rfl : _ = AV.agg (.a32 _)) | exact (rfl : _ = AV.c .nsl) | exact (rfl : _ = AV.c (.sl 0 _ _ _ _)) | exact (rfl : _ = AV.c (.sl 1 _ _ _ _)) | exact (rfl : _ = AV.c (.sl 2 _ _ _ _)) | exact (rfl : _ = AV.c (.sl 3 _ _ _ _)) | exact (rfl : _ = AV.c (.sl 4 _ _ _ _)) | exact (rfl : _ = AV.c (.sl 5 _ _ _ _)) | exact (rfl : _ = AV.c (.sl 6 _ _ _ _)) | exact (rfl : _ = AV.c (.sl 7 _ _ _ _)) | exact (rfl : _ = AV.c (.sl 8 _ _ _ _)) | exact (rfl : _ = AV.c (.sl 9 _ _ _ _)) | exact rfl) : p := h
theorem SET_ {p : Prop} (h : p := by first | exact (rfl : _ = []) | exact (rfl : _ = [_]) | exact (rfl : _ = [_, _]) | exact (rfl : _ = [_, _, _]) | exact (rfl : _ = [_, _, _, _]) | exact (rfl : _ = [_, _, _, _, _]) | exact (rfl : _ = [_, _, _, _, _, _]) | exact (rfl : _ = [_, _, _, _, _, _, _]) | exact (rfl : _ = [_, _, _, _, _, _, _, _]) | exact (rfl : _ = [_, _, _, _, _, _, _, _, _]) | exact (rfl : _ = [_, _, _, _, _, _, _, _, _, _]) | exact (rfl : _ = [_, _, _, _, _, _, _, _, _, _, _]) | exact (rfl : _ = [_, _, _, _, _, _, _, _, _, _, _, _]) | exact (rfl : _ = [_, _, _, _, _, _, _, _, _, _, _, _, _]) | exact (rfl : _ = [_, _, _, _, _, _, _, _, _, _, _, _, _, _]) | exact (rfl : _ = [_, _, _, _, _, _, _, _, _, _, _, _, _, _, _]) | exact (rfl : _ = [_, _, _, _, _, _, _, _, _, _, _, _, _, _, _, _]) | exact (rfl : _ = [_, _, _, _, _, _, _, _, _, _, _, _, _, _, _, _, _]) | exact (rfl : _ = [_, _, _, _, _, _, _, _, _, _, _, _, _, _, _, _, _, _]) | exact (rfl : _ = [_, _, _, _, _, _, _, _, _, _, _, _, _, _, _, _, _, _, _]) | exact (rfl : _ = [_, _, _, _, _, _, _, _, _, _, _, _, _, _, _, _, _, _, _, _]) | exact (rfl : _ = [_, _, _, _, _, _, _, _, _, _, _, _, _, _, _, _, _, _, _, _, _]) | exact (rfl : _ = [_, _, _, _, _, _, _, _, _, _, _, _, _, _, _, _, _, _, _, _, _, _])) : p := h
theorem LT_ {p : Prop} (h : p := by first | omega | (simp only [put_length]; omega) | (simp only [zer64_length]; omega) | (simp only [zer8_length]; omega) | (simp only [zer32_length]; omega) | (simp only [zeri_length]; omega) | (simp only [puti_length]; omega) | (simp only [putn_length]; omega) | (simp only [Arr.size, List.length_cons, List.length_nil]; omega) | (simp only [List.length_cons, List.length_nil]; omega) | decide) : p := h
theorem EQ_ {p : Prop} (h : p := by first | (simp only [Arr.size, List.length_cons, List.length_nil, Nat.reduceAdd]; done) | (simp only [Arr.size, zer64_length, zer32_length, zer8_length, zeri_length]; done) | (show List.length _ = _; first | assumption | omega | (simp only [put_length]; first | assumption | omega) | (simp only [natI, List.length_map]; first | assumption | omega) | (simp; done) | (simp; assumption) | (simp; omega) | rfl | simp only [zer64_length] | simp only [zer8_length] | simp only [zer32_length] | simp only [zeri_length])) : p := h
theorem WR_ {p : Prop} (h : p := by first | exact set64 _ _ _ | exact set8 _ _ _ | exact set32 _ _ _ | exact seti _ _ _ | exact setc _ _ _) : p := h
theorem BX_ {p : Prop} (h : p := by first | rfl) : p := h
theorem HYP_ {p : Prop} (h : p := by first | omega | (simp; done) | (simp [*]; done) | (simp [*]; omega) | assumption) : p := h
theorem LQ_ {p : Prop} (h : p := by first | (simp; done) | (simp [*]; done) | (simp [*]; omega) | rfl) : p := h
theorem MN_ {p : Prop} (h : p := by first | rfl | omega | (rw [Nat.min_eq_left (by omega)]) | (rw [Nat.min_eq_right (by omega)])) : p := h
theorem PK_ {p : Prop} (h : p := by first | rfl | assumption | (apply decide_eq_true; omega) | (apply decide_eq_false; omega) | (rw [Bool.not_eq_true', decide_eq_false_iff_not]; omega) | (rw [Bool.not_eq_false', decide_eq_true_eq]; omega) | (simp [*]; done) | (simp; omega)) : p := h
theorem GO_ {p : Prop} (h : p := by first | rfl | exact ev_wantU rfl rfl rfl | exact ev_want rfl rfl rfl (by first | rfl | exact beqT (by omega) | exact beqF (by omega) | exact beqTn (by omega) | exact beqFn (by omega) | (simp [*]; done))) : p := h
theorem eq_self_not {n : Nat} : (!decide (n = n)) = false := by simp
structure Hid (r : Prop) : Prop where
  out : r
theorem S_ {g r : Prop} (k : r) (h : Hid r → g := by
  intro h
  repeat (first
    | refine c_seq ?_
    | refine c_block ?_
    | refine c_skip ?_
    | refine c_exit ?_
    | refine c_ret ?_
    | refine c_label ?_
    | refine c_scope ?_
    | refine c_condT rfl (by first | rfl | (apply decide_eq_true; omega) | (rw [Bool.not_eq_true', decide_eq_false_iff_not]; omega)) ?_
    | refine c_condF rfl (by first | rfl | (apply decide_eq_false; omega) | (rw [Bool.not_eq_false', decide_eq_true_eq]; omega) | exact eq_self_not) ?_)
  exact h.out) : g := h ⟨k⟩
theorem Q_ {g r : Prop} (k : r) (h : Hid r → g := by
  intro h
  repeat (first
    | refine c_seq ?_
    | refine c_block ?_
    | refine c_skip ?_
    | refine c_label ?_
    | refine c_scope ?_)
  exact h.out) : g := h ⟨k⟩
end Go.Proofs.YtmbepikkgkcgkaaGreatDoor
namespace Go.Proofs.YtmbepikkgkcgkaaGreatDoor
open Go.RowKit
def lst : Nat → Nat
  | 0 => 0
  | _ + 1 => 32
@[simp] theorem lst_zero : lst 0 = 0 := rfl
@[simp] theorem lst_succ (j : Nat) : lst (j + 1) = 32 := rfl
theorem lst_le (j : Nat) : lst j ≤ 32 := by cases j <;> simp
section
variable {P : Program} {k N : Nat} {ops : Array Oper} {d : Nat} {ty : TypeId} {pos : String} {af : Array Edge} {l0 : List Oper} {T : Nat → AV} {M M' : Mem} {K : St → Prop} {t t' : TypeId}
theorem v_minL {x y : Operand} {ts : Array TypeId} {a b : Nat} (hx : opnd T x = .c (.val (.int .i64 (a : Int)))) (hy : opnd T y = .c (.val (.int .i64 (b : Int)))) (h : a ≤ b) : evVal P (opnd T) M (.call { callee := .builtin .min, args := #[x, y], argTypes := ts }) = some (.c (.val (.int .i64 ((a : Nat) : Int)))) := by
  rw [v_minN hx hy, Nat.min_eq_left h]
theorem v_minR {x y : Operand} {ts : Array TypeId} {a b : Nat} (hx : opnd T x = .c (.val (.int .i64 (a : Int)))) (hy : opnd T y = .c (.val (.int .i64 (b : Int)))) (h : b ≤ a) : evVal P (opnd T) M (.call { callee := .builtin .min, args := #[x, y], argTypes := ts }) = some (.c (.val (.int .i64 ((b : Nat) : Int)))) := by
  rw [v_minN hx hy, Nat.min_eq_right h]
theorem v_nilP {x : Operand} {b o : Nat} (hx : opnd T x = .c (.ptr b o)) : evVal P (opnd T) M (.nilCheck x) = some (.c (.ptr b o)) := by
  simp only [evVal, hx]
theorem k_0e {n : Nat} {s : St} {v : AV} {m' : Mem} {e : Ex} (he : e = .ret ∨ e = .normal) (hc : canV n (.tup []) s.m = some ([v], m')) : callK P n [] v m' e s := by
  obtain ⟨ids, h⟩ := canV_spec hc
  rcases he with rfl | rfl
  · exact ⟨[], ids, by simp [resList], h⟩
  · exact ⟨[], ids, by simp [resList], h⟩
theorem winA8 (l : List (BitVec 8)) (o n : Nat) : winA (.a8 l) o n = .a8 (cut l o n) := by
  unfold winA
  split
  · rename_i h
    obtain ⟨rfl, h⟩ := h
    rw [cut_all (show l.length = n from h.symm)]
  · rfl
theorem winA64 (l : List (BitVec 64)) (o n : Nat) : winA (.a64 l) o n = .a64 (cut l o n) := by
  unfold winA
  split
  · rename_i h
    obtain ⟨rfl, h⟩ := h
    rw [cut_all (show l.length = n from h.symm)]
  · rfl
theorem v_loadW8 {t : TypeId} {a : Operand} {b n o : Nat} {own : Bool} {l : List (BitVec 8)} (ha : opnd T a = .c (.ptr b o)) (hm : M[b]? = some (.row own (.a8 l))) (hr : isRowT P t = some true) (hs : szT P t = some n) (hx : o + n ≤ l.length) (h0 : 0 < n) : evVal P (opnd T) M (.load t a) = some (.agg (.a8 (cut l o n))) := by
  have hx' : o + n ≤ Arr.size (.a8 l) := hx
  simp only [evVal, ha, hm, partA, hr, hs, hx', h0, and_self, if_true, winA8]
theorem v_loadW64 {t : TypeId} {a : Operand} {b n o : Nat} {own : Bool} {l : List (BitVec 64)} (ha : opnd T a = .c (.ptr b o)) (hm : M[b]? = some (.row own (.a64 l))) (hr : isRowT P t = some true) (hs : szT P t = some n) (hx : o + n ≤ l.length) (h0 : 0 < n) : evVal P (opnd T) M (.load t a) = some (.agg (.a64 (cut l o n))) := by
  have hx' : o + n ≤ Arr.size (.a64 l) := hx
  simp only [evVal, ha, hm, partA, hr, hs, hx', h0, and_self, if_true, winA64]
def okS : AV → Bool
  | .c (.sl ..) => true
  | .c .nsl => true
  | .c .esl => true
  | _ => false
theorem m_appZ {s x : Operand} {el b : Nat} {v : AV} {e2 : TypeId} (hs : opnd T s = v) (hx : opnd T x = .c .nsl) (hu : P.underlying t = some (.slice el)) (hu2 : P.underlying t' = some (.slice e2)) (he : elemOk P el = some (1, b)) (hk : okS v = true) :
    evMem P (opnd T) M (.call { callee := .builtin .append, args := #[s, x], argTypes := #[t, t'] }) = some (v, M ++ []) := by
  show evAppend P M t t' (opnd T s) (opnd T x) = _
  rw [hs, hx, List.append_nil]
  simp only [evAppend, hu, noIntT, hu2, he]
  unfold okS at hk
  split at hk <;> first | rfl | cases hk
theorem m_appZe {s x : Operand} {el b : Nat} {v : AV} {e2 : TypeId} (hs : opnd T s = v) (hx : opnd T x = .c .esl) (hu : P.underlying t = some (.slice el)) (hu2 : P.underlying t' = some (.slice e2)) (he : elemOk P el = some (1, b)) (hk : okS v = true) :
    evMem P (opnd T) M (.call { callee := .builtin .append, args := #[s, x], argTypes := #[t, t'] }) = some (v, M ++ []) := by
  show evAppend P M t t' (opnd T s) (opnd T x) = _
  rw [hs, hx, List.append_nil]
  simp only [evAppend, hu, noIntT, hu2, he]
  unfold okS at hk
  split at hk <;> first | rfl | cases hk
theorem m_bsc {cs : List Cell} {x : Arr} {el by' len n : Nat} {ps : Array (Nat × Operand)} (hu : P.underlying t = some (.slice el)) (he : elemOk P el = some (1, by')) (hr : repArr P el len = some x) (hd : denseA 0 (ps.toList.map fun p => (p.1, opnd T p.2)) = none) (hf : fillA (fun i => some (i * 1, 1)) x (ps.toList.map fun p => (p.1, opnd T p.2)) = some (.ac cs)) (h0 : ¬ len = 0) (h1 : len ≤ 16777216) (hn : M.length = n) :
    evMem P (opnd T) M (.buildSlice t len ps) = some (.c (.sl n 0 len len 1), M ++ [.row true (.ac cs)]) := by
  show evBuildSlice P M t len (ps.toList.map fun p => (p.1, opnd T p.2)) = _
  subst hn
  have e : (if True ∧ (ps.toList.map fun p => (p.1, opnd T p.2)).length = len then denseA 0 (ps.toList.map fun p => (p.1, opnd T p.2)) else none) = none := by split <;> first | exact hd | rfl
  simp only [evBuildSlice, hu, he, Nat.mul_one]
  rw [if_neg h0, if_pos h1, e]
  simp only [Nat.mul_one] at hf
  simp only [hr, hf]
theorem eqArr_of {P : Program} {t e n : Nat} {k : IntKind} {x y : Arr} {r : Bool} (hu : P.underlying t = some (.array n e)) (he : P.underlying e = some (.int k)) (hs : szT P e = some 1) (hx : x.size = n) (hy : y.size = n) (hr : x.alike y = some r) : eqArr P t x y = some r := by
  unfold szT at hs
  obtain ⟨i, hi, h1⟩ := Option.map_eq_some_iff.1 hs
  have hc : P.cellsOf e = 1 := by simp [Program.cellsOf, hi, h1]
  have hg : P.eqGuardType P.depth t = false := by
    show P.eqGuardType (2 * (P.types.size + Made.depth) + 1 + 1) t = false
    unfold Program.eqGuardType
    simp only [hu]
    unfold Program.eqGuardType
    simp only [he]
  unfold eqArr
  simp only [hu, he, hi, hc, hg, hx, hy, true_and, if_true, hr]
theorem v_neqR8 {x y : Operand} {l m : List (BitVec 8)} {n e : Nat} (hx : opnd T x = .agg (.a8 l)) (hy : opnd T y = .agg (.a8 m)) (hu : P.underlying t = some (.array n e)) (he : P.underlying e = some (.int .u8)) (hs : szT P e = some 1) (hl : l.length = n) (hm : m.length = n) :
    evVal P (opnd T) M (.binOp .neq t x y t') = some (.c (.val (.bool (!decide (l = m))))) := by
  show evBin P .neq t x y (opnd T x) (opnd T y) = _
  rw [hx, hy]
  simp only [evBin, eqArr_of hu he hs (x := .a8 l) (y := .a8 m) (r := decide (l = m)) hl hm rfl]
end
theorem CS_ {p : Prop} (h : p := by first | exact (rfl : _ = some (Arr.ac [_])) | exact (rfl : _ = some (Arr.ac [_, _])) | exact (rfl : _ = some (Arr.ac [_, _, _])) | exact (rfl : _ = some (Arr.ac [_, _, _, _])) | exact (rfl : _ = some (Arr.ac [_, _, _, _, _])) | exact (rfl : _ = some (Arr.ac [_, _, _, _, _, _]))) : p := h
end Go.Proofs.YtmbepikkgkcgkaaGreatDoor
namespace Go.Proofs.YtmbepikkgkcgkaaGreatDoor
open Go.RowKit
theorem v_fieldP {P : Program} {T : Nat → AV} {M : Mem} {t f : Nat} {x : Operand} {b o : Nat} {v : AV} (hx : opnd T x = .c (.ptr b o)) (hf : evFieldAddr P t (.c (.ptr b o)) f = some v) : evVal P (opnd T) M (.fieldAddr t x f) = some v := by
  show evFieldAddr P t (opnd T x) f = some v
  rw [hx]; exact hf
def placesT (P : Program) (t : TypeId) : Option (List (Nat × Nat)) :=
  match P.underlying t with
  | some (.struct fields) => fields.toList.mapM fun f => (P.info? f.type).map fun i => (f.offset, i.size)
  | _ => none
end Go.Proofs.YtmbepikkgkcgkaaGreatDoor
namespace Go.Proofs.YtmbepikkgkcgkaaGreatDoor
open Go.RowKit
def hideEmb (ι : Emb) (w : World) (b : Nat) : Emb := ⟨ι.f, fun c o v => ι.tx c o v ∨ ∃ l, ι b = some l ∧ c = l.c ∧ ∃ cs t fr, w.heap[c]? = some (.cells cs t fr) ∧ cs[o]? = some v⟩
theorem hide_le (ι : Emb) (w : World) (b : Nat) : ι.le (hideEmb ι w b) := ⟨fun _ _ h => h, fun _ _ _ h => .inl h⟩
theorem hide_step {k : Nat} {ι : Emb} {M : Mem} {w : World} {b : Nat} {x : Arr} (hk : k ≤ M.length) (hR : R ι M w) (hm : M[b]? = some (.row true x)) : Step k ι M w (hideEmb ι w b) (M.set b .dead) w := by
  have src : ∀ {i : Nat} {own : Bool} {y : Arr}, (M.set b .dead)[i]? = some (.row own y) → i ≠ b ∧ M[i]? = some (.row own y) := fun {i own y} h => by
    rcases set_row h with ⟨h1, h2⟩ | ⟨_, h2⟩
    · exact ⟨h1, h2⟩
    · cases h2
  refine ⟨⟨fun i hi => hR.dom i (by simpa using hi), fun i l own y h1 h2 => ?_, fun i i' l l' own own' y y' hne h1 h2 h3 h4 ho => ?_, fun c Φ hc => ?_⟩, ⟨rfl, rfl, rfl, Nat.le_refl _, fun _ _ _ => rfl, fun c hc => ?_⟩, fun _ _ _ h => .inl h, fun c o v hc => ?_, fun _ _ => rfl, by simpa using hk, fun i y hi h => ?_, fun i own y hi h => ⟨y, (src h).2⟩, fun i l own y hi h1 h2 => .inr (.inr ⟨i, l, own, y, hi, h1, (src h2).2, rfl⟩)⟩
  · exact (hR.rows i l own y h1 (src h2).2).mono (hide_le ι w b)
  · exact hR.inj i i' l l' own own' y y' hne h1 h2 (src h3).2 (src h4).2 ho
  · have keep : ∀ {Ψ : Obj → Prop}, Stays ι c Ψ → (∃ ob, w.heap[c]? = some ob ∧ Ψ ob) ∧ ∀ i l y, (hideEmb ι w b) i = some l → (M.set b .dead)[i]? = some (.row true y) → l.c ≠ c := fun k => ⟨(hR.stay c _ k).1, fun i l y h1 h2 => (hR.stay c _ k).2 i l y h1 (src h2).2⟩
    cases hc with
    | base k => exact keep (.base k)
    | tx hc =>
      rcases hc with hc | ⟨l, hl, rfl, hcs⟩
      · exact keep (.tx hc)
      · obtain ⟨cs, t, fr, h1, h2⟩ := hcs
        refine ⟨⟨_, h1, cs, t, fr, rfl, h2⟩, fun i l' y h3 h4 => ?_⟩
        obtain ⟨h5, h6⟩ := src h4
        exact hR.inj i b l' l true true y x h5 h3 hl h6 hm (.inl rfl)
  · obtain ⟨i, l, y, h1, h2, rfl⟩ := hc
    exact .inr ⟨i, l, y, h1, (src h2).2, rfl⟩
  · rcases hc with hc | ⟨l, hl, rfl, _⟩
    · exact .inl hc
    · exact .inr (.inr ⟨b, l, x, hl, hm, rfl⟩)
  · rw [List.getElem?_set_ne (fun e => by subst e; rw [hm] at h; cases h)]; exact h
theorem hide_rel {ι : Emb} {M : Mem} {w : World} {b o len cap : Nat} {x : Arr} (hR : R ι M w) (hm : M[b]? = some (.row true x)) (hx : x.isMap = false) (ho : o + len ≤ x.size) {g : Nat → Value} (hg : ∀ i u, i < len → (x.get (o + i)).rel ι u → u = g i) {v : Value} (hv : Cell.rel ι (.sl b o len cap 1) v) : StayRel (hideEmb ι w b) g len v := by
  obtain ⟨p, cap', rfl, _, h2, h3⟩ := hv
  refine ⟨p, cap', rfl, h2, ?_⟩
  rcases h3 with h3 | ⟨l, hl, rfl, h4⟩
  · exact .inl h3
  · by_cases h0 : cap' = 0
    · exact .inl h0
    · obtain ⟨cs, t, fr, k1, k2, k3, k4⟩ := hR.cells hl hm hx
      obtain ⟨_, k5⟩ := k4 rfl
      have hlt : l.off < cs.size := by omega
      refine .inr ⟨l.c, l.off + o, rfl, ⟨l.off, cs[l.off], .inr ⟨l, hl, rfl, cs, t, fr, k1, by simp [hlt]⟩⟩, fun i hi => ?_⟩
      obtain ⟨u, e1, e2⟩ := k3 (o + i) (by omega)
      obtain rfl := hg i u hi e2
      exact .inr ⟨l, hl, rfl, cs, t, fr, k1, by rw [Nat.add_assoc]; exact e1⟩
theorem hide8_rel {ι : Emb} {M : Mem} {w : World} {b o len cap : Nat} {x : List (BitVec 8)} (hR : R ι M w) (hm : M[b]? = some (.row true (.a8 x))) (ho : o + len ≤ x.length) {v : Value} (hv : Cell.rel ι (.sl b o len cap 1) v) : Cell.rel (hideEmb ι w b) (.bs (cut x o len)) v := by
  have hl : (cut x o len).length = len := by rw [cut_length]; omega
  show StayRel _ _ (cut x o len).length v
  rw [hl]
  refine hide_rel hR hm rfl ho (fun i u hi h => ?_) hv
  rw [show nth (cut x o len) i = nth x (o + i) from cut_get x o len i _ hi]
  exact h
theorem hideI_rel {ι : Emb} {M : Mem} {w : World} {b o len cap : Nat} {x : List Int} (hR : R ι M w) (hm : M[b]? = some (.row true (.ai x))) (ho : o + len ≤ x.length) {v : Value} (hv : Cell.rel ι (.sl b o len cap 1) v) : Cell.rel (hideEmb ι w b) (.is (cut x o len)) v := by
  have hl : (cut x o len).length = len := by rw [cut_length]; omega
  show StayRel _ _ (cut x o len).length v
  rw [hl]
  refine hide_rel hR hm rfl ho (fun i u hi h => ?_) hv
  rw [show (cut x o len).getD i 0 = x.getD (o + i) 0 from cut_get x o len i _ hi]
  exact h
theorem Ev.opPost {P : Program} {op : Op} {e : Operand → AV} {m M1 M2 : Mem} {v v' : AV} (h : Ev P (.op op e m) (.val v M1)) (hp : ∀ (ι : Emb) (w : World) (u : Value), m.length ≤ M1.length → R ι M1 w → v.rel ι u → ∃ ι', v'.rel ι' u ∧ Step m.length ι M1 w ι' M2 w) : Ev P (.op op e m) (.val v' M2) := by
  refine Ev.sem fun O ι w ρ hO hR hρ => ?_
  rcases sound h O ι w ρ hO hR hρ with ⟨u, w', ι', hr, hv, hst⟩ | ⟨f, args, hr, hc⟩
  · obtain ⟨ι2, g1, g2⟩ := hp ι' w' u hst.len hst.r hv
    exact .inl ⟨u, w', ι2, hr, g1, hst.comp g2⟩
  · refine .inr ⟨f, args, hr, hc.mono fun e' w' ⟨u, ι', he, hv, hst⟩ => ?_⟩
    obtain ⟨ι2, g1, g2⟩ := hp ι' w' u hst.len hst.r hv
    exact ⟨u, ι2, he, g1, hst.comp g2⟩
theorem hide8_all {ι : Emb} {M : Mem} {w : World} {b n cap : Nat} {x : List (BitVec 8)} (hR : R ι M w) (hm : M[b]? = some (.row true (.a8 x))) (hn : x.length = n) {v : Value} (hv : Cell.rel ι (.sl b 0 n cap 1) v) : Cell.rel (hideEmb ι w b) (.bs x) v := by
  have := hide8_rel hR hm (by omega) hv
  rwa [cut_all hn] at this
theorem hideI_all {ι : Emb} {M : Mem} {w : World} {b n cap : Nat} {x : List Int} (hR : R ι M w) (hm : M[b]? = some (.row true (.ai x))) (hn : x.length = n) {v : Value} (hv : Cell.rel ι (.sl b 0 n cap 1) v) : Cell.rel (hideEmb ι w b) (.is x) v := by
  have := hideI_rel hR hm (by omega) hv
  rwa [cut_all hn] at this
section
variable {P : Program} {op : Op} {e : Operand → AV} {m M1 M2 : Mem} {b n cap : Nat} {r : List AV}
theorem o_hide8 {x : List (BitVec 8)} (h : Ev P (.op op e m) (.val (.c (.sl b 0 n cap 1)) M1)) (hm : M1[b]? = some (.row true (.a8 x))) (hn : x.length = n) (hM : M1.set b .dead = M2) : Ev P (.op op e m) (.val (.c (.bs x)) M2) := by
  subst hM
  exact Ev.opPost h fun ι w u hk hR hv => ⟨_, hide8_all hR hm hn hv, hide_step hk hR hm⟩
theorem o_hideI {x : List Int} (h : Ev P (.op op e m) (.val (.c (.sl b 0 n cap 1)) M1)) (hm : M1[b]? = some (.row true (.ai x))) (hn : x.length = n) (hM : M1.set b .dead = M2) : Ev P (.op op e m) (.val (.c (.is x)) M2) := by
  subst hM
  exact Ev.opPost h fun ι w u hk hR hv => ⟨_, hideI_all hR hm hn hv, hide_step hk hR hm⟩
end
section
variable {P : Program} {k N : Nat} {c : Code} {T : Nat → AV} {M M' : Mem} {Φ : Ex → St → Prop}
theorem c_hide8 (d : Nat) {b n cap : Nat} {x : List (BitVec 8)} (hd : T d = .c (.sl b 0 n cap 1)) (hb : M[b]? = some (.row true (.a8 x))) (hn : x.length = n) (hM : M.set b .dead = M') (h : WC P k c ⟨N, upd T d (.c (.bs x)), M'⟩ Φ) : WC P k c ⟨N, T, M⟩ Φ := by
  subst hM
  obtain ⟨e, r, h1, h2⟩ := h.h
  refine ⟨⟨e, r, Ev.weak ?_ h1, h2⟩⟩
  intro ι w a hk hR hf
  refine ⟨_, frel_upd (s := ⟨N, T, M⟩) d (hf.mono (hide_le ι w b) M) rfl rfl ?_, hide_step hk hR hb⟩
  intro u hu
  have hu' := hf.rel d
  change (T d).rel _ u at hu
  rw [hd] at hu
  obtain ⟨p, c', rfl, h3, h4, h5⟩ := hu
  exact hide8_all hR hb hn ⟨p, c', rfl, h3, h4, h5⟩
theorem c_hideI (d : Nat) {b n cap : Nat} {x : List Int} (hd : T d = .c (.sl b 0 n cap 1)) (hb : M[b]? = some (.row true (.ai x))) (hn : x.length = n) (hM : M.set b .dead = M') (h : WC P k c ⟨N, upd T d (.c (.is x)), M'⟩ Φ) : WC P k c ⟨N, T, M⟩ Φ := by
  subst hM
  obtain ⟨e, r, h1, h2⟩ := h.h
  refine ⟨⟨e, r, Ev.weak ?_ h1, h2⟩⟩
  intro ι w a hk hR hf
  refine ⟨_, frel_upd (s := ⟨N, T, M⟩) d (hf.mono (hide_le ι w b) M) rfl rfl ?_, hide_step hk hR hb⟩
  intro u hu
  change (T d).rel _ u at hu
  rw [hd] at hu
  obtain ⟨p, c', rfl, h3, h4, h5⟩ := hu
  exact hideI_all hR hb hn ⟨p, c', rfl, h3, h4, h5⟩
theorem c_nilB (d : Nat) (hd : T d = .c .nsl) (h : WC P k c ⟨N, upd T d (.c (.bs [])), M⟩ Φ) : WC P k c ⟨N, T, M⟩ Φ := by
  obtain ⟨e, r, h1, h2⟩ := h.h
  refine ⟨⟨e, r, Ev.weak ?_ h1, h2⟩⟩
  intro ι w a hk hR hf
  refine ⟨ι, frel_upd (s := ⟨N, T, M⟩) d hf rfl rfl ?_, Step.refl hR hk⟩
  intro u hu
  change (T d).rel ι u at hu
  rw [hd] at hu
  change u = _ at hu
  subst hu
  exact ⟨none, 0, rfl, Nat.le_refl _, .inl rfl⟩
end
end Go.Proofs.YtmbepikkgkcgkaaGreatDoor
namespace Go.Proofs.YtmbepikkgkcgkaaGreatDoor
open Go.RowKit
open Go.MapKept (IsKey findNow_spec run_checkKey run_findKey)
theorem map_step {k : Nat} {ι : Emb} {M : Mem} {w : World} (hk : k ≤ M.length) (hR : R ι M w) {b : Nat} {l : Loc} {x : Arr} {es : List (Value × Leaf)} (hb : ι b = some l) (hm : M[b]? = some (.row true x)) {ents : Array MapEntry} {clock : Nat} (he : EntRel ι es ents) :
    Step k ι M w ι (M.set b (.row true (.mp es))) { w with heap := w.heap.setIfInBounds l.c (.map ents clock) } := by
  have hown : Owned ι M l.c := ⟨b, l, x, hb, hm, rfl⟩
  have hlt := hR.lt hb hm
  have far : ∀ c, c ≠ l.c → (w.heap.setIfInBounds l.c (.map ents clock))[c]? = w.heap[c]? := fun c hc => by rw [Array.getElem?_setIfInBounds_ne (fun e => hc e.symm)]
  refine Step.make hR (fun b hb => hR.dom b (by simpa using hb)) (fun b1 l1 own z hb1 hm1 => ?_) (fun b1 b2 l1 l2 o1 o2 z1 z2 hne h1 h2 k1 k2 ho => ?_) ⟨rfl, rfl, rfl, by simp, fun c hc hn => far c (fun e => hn (by rw [e]; exact hown)), fun c hc => ?_⟩ rfl (fun _ _ => rfl) (by simpa using hk) (fun b1 z hb1 hm1 => ?_) (fun b1 own z hb1 hm1 => ?_) (fun b1 l1 own z hb1 h1 h2 => ?_)
  · rcases set_row hm1 with ⟨hne, hm1⟩ | ⟨rfl, e⟩
    · have hc : l1.c ≠ l.c := hR.inj b1 b l1 l own true z x hne hb1 hb hm1 hm (.inr rfl)
      exact (hR.rows b1 l1 own z hb1 hm1).heap (far _ hc) (.refl _)
    · cases e
      rw [hb] at hb1; cases hb1
      exact ⟨ents, clock, by simp [hlt], he⟩
  · rcases set_row k1 with ⟨e1, m1⟩ | ⟨rfl, e1⟩ <;> rcases set_row k2 with ⟨e2, m2⟩ | ⟨rfl, e2⟩
    · exact hR.inj b1 b2 l1 l2 o1 o2 z1 z2 hne h1 h2 m1 m2 ho
    · exact hR.inj b1 b2 l1 l2 o1 true z1 x hne h1 h2 m1 hm (.inr rfl)
    · exact hR.inj b1 b2 l1 l2 true o2 x z2 hne h1 h2 hm m2 (.inl rfl)
    · exact absurd rfl hne
  · obtain ⟨b1, l1, z, h1, k1, rfl⟩ := hc
    rcases set_row k1 with ⟨e1, k1⟩ | ⟨rfl, e1⟩
    · exact .inr ⟨b1, l1, z, h1, k1, rfl⟩
    · exact .inr ⟨b1, l1, x, h1, hm, rfl⟩
  · rw [List.getElem?_set_ne (fun e => by subst e; rw [hm] at hm1; cases hm1)]; exact hm1
  · rcases set_row hm1 with ⟨hne, hm1⟩ | ⟨rfl, e⟩
    · exact ⟨z, hm1⟩
    · cases e; exact ⟨x, hm⟩
  · rcases set_row h2 with ⟨hne, h2⟩ | ⟨rfl, e⟩
    · exact .inr (.inr ⟨b1, l1, own, z, hb1, h1, h2, rfl⟩)
    · exact .inr (.inr ⟨b1, l1, true, x, hb1, h1, hm, rfl⟩)
theorem newMap_step {ι : Emb} {M : Mem} {w : World} (hR : R ι M w) : Step M.length ι M w (ι.upd M.length ⟨w.heap.size, 0, 0⟩) (M ++ [.row true (.mp [])]) (w.alloc (.map #[] 0)) := by
  have hle := hR.upd_le ⟨w.heap.size, 0, 0⟩
  have old : ∀ c, c < w.heap.size → (w.alloc (.map #[] 0)).heap[c]? = w.heap[c]? := fun c hc => by show (w.heap.push _)[c]? = _; rw [Array.getElem?_push, if_neg (by omega)]
  refine Step.make hR (fun b hb => ?_) (fun b l own y hb hm => ?_) (fun b b' l l' own own' y y' hne hb hb' hm hm' ho => ?_) ⟨rfl, rfl, rfl, by show _ ≤ (w.heap.push _).size; simp, fun c hc _ => old c hc, fun c hc => ?_⟩ rfl (fun b hb => Emb.upd_ne (by omega)) (by simp) (fun b x hb hm => by rw [List.getElem?_append_left hb]; exact hm) (fun b own x hb hm => ⟨x, by rwa [List.getElem?_append_left hb] at hm⟩) (fun b l own y hb h1 h2 => ?_)
  · simp at hb
    rw [Emb.upd_ne (by omega)]; exact hR.dom b (by omega)
  · rcases app_row hm with ⟨hlt, hm⟩ | ⟨rfl, e⟩
    · rw [Emb.upd_ne (by omega)] at hb
      exact (hR.rows b l own y hb hm).heap (old _ (hR.lt hb hm)) hle
    · cases e
      rw [Emb.upd_eq] at hb
      cases hb
      exact ⟨#[], 0, by show (w.heap.push _)[w.heap.size]? = _; rw [Array.getElem?_push, if_pos rfl], rfl, fun i p h => by simp at h⟩
  · rcases app_row hm with ⟨hlt, hm⟩ | ⟨rfl, e⟩ <;> rcases app_row hm' with ⟨hlt', hm'⟩ | ⟨rfl, e'⟩
    · rw [Emb.upd_ne (by omega)] at hb hb'
      exact hR.inj b b' l l' own own' y y' hne hb hb' hm hm' ho
    · rw [Emb.upd_ne (by omega)] at hb
      rw [Emb.upd_eq] at hb'
      cases hb'
      have := hR.lt hb hm
      show l.c ≠ w.heap.size
      omega
    · rw [Emb.upd_ne (by omega)] at hb'
      rw [Emb.upd_eq] at hb
      cases hb
      have := hR.lt hb' hm'
      show w.heap.size ≠ l'.c
      omega
    · exact absurd rfl hne
  · obtain ⟨b, l, y, hb, hm, rfl⟩ := hc
    rcases app_row hm with ⟨hlt, hm⟩ | ⟨rfl, e⟩
    · rw [Emb.upd_ne (by omega)] at hb
      exact .inr ⟨b, l, y, hb, hm, rfl⟩
    · rw [Emb.upd_eq] at hb
      cases hb
      exact .inl (Nat.le_refl _)
  · rcases app_row h2 with ⟨hlt, h2⟩ | ⟨rfl, e⟩
    · omega
    · rw [Emb.upd_eq] at h1
      cases h1
      exact .inl (Nat.le_refl _)
def Keyed (d : TypeDesc) (es : List (Value × Leaf)) : Prop := (∀ p ∈ es, IsKey d p.1) ∧ es.Pairwise fun p q => p.1 ≠ q.1
theorem Keyed.ents {d : TypeDesc} {es : List (Value × Leaf)} (h : Keyed d es) {ι : Emb} {ents : Array MapEntry} (he : EntRel ι es ents) : ∀ x ∈ ents.toList, IsKey d x.key := by
  intro x hx
  obtain ⟨i, hi, rfl⟩ := List.getElem_of_mem hx
  simp only [Array.length_toList] at hi
  have hi' : i < es.length := by rw [← he.1]; exact hi
  obtain ⟨e, h1, h2, _⟩ := he.2 i es[i] (by simp [hi'])
  rw [Array.getElem?_eq_getElem hi] at h1
  cases h1
  rw [Array.getElem_toList, h2]
  exact h.1 _ (List.getElem_mem _)
theorem ents_none {ι : Emb} {es : List (Value × Leaf)} {ents : Array MapEntry} (he : EntRel ι es ents) {k : Value} (hk : ∀ p ∈ es, p.1 ≠ k) : ∀ x ∈ ents.toList, x.key ≠ k := by
  intro x hx
  obtain ⟨i, hi, rfl⟩ := List.getElem_of_mem hx
  simp only [Array.length_toList] at hi
  have hi' : i < es.length := by rw [← he.1]; exact hi
  obtain ⟨e, h1, h2, _⟩ := he.2 i es[i] (by simp [hi'])
  rw [Array.getElem?_eq_getElem hi] at h1
  cases h1
  rw [Array.getElem_toList, h2]
  exact hk _ (List.getElem_mem _)
theorem find_none {P : Program} {ι : Emb} {w : World} {kt : TypeId} {d : TypeDesc} {es : List (Value × Leaf)} {ents : Array MapEntry} (hd : P.underlying kt = some d) (hes : Keyed d es) (he : EntRel ι es ents) {k : Value} (hk : IsKey d k) (hn : ∀ p ∈ es, p.1 ≠ k) : (Instr.findKey kt k ents.toList).run P w = .ok none w := by
  refine run_findKey hd ?_
  rcases findNow_spec hk ents.toList 0 (hes.ents he) with ⟨h, _⟩ | ⟨j, e, _, h2, h3⟩
  · exact h
  · exact absurd h3 (ents_none he hn _ (List.mem_of_getElem? h2))
theorem find_some {P : Program} {ι : Emb} {w : World} {kt : TypeId} {d : TypeDesc} {es : List (Value × Leaf)} {ents : Array MapEntry} (hd : P.underlying kt = some d) (hes : Keyed d es) (he : EntRel ι es ents) {k : Value} {c : Leaf} (hm : (k, c) ∈ es) : ∃ j v, (Instr.findKey kt k ents.toList).run P w = .ok (some (j, v)) w ∧ c.cell.rel ι v := by
  rcases findNow_spec (hes.1 _ hm) ents.toList 0 (hes.ents he) with ⟨_, h⟩ | ⟨j, e, h1, h2, h3⟩
  · obtain ⟨i, hi, e⟩ := List.getElem_of_mem hm
    obtain ⟨x, h1, h2, _⟩ := he.2 i (k, c) (by simp [hi, e])
    exact absurd h2 (h x (by rw [← Array.getElem?_toList] at h1; exact List.mem_of_getElem? h1))
  · have hj : j < es.length := by
      have := (List.getElem?_eq_some_iff.1 h2).1
      rw [Array.length_toList, he.1] at this; exact this
    obtain ⟨x, g1, g2, g3⟩ := he.2 j es[j] (by simp [hj])
    rw [Array.getElem?_toList, g1] at h2
    cases h2
    have hp : es[j] = (k, c) := by
      obtain ⟨i, hi, e1⟩ := List.getElem_of_mem hm
      rcases Nat.lt_trichotomy i j with hij | hij | hij
      · have := List.pairwise_iff_getElem.1 hes.2 i j hi hj hij
        rw [e1] at this
        exact absurd (g2.symm.trans h3).symm this
      · subst hij; exact e1
      · have := List.pairwise_iff_getElem.1 hes.2 j i hj hi hij
        rw [e1] at this
        exact absurd (g2.symm.trans h3) this
    rw [hp] at g3
    exact ⟨_, _, run_findKey hd h1, g3⟩
section
variable {P : Program} {e : Operand → AV} {M M' : Mem} {b : Nat} {t kt el : TypeId} {d : TypeDesc} {x ix y : Operand} {es : List (Value × Leaf)} {k : Value} {c : Leaf} {own : Bool}
theorem o_makeMap : Ev P (.op (.makeMap t none) e M) (.val (.c (.mp M.length)) (M ++ [.row true (.mp [])])) :=
  Ev.sem fun O ι w ρ hO hR _ => by
    obtain ⟨dst, op, ty, pos, af, gd⟩ := O
    subst hO
    refine .inl ⟨.map (some w.heap.size), _, _, .inl ?_, ⟨_, Emb.upd_eq _ _ _, rfl⟩, newMap_step hR⟩
    simp [execOp, Instr.makeMap]
theorem map_at {ι : Emb} {w : World} (hR : R ι M w) (hm : M[b]? = some (.row own (.mp es))) {v : Value} (hv : Cell.rel ι (.mp b) v) : ∃ l ents clock, ι b = some l ∧ v = .map (some l.c) ∧ w.heap[l.c]? = some (.map ents clock) ∧ EntRel ι es ents := by
  obtain ⟨l, hl, rfl⟩ := hv
  obtain ⟨ents, clock, h1, h2⟩ := hR.rows b l own _ hl hm
  exact ⟨l, ents, clock, hl, rfl, h1, h2⟩
theorem o_look1 (ht : P.underlying t = some (.map kt el)) (hd : P.underlying kt = some d) (hx : e x = .c (.mp b)) (hi : e ix = .c (.val k)) (hm : M[b]? = some (.row own (.mp es))) (hes : Keyed d es) (hk : (k, c) ∈ es) : Ev P (.op (.lookup t x ix true) e M) (.val (.tup [.c c.cell, .c (.val (.bool true))]) M) :=
  Ev.sem fun O ι w ρ hO hR hρ => by
    obtain ⟨dst, op, ty, pos, af, gd⟩ := O
    subst hO
    have h1 := hρ x (by simp [Op.operands])
    have h2 := hρ ix (by simp [Op.operands])
    rw [hx] at h1; rw [hi] at h2
    obtain ⟨l, ents, clock, hl, hv, hh, he⟩ := map_at hR hm h1
    obtain ⟨j, v, g1, g2⟩ := find_some (w := w) hd hes he hk
    have h2 : ρ ix = k := h2
    refine .inl ⟨.tuple #[v, .bool true], w, ι, .inl ?_, ?_, Step.refl hR (Nat.le_refl _)⟩
    · simp [execOp, Instr.lookup, run_underlying ht, hv, h2, Go.MapKept.run_getObj_map hh, run_checkKey hd (hes.1 _ hk), g1]
    · refine ⟨_, rfl, rfl, fun i x u hx hu => ?_⟩
      match i with
      | 0 => simp at hx hu; subst hx; subst hu; exact g2
      | 1 => simp at hx hu; subst hx; subst hu; exact rfl
      | i + 2 => simp at hx
theorem o_look1s (ht : P.underlying t = some (.map kt el)) (hd : P.underlying kt = some d) (hx : e x = .c (.mp b)) (hi : e ix = .c (.val k)) (hm : M[b]? = some (.row own (.mp es))) (hes : Keyed d es) (hk : (k, c) ∈ es) : Ev P (.op (.lookup t x ix false) e M) (.val (.c c.cell) M) :=
  Ev.sem fun O ι w ρ hO hR hρ => by
    obtain ⟨dst, op, ty, pos, af, gd⟩ := O
    subst hO
    have h1 := hρ x (by simp [Op.operands])
    have h2 := hρ ix (by simp [Op.operands])
    rw [hx] at h1; rw [hi] at h2
    obtain ⟨l, ents, clock, hl, hv, hh, he⟩ := map_at hR hm h1
    obtain ⟨j, v, g1, g2⟩ := find_some (w := w) hd hes he hk
    have h2 : ρ ix = k := h2
    refine .inl ⟨v, w, ι, .inl ?_, g2, Step.refl hR (Nat.le_refl _)⟩
    simp [execOp, Instr.lookup, run_underlying ht, hv, h2, Go.MapKept.run_getObj_map hh, run_checkKey hd (hes.1 _ hk), g1]
theorem o_look0 {i : TypeInfo} {z : Value} (ht : P.underlying t = some (.map kt el)) (hd : P.underlying kt = some d) (hz : P.info? el = some i) (hz' : i.zero = some z) (hc : ∀ ι, c.cell.rel ι z) (hx : e x = .c (.mp b)) (hi : e ix = .c (.val k)) (hm : M[b]? = some (.row own (.mp es))) (hes : Keyed d es) (hk : IsKey d k) (hn : ∀ p ∈ es, p.1 ≠ k) : Ev P (.op (.lookup t x ix true) e M) (.val (.tup [.c c.cell, .c (.val (.bool false))]) M) :=
  Ev.sem fun O ι w ρ hO hR hρ => by
    obtain ⟨dst, op, ty, pos, af, gd⟩ := O
    subst hO
    have h1 := hρ x (by simp [Op.operands])
    have h2 := hρ ix (by simp [Op.operands])
    rw [hx] at h1; rw [hi] at h2
    obtain ⟨l, ents, clock, hl, hv, hh, he⟩ := map_at hR hm h1
    have g1 := find_none (w := w) hd hes he hk hn
    have h2 : ρ ix = k := h2
    refine .inl ⟨.tuple #[z, .bool false], w, ι, .inl ?_, ?_, Step.refl hR (Nat.le_refl _)⟩
    · simp [execOp, Instr.lookup, run_underlying ht, hv, h2, Go.MapKept.run_getObj_map hh, run_checkKey hd hk, g1, zeroValue, typeInfo, hz, hz']
    · refine ⟨_, rfl, rfl, fun i x u hx hu => ?_⟩
      match i with
      | 0 => simp at hx hu; subst hx; subst hu; exact hc ι
      | 1 => simp at hx hu; subst hx; subst hu; exact rfl
      | i + 2 => simp at hx
theorem o_mapNew (ht : P.underlying t = some (.map kt el)) (hd : P.underlying kt = some d) (hx : e x = .c (.mp b)) (hi : e ix = .c (.val k)) (hy : e y = .c c.cell) (hm : M[b]? = some (.row true (.mp es))) (hes : Keyed d es) (hk : IsKey d k) (hn : ∀ p ∈ es, p.1 ≠ k) (hM : M.set b (.row true (.mp (es ++ [(k, c)]))) = M') : Ev P (.op (.mapUpdate t x ix y) e M) (.val (.c .any) M') :=
  Ev.sem fun O ι w ρ hO hR hρ => by
    obtain ⟨dst, op, ty, pos, af, gd⟩ := O
    subst hO; subst hM
    have h1 := hρ x (by simp [Op.operands])
    have h2 := hρ ix (by simp [Op.operands])
    have h3 := hρ y (by simp [Op.operands])
    rw [hx] at h1; rw [hi] at h2; rw [hy] at h3
    obtain ⟨l, ents, clock, hl, hv, hh, he⟩ := map_at hR hm h1
    have g1 := find_none (w := w) hd hes he hk hn
    have h2 : ρ ix = k := h2
    refine .inl ⟨undef, _, ι, .inr ⟨?_, rfl⟩, trivial, map_step (Nat.le_refl _) hR hl hm (ents := ents.push ⟨k, ρ y, clock⟩) (clock := clock + 1) ⟨by simp [he.1], fun i p hp => ?_⟩⟩
    · simp [execOp, Instr.mapUpdate, run_underlying ht, hv, h2, Go.MapKept.run_getObj_map hh, run_checkKey hd hk, g1, Go.MapKept.run_setObj_map _ hh]
    · by_cases hi : i < es.length
      · rw [List.getElem?_append_left hi] at hp
        obtain ⟨e, k1, k2⟩ := he.2 i p hp
        exact ⟨e, by rw [Array.getElem?_push, if_neg (by rw [he.1]; omega)]; exact k1, k2⟩
      · rw [List.getElem?_append_right (by omega)] at hp
        have : i = es.length := by
          have := (List.getElem?_eq_some_iff.1 hp).1
          simp at this; omega
        subst this
        simp at hp; subst hp
        exact ⟨⟨k, ρ y, clock⟩, by rw [Array.getElem?_push, if_pos he.1.symm], rfl, h3⟩
end
end Go.Proofs.YtmbepikkgkcgkaaGreatDoor
namespace Go.Proofs.YtmbepikkgkcgkaaGreatDoor
open Go.RowKit
section
variable {P : Program} {k N : Nat} {ops : Array Oper} {d : Nat} {ty : TypeId} {pos : String} {af : Array Edge} {l0 : List Oper} {T : Nat → AV} {M M' : Mem} {K : St → Prop} {t t' el : TypeId} {x i a s : Operand}
theorem v_lenB {y : List (BitVec 8)} {n : Nat} (hx : opnd T x = .c (.bs y)) (hu : P.underlying t = some (.slice el)) (hn : y.length = n) : evVal P (opnd T) M (.call { callee := .builtin .len, args := #[x], argTypes := #[t] }) = some (.c (.val (.int .i64 (n : Int)))) := by
  subst hn
  show evLen P t (opnd T x) = _
  rw [hx]; simp [evLen, isSliceT, hu]
theorem v_lenZ {y : List Int} {n : Nat} (hx : opnd T x = .c (.is y)) (hu : P.underlying t = some (.slice el)) (hn : y.length = n) : evVal P (opnd T) M (.call { callee := .builtin .len, args := #[x], argTypes := #[t] }) = some (.c (.val (.int .i64 (n : Int)))) := by
  subst hn
  show evLen P t (opnd T x) = _
  rw [hx]; simp [evLen, isSliceT, hu]
theorem v_slB {lo hi : Option Operand} {y : List (BitVec 8)} {l h : Nat} (hx : opnd T x = .c (.bs y)) (hu : P.underlying t = some (.slice el)) (hs : szT P el = some 1) (hl : bnd 0 (lo.map (opnd T)) = some (l : Int)) (hh : bnd y.length (hi.map (opnd T)) = some (h : Int)) (h1 : l ≤ h) (h2 : h ≤ y.length) : evVal P (opnd T) M (.slice t x lo hi none) = some (.c (.bs (cut y l (h - l)))) := by
  show evSlice P M t (opnd T x) (lo.map (opnd T)) (hi.map (opnd T)) = _
  rw [hx]
  simp only [evSlice, hu, hl, hh]
  rw [if_pos ⟨hs, by omega, by omega, by omega⟩]
  congr 4
  omega
theorem v_slBd {lo : Operand} {y : List (BitVec 8)} {l : Nat} {kd : IntKind} (hx : opnd T x = .c (.bs y)) (hl : opnd T lo = .c (.val (.int kd (l : Int)))) (hu : P.underlying t = some (.slice el)) (hs : szT P el = some 1) (h2 : l ≤ y.length) : evVal P (opnd T) M (.slice t x (some lo) none none) = some (.c (.bs (y.drop l))) := by
  rw [v_slB (l := l) (h := y.length) hx hu hs (by simp [bnd, intOf?, hl]) rfl h2 (Nat.le_refl _)]
  congr 3
  unfold cut
  rw [List.take_of_length_le (by simp)]
theorem v_slBt {hi : Operand} {y : List (BitVec 8)} {h : Nat} {kd : IntKind} (hx : opnd T x = .c (.bs y)) (hh : opnd T hi = .c (.val (.int kd (h : Int)))) (hu : P.underlying t = some (.slice el)) (hs : szT P el = some 1) (h2 : h ≤ y.length) : evVal P (opnd T) M (.slice t x none (some hi) none) = some (.c (.bs (y.take h))) := by
  rw [v_slB (l := 0) (h := h) hx hu hs rfl (by simp [bnd, intOf?, hh]) (Nat.zero_le _) h2]
  rfl
theorem v_idxB {y : List (BitVec 8)} {kd : IntKind} {j : Nat} (hx : opnd T x = .c (.bs y)) (hi : opnd T i = .c (.val (.int kd (j : Int)))) (hu : P.underlying t = some (.slice el)) (hs : szT P el = some 1) (h0 : j < y.length) : evVal P (opnd T) M (.indexAddr t x i) = some (.c (.qb y j)) := by
  show evIndex P t (opnd T x) (opnd T i) = _
  rw [hx, hi]
  have h1 : (0 : Int) ≤ (j : Int) ∧ (j : Int) < (y.length : Int) := by omega
  simp only [evIndex, hu, intOf?, hs, h1, and_self, if_true, Int.toNat_natCast]
theorem v_idxZ {y : List Int} {kd : IntKind} {j : Nat} (hx : opnd T x = .c (.is y)) (hi : opnd T i = .c (.val (.int kd (j : Int)))) (hu : P.underlying t = some (.slice el)) (hs : szT P el = some 1) (h0 : j < y.length) : evVal P (opnd T) M (.indexAddr t x i) = some (.c (.qi y j)) := by
  show evIndex P t (opnd T x) (opnd T i) = _
  rw [hx, hi]
  have h1 : (0 : Int) ≤ (j : Int) ∧ (j : Int) < (y.length : Int) := by omega
  simp only [evIndex, hu, intOf?, hs, h1, and_self, if_true, Int.toNat_natCast]
theorem v_loadQ {y : List (BitVec 8)} {j : Nat} (ha : opnd T a = .c (.qb y j)) (hr : isRowT P t = some false) (h : j < y.length) : evVal P (opnd T) M (.load t a) = some (.c (.val (U8 (nth y j)))) := by
  simp only [evVal, ha, partA, hr, Arr.size, h, if_true, Arr.get]
theorem v_loadZ {y : List Int} {j : Nat} (ha : opnd T a = .c (.qi y j)) (hr : isRowT P t = some false) (h : j < y.length) : evVal P (opnd T) M (.load t a) = some (.c (.val (.int .i64 (geti y j)))) := by
  simp only [evVal, ha, partA, hr, Arr.size, h, if_true, Arr.get]
theorem v_loadB {b o : Nat} {own : Bool} {y : List (List (BitVec 8))} (ha : opnd T a = .c (.ptr b o)) (hm : M[b]? = some (.row own (.ab y))) (hr : isRowT P t = some false) (ho : o < y.length) : evVal P (opnd T) M (.load t a) = some (.c (.bs (getb y o))) :=
  v_load ha hm hr ho rfl
theorem v_loadT {b o : Nat} {own : Bool} {y : List Bool} (ha : opnd T a = .c (.ptr b o)) (hm : M[b]? = some (.row own (.bl y))) (hr : isRowT P t = some false) (ho : o < y.length) : evVal P (opnd T) M (.load t a) = some (.c (.val (.bool (gett y o)))) :=
  v_load ha hm hr ho rfl
theorem o_loadNd {b o j : Nat} {own : Bool} {y : List Nd} (ha : opnd T a = .c (.ptr b o)) (hj : o = j * 3) (hm : M[b]? = some (.row own (.an y))) (hr : isRowT P t = some true) (hs : szT P t = some 3) (h : j < y.length) : Ev P (.op (.load t a) (opnd T) M) (.val (.agg (.ac [.val (.int .i64 (getn y j).k), .val (.int .i64 (getn y j).n), .is (getn y j).a])) M) := by
  subst hj
  have h3 : j * 3 + 3 ≤ Arr.size (.an y) := by show _ ≤ 3 * y.length; omega
  have hv : evVal P (opnd T) M (.load t a) = some (.agg (winA (.an y) (j * 3) 3)) := by simp [evVal, ha, hm, partA, hr, hs, h3]
  refine Ev.opPost (Ev.val hv) fun ι w u hk hR hu => ⟨ι, ?_, Step.refl hR hk⟩
  obtain ⟨cs, rfl, g1, g2⟩ := hu
  have hsz : (winA (.an y) (j * 3) 3).size = 3 := winA_size h3
  refine ⟨cs, rfl, g1.trans hsz, fun i hi => ?_⟩
  have hi : i < 3 := hi
  obtain ⟨v, e1, e2⟩ := g2 i (by omega)
  refine ⟨v, e1, ?_⟩
  rw [winA_get hi h3] at e2
  rcases (by omega : i = 0 ∨ i = 1 ∨ i = 2) with e | e | e <;> subst e
  · rw [show (Arr.an y).get (j * 3 + 0) = .val (.int .i64 (getn y j).k) by simp only [Arr.get]; rw [show (j * 3 + 0) / 3 = j by omega, show (j * 3 + 0) % 3 = 0 by omega]; rfl] at e2
    exact e2
  · rw [show (Arr.an y).get (j * 3 + 1) = .val (.int .i64 (getn y j).n) by simp only [Arr.get]; rw [show (j * 3 + 1) / 3 = j by omega, show (j * 3 + 1) % 3 = 1 by omega]; rfl] at e2
    exact e2
  · rw [show (Arr.an y).get (j * 3 + 2) = .is (getn y j).a by simp only [Arr.get]; rw [show (j * 3 + 2) / 3 = j by omega, show (j * 3 + 2) % 3 = 2 by omega]; rfl] at e2
    exact e2
theorem v_ndK {b o j : Nat} {own : Bool} {y : List Nd} (ha : opnd T a = .c (.ptr b o)) (hj : o = j * 3) (hm : M[b]? = some (.row own (.an y))) (hr : isRowT P t = some false) (h : j < y.length) : evVal P (opnd T) M (.load t a) = some (.c (.val (.int .i64 (getn y j).k))) :=
  v_load ha hm hr (by show _ < 3 * y.length; omega) (by simp only [Arr.get]; rw [show o / 3 = j by omega, show o % 3 = 0 by omega]; rfl)
theorem v_ndA {b o j : Nat} {own : Bool} {y : List Nd} (ha : opnd T a = .c (.ptr b o)) (hj : o = j * 3 + 2) (hm : M[b]? = some (.row own (.an y))) (hr : isRowT P t = some false) (h : j < y.length) : evVal P (opnd T) M (.load t a) = some (.c (.is (getn y j).a)) :=
  v_load ha hm hr (by show _ < 3 * y.length; omega) (by simp only [Arr.get]; rw [show o / 3 = j by omega, show o % 3 = 2 by omega]; rfl)
theorem m_appNB {y : List (BitVec 8)} {by' n m : Nat} {e2 : TypeId} (hs : opnd T s = .c .nsl) (hx : opnd T x = .c (.bs y)) (hu : P.underlying t = some (.slice el)) (hu2 : P.underlying t' = some (.slice e2)) (he : elemOk P el = some (1, by')) (hl : y.length = n) (hb : n * by' ≤ 140737488355328 ∧ n ≤ 9223372036854775807) (hn : M.length = m) :
    evMem P (opnd T) M (.call { callee := .builtin .append, args := #[s, x], argTypes := #[t, t'] }) = some (.c (.sl m 0 n n 1), M ++ [.row true (.a8 y)]) := by
  show evAppend P M t t' (opnd T s) (opnd T x) = _
  subst hn; subst hl
  rw [hs, hx]
  simp [evAppend, hu, noIntT, hu2, he, srcOf, Arr.one, hb.1, hb.2]
theorem m_appEB {y : List (BitVec 8)} {by' n m : Nat} {e2 : TypeId} (hs : opnd T s = .c .esl) (hx : opnd T x = .c (.bs y)) (hu : P.underlying t = some (.slice el)) (hu2 : P.underlying t' = some (.slice e2)) (he : elemOk P el = some (1, by')) (hl : y.length = n) (hb : n * by' ≤ 140737488355328 ∧ n ≤ 9223372036854775807) (hn : M.length = m) :
    evMem P (opnd T) M (.call { callee := .builtin .append, args := #[s, x], argTypes := #[t, t'] }) = some (.c (.sl m 0 n n 1), M ++ [.row true (.a8 y)]) := by
  show evAppend P M t t' (opnd T s) (opnd T x) = _
  subst hn; subst hl
  rw [hs, hx]
  simp [evAppend, hu, noIntT, hu2, he, srcOf, Arr.one, hb.1, hb.2]
theorem s_appB {y u : List (BitVec 8)} {by' n m b0 len cap : Nat} {e2 : TypeId} (hs : opnd T s = .c (.sl b0 0 len cap 1)) (hms : M[b0]? = some (.row true (.a8 u))) (hx : opnd T x = .c (.bs y)) (hu : P.underlying t = some (.slice el)) (hu2 : P.underlying t' = some (.slice e2)) (he : elemOk P el = some (1, by'))
    (hlu : u.length = len) (hl : y.length = n) (hb : (len + n) * by' ≤ 140737488355328 ∧ len + n ≤ 9223372036854775807 ∧ n * by' ≤ 140737488355328) (hn : M.length = m) (hM : M.set b0 .dead ++ [.row true (.a8 (u ++ y))] = M') (hd : decide (d < N) = true) (hk : WO P k ops l0 ⟨N, upd T d (.c (.sl m 0 (len + n) (len + n) 1)), M'⟩ K) :
    WO P k ops (⟨some d, .call { callee := .builtin .append, args := #[s, x], argTypes := #[t, t'] }, ty, pos, af, none⟩ :: l0) ⟨N, T, M⟩ K :=
  s_mem (by
    show evAppend P M t t' (opnd T s) (opnd T x) = _
    subst hn; subst hM; subst hl
    rw [hs, hx]
    have hz2 : Arr.size (.a8 u) = len := hlu
    have hn9 : y.length ≤ 9223372036854775807 := by omega
    simp [evAppend, hu, noIntT, hu2, he, srcOf, hms, hz2, winA, Arr.one, Arr.app, hb.1, hb.2.1, hb.2.2, hn9]) hd hk
theorem s_appR {y : List (BitVec 8)} {u : List (List (BitVec 8))} {by' m b0 len cap b c : Nat} {own : Bool} {e2 : TypeId} (hs : opnd T s = .c (.sl b0 0 len cap 1)) (hms : M[b0]? = some (.row true (.ab u))) (hx : opnd T x = .c (.sl b 0 1 c 1)) (hm : M[b]? = some (.row own (.ac [.bs y]))) (hu : P.underlying t = some (.slice el)) (hu2 : P.underlying t' = some (.slice e2)) (he : elemOk P el = some (1, by'))
    (hlu : u.length = len) (hb : (len + 1) * by' ≤ 140737488355328 ∧ len + 1 ≤ 9223372036854775807 ∧ by' ≤ 140737488355328) (hn : M.length = m) (hM : M.set b0 .dead ++ [.row true (.ab (u ++ [y]))] = M') (hd : decide (d < N) = true) (hk : WO P k ops l0 ⟨N, upd T d (.c (.sl m 0 (len + 1) (len + 1) 1)), M'⟩ K) :
    WO P k ops (⟨some d, .call { callee := .builtin .append, args := #[s, x], argTypes := #[t, t'] }, ty, pos, af, none⟩ :: l0) ⟨N, T, M⟩ K :=
  s_mem (by
    show evAppend P M t t' (opnd T s) (opnd T x) = _
    subst hn; subst hM
    rw [hs, hx]
    have hz2 : Arr.size (.ab u) = len := hlu
    have hz : Arr.size (.ac [.bs y]) = 1 := rfl
    simp [evAppend, hu, noIntT, hu2, he, srcOf, hm, hms, hz, hz2, winA, Arr.one, Cell.one, Arr.app, hb.1, hb.2.1, hb.2.2]) hd hk
end
theorem cast_step {k : Nat} {ι : Emb} {M : Mem} {w : World} {b : Nat} {own : Bool} {x y : Arr} (hk : k ≤ M.length) (hR : R ι M w) (hm : M[b]? = some (.row own x)) (hx : x.isMap = false) (hy : y.isMap = false) (hs : y.size = x.size) (hg : ∀ (ι : Emb) i v, i < x.size → (x.get i).rel ι v → (y.get i).rel ι v) (hb : own = false → k ≤ b) : Step k ι M w ι (M.set b (.row own y)) w := by
  have src : ∀ {i : Nat} {o : Bool} {z : Arr}, (M.set b (.row own y))[i]? = some (.row o z) → ∃ z0, M[i]? = some (.row o z0) ∧ (i = b ∧ z = y ∧ z0 = x ∨ i ≠ b ∧ z0 = z) := fun {i o z} h => by
    rcases set_row h with ⟨h1, h2⟩ | ⟨rfl, h2⟩
    · exact ⟨z, h2, .inr ⟨h1, rfl⟩⟩
    · cases h2; exact ⟨x, hm, .inl ⟨rfl, rfl, rfl⟩⟩
  refine Step.make hR (fun b hb => hR.dom b (by simpa using hb)) (fun i l o z h1 h2 => ?_) (fun i i' l l' o o' z z' hne h1 h2 h3 h4 ho => ?_) ⟨rfl, rfl, rfl, Nat.le_refl _, fun _ _ _ => rfl, fun c hc => ?_⟩ rfl (fun _ _ => rfl) (by simpa using hk) (fun i z hi h => ?_) (fun i o z hi h => ?_) (fun i l o z hi h1 h2 => ?_)
  · obtain ⟨z0, h3, h4⟩ := src h2
    rcases h4 with ⟨rfl, rfl, rfl⟩ | ⟨_, rfl⟩
    · obtain ⟨cs, t, fr, k1, k2, k3, k4⟩ := hR.cells h1 h3 hx
      refine .of hy ⟨cs, t, fr, k1, by rw [hs]; exact k2, fun j hj => ?_, k4⟩
      rw [hs] at hj
      obtain ⟨v, e1, e2⟩ := k3 j hj
      exact ⟨v, e1, hg _ _ _ hj e2⟩
    · exact hR.rows i l o z0 h1 h3
  · obtain ⟨z0, h5, _⟩ := src h3
    obtain ⟨z0', h6, _⟩ := src h4
    exact hR.inj i i' l l' o o' z0 z0' hne h1 h2 h5 h6 ho
  · obtain ⟨i, l, z, h1, h2, rfl⟩ := hc
    obtain ⟨z0, h3, _⟩ := src h2
    exact .inr ⟨i, l, z0, h1, h3, rfl⟩
  · by_cases e : i = b
    · subst e
      rw [hm] at h
      cases h
      have := hb rfl
      omega
    · rw [List.getElem?_set_ne (fun h => e h.symm)]; exact h
  · obtain ⟨z0, h3, _⟩ := src h
    exact ⟨z0, h3⟩
  · obtain ⟨z0, h3, _⟩ := src h2
    exact .inr (.inr ⟨i, l, o, z0, hi, h1, h3, rfl⟩)
section
variable {P : Program} {k N : Nat} {c : Code} {T : Nat → AV} {M M' : Mem} {Φ : Ex → St → Prop}
end
end Go.Proofs.YtmbepikkgkcgkaaGreatDoor
namespace Go.Proofs.YtmbepikkgkcgkaaGreatDoor
open Go.RowKit
section
variable {P : Program} {T : Nat → AV} {M : Mem} {t t' : TypeId} {x y : Operand}
theorem shlN {a : Nat} {kd : IntKind} {j : Nat} (hj : j ≤ 63) (h : a * 2 ^ j ≤ 9223372036854775807) : binOp .shl t (.int .i64 (a : Int)) (.int kd (j : Int)) = (pure (.int .i64 ((a * 2 ^ j : Nat) : Int)) : Sem Value) := by
  have h0 : ¬ (j : Int) < 0 := by omega
  have e : ((a : Int) * 2 ^ j) = ((a * 2 ^ j : Nat) : Int) := by rw [Int.natCast_mul, Int.natCast_pow]; rfl
  have hm : min j IntKind.i64.bits = j := Nat.min_eq_left (by show j ≤ 64; omega)
  show Op.shift .shl .i64 (a : Int) kd (j : Int) = _
  simp only [Op.shift, h0, if_false, Int.toNat_natCast, hm, e]
  rw [IntWalk.i64_in _ (by omega)]
theorem v_shlN {a : Nat} {kd : IntKind} {j : Nat} (hx : opnd T x = .c (.val (.int .i64 (a : Int)))) (hy : opnd T y = .c (.val (.int kd (j : Int)))) (hj : j ≤ 63) (h : a * 2 ^ j ≤ 9223372036854775807) : evVal P (opnd T) M (.binOp .shl t x y t') = some ((.c (.val (.int .i64 ((a * 2 ^ j : Nat) : Int))))) :=
  v_bin hx hy (shlN hj h)
theorem orN {a b : Nat} (ha : a < 2 ^ 63) (hb : b < 2 ^ 63) : binOp .or t (.int .i64 (a : Int)) (.int .i64 (b : Int)) = (pure (.int .i64 ((a ||| b : Nat) : Int)) : Sem Value) := by
  have h : a ||| b < 2 ^ 63 := Nat.or_lt_two_pow ha hb
  have e : (BitVec.ofInt 64 (a : Int) ||| BitVec.ofInt 64 (b : Int)).toNat = a ||| b := by
    rw [BitVec.toNat_or, BitVec.ofInt_natCast, BitVec.ofInt_natCast, BitVec.toNat_ofNat, BitVec.toNat_ofNat, Nat.mod_eq_of_lt (by omega), Nat.mod_eq_of_lt (by omega)]
  show (pure (Value.int .i64 (IntKind.i64.wrap ((BitVec.ofInt 64 (a : Int) ||| BitVec.ofInt 64 (b : Int)).toNat : Nat))) : Sem Value) = _
  rw [e, IntWalk.i64_in _ (by omega)]
theorem v_orN {a b : Nat} (hx : opnd T x = .c (.val (.int .i64 (a : Int)))) (hy : opnd T y = .c (.val (.int .i64 (b : Int)))) (ha : a < 2 ^ 63) (hb : b < 2 ^ 63) : evVal P (opnd T) M (.binOp .or t x y t') = some ((.c (.val (.int .i64 ((a ||| b : Nat) : Int))))) :=
  v_bin hx hy (orN ha hb)
end
end Go.Proofs.YtmbepikkgkcgkaaGreatDoor
namespace Go.Proofs.YtmbepikkgkcgkaaGreatDoor
open Go.RowKit
section
variable {P : Program} {k : Nat} {c : Code} {s0 : St} {Φ : Ex → St → Prop}
def whileK (k : Nat) (keep : List Nat) {σ : Type} (I : σ → St) (μ : σ → Nat) (inv : σ → Prop) (y : σ) (Φ : Ex → St → Prop) : Ex → St → Prop
  | .normal, s => ∃ x, clean k keep s = some (I x) ∧ μ x < μ y ∧ inv x
  | e, s => Φ e s
theorem c_while (keep : List Nat) {σ : Type} (I : σ → St) (μ : σ → Nat) (inv : σ → Prop) (y0 : σ) (h0 : clean k keep s0 = some (I y0)) (hi : inv y0) (hstep : ∀ y, inv y → WC P k c (I y) (whileK k keep I μ inv y Φ)) : WC P k (.loop c) s0 Φ := by
  refine c_clean keep h0 ?_
  have key : ∀ n y, μ y ≤ n → inv y → WC P k (.loop c) (I y) Φ := by
    intro n
    induction n with
    | zero =>
      intro y hn hy
      obtain ⟨e, r, h1, h2⟩ := (hstep y hy).h
      cases e with
      | normal => obtain ⟨x, _, h4, _⟩ := h2; omega
      | exit id => exact ⟨⟨_, r, Ev.loopx h1 (by simp), h2⟩⟩
      | ret => exact ⟨⟨_, r, Ev.loopx h1 (by simp), h2⟩⟩
    | succ n ih =>
      intro y hn hy
      obtain ⟨e, r, h1, h2⟩ := (hstep y hy).h
      cases e with
      | normal =>
        obtain ⟨x, h3, h4, h5⟩ := h2
        obtain ⟨e', r', h6, h7⟩ := (ih x (by omega) h5).h
        exact ⟨⟨e', r', Ev.loop h1 (Ev.clean keep h3 h6), h7⟩⟩
      | exit id => exact ⟨⟨_, r, Ev.loopx h1 (by simp), h2⟩⟩
      | ret => exact ⟨⟨_, r, Ev.loopx h1 (by simp), h2⟩⟩
  exact key _ y0 (Nat.le_refl _) hi
end
end Go.Proofs.YtmbepikkgkcgkaaGreatDoor
