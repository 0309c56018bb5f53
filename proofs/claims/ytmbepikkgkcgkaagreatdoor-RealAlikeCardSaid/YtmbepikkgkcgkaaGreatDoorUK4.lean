/- The texts AvLit, AvChain, AvQuiet, AvLend, TPlain, TClone, TSteps, AvTy, TMake, merged into one. -/
import Derived.Test.YtmbepikkgkcgkaaGreatDoorUK3
import Derived.Lib.SliceRun
namespace Go.Proofs.YtmbepikkgkcgkaaGreatDoor
open Go.RowKit
theorem hide_stepW {k : Nat} {ι : Emb} {M : Mem} {w w' : World} {b : Nat} {l : Loc} {x : Arr} (hk : k ≤ M.length) (hR : R ι M w) (hb : ι b = some l) (hm : M[b]? = some (.row true x)) (ho : w'.os = w.os) (ht : w'.tape = w.tape) (hu : w'.output = w.output) (hsz : w'.heap.size = w.heap.size) (hoth : ∀ c, c ≠ l.c → w'.heap[c]? = w.heap[c]?) :
    Step k ι M w ⟨ι.f, fun c o v => ι.tx c o v ∨ (c = l.c ∧ ∃ cs t fr, w'.heap[c]? = some (.cells cs t fr) ∧ cs[o]? = some v)⟩ (M.set b .dead) w' := by
  have hown : Owned ι M l.c := ⟨b, l, x, hb, hm, rfl⟩
  have hle : ι.le ⟨ι.f, fun c o v => ι.tx c o v ∨ (c = l.c ∧ ∃ cs t fr, w'.heap[c]? = some (.cells cs t fr) ∧ cs[o]? = some v)⟩ := ⟨fun _ _ h => h, fun _ _ _ h => .inl h⟩
  have src : ∀ {i : Nat} {own : Bool} {y : Arr}, (M.set b .dead)[i]? = some (.row own y) → i ≠ b ∧ M[i]? = some (.row own y) := fun {i own y} h => by
    rcases set_row h with ⟨h1, h2⟩ | ⟨_, h2⟩
    · exact ⟨h1, h2⟩
    · cases h2
  have apart : ∀ {i : Nat} {l1 : Loc} {own : Bool} {z : Arr}, i ≠ b → ι i = some l1 → M[i]? = some (.row own z) → l1.c ≠ l.c := fun hne h1 k1 => hR.inj _ b _ l _ true _ x hne h1 hb k1 hm (.inr rfl)
  have keep : ∀ c, c < w.heap.size → ¬ Owned ι M c → w'.heap[c]? = w.heap[c]? := fun c _ hn => hoth c (fun e => hn (by rw [e]; exact hown))
  have fresh : ∀ c, Owned ι (M.set b .dead) c → w.heap.size ≤ c ∨ Owned ι M c := fun c ⟨i, l1, y, h1, h2, h3⟩ => .inr ⟨i, l1, y, h1, (src h2).2, h3⟩
  refine ⟨⟨fun i hi => hR.dom i (by simpa using hi), fun i l1 own y h1 h2 => ?_, fun i i' l1 l1' own own' y y' hne h1 h2 h3 h4 ho => ?_, fun c Φ hc => ?_⟩, ⟨ho, ht, hu, Nat.le_of_eq hsz.symm, keep, fun c hc => fresh c hc⟩, fun _ _ _ h => .inl h, fun c o v hc => ?_, fun _ _ => rfl, by simpa using hk, fun i y hi h => ?_, fun i own y hi h => ⟨y, (src h).2⟩, fun i l1 own y hi h1 h2 => .inr (.inr ⟨i, l1, own, y, hi, h1, (src h2).2, rfl⟩)⟩
  · obtain ⟨hne, h3⟩ := src h2
    exact (hR.rows i l1 own y h1 h3).heap (hoth _ (apart hne h1 h3)) hle
  · exact hR.inj i i' l1 l1' own own' y y' hne h1 h2 (src h3).2 (src h4).2 ho
  · cases hc with
    | base kb => exact stay_keep hR keep fresh c Φ (.base kb)
    | tx hc =>
      rcases hc with hc | ⟨rfl, cs, t, fr, h1, h2⟩
      · exact stay_keep hR keep fresh c _ (.tx hc)
      · refine ⟨⟨_, h1, cs, t, fr, rfl, h2⟩, fun i l' y h3 h4 => ?_⟩
        obtain ⟨h5, h6⟩ := src h4
        exact apart h5 h3 h6
  · rcases hc with hc | ⟨rfl, _⟩
    · exact .inl hc
    · exact .inr (.inr hown)
  · rw [List.getElem?_set_ne (fun e => by subst e; rw [hm] at h; cases h)]; exact h
theorem stay_alloc {ι : Emb} {M : Mem} {w w' : World} (hR : R ι M w) {cs : Array Value} {t : TypeId} (hh : w'.heap = w.heap.push (.cells cs t (0, 0))) (ho : w'.os = w.os) (ht : w'.tape = w.tape) (hu : w'.output = w.output) :
    Step M.length ι M w ⟨ι.f, fun c o v => ι.tx c o v ∨ (c = w.heap.size ∧ cs[o]? = some v)⟩ M w' := by
  have old : ∀ c, c < w.heap.size → w'.heap[c]? = w.heap[c]? := fun c hc => by rw [hh, Array.getElem?_push, if_neg (by omega)]
  have hle : ι.le ⟨ι.f, fun c o v => ι.tx c o v ∨ (c = w.heap.size ∧ cs[o]? = some v)⟩ := ⟨fun _ _ h => h, fun _ _ _ h => .inl h⟩
  have keep : ∀ c, c < w.heap.size → ¬ Owned ι M c → w'.heap[c]? = w.heap[c]? := fun c hc _ => old c hc
  refine ⟨⟨hR.dom, fun i l own y h1 h2 => (hR.rows i l own y h1 h2).heap (old _ (hR.lt h1 h2)) hle, hR.inj, fun c Φ hc => ?_⟩, ⟨ho, ht, hu, by rw [hh]; simp, keep, fun c hc => .inr hc⟩, fun _ _ _ h => .inl h, fun c o v hc => ?_, fun _ _ => rfl, Nat.le_refl _, fun _ _ _ h => h, fun _ _ x _ h => ⟨x, h⟩, fun b l own x hb h1 h2 => (no_row hb h2).elim⟩
  · cases hc with
    | base kb => exact stay_keep hR keep (fun c hc => .inr hc) c Φ (.base kb)
    | tx hc =>
      rcases hc with hc | ⟨rfl, h2⟩
      · exact stay_keep hR keep (fun c hc => .inr hc) c _ (.tx hc)
      · exact ⟨⟨_, by rw [hh, Array.getElem?_push, if_pos rfl], cs, t, (0, 0), rfl, h2⟩, fun b l x h1 h3 e => by have := hR.lt h1 h3; omega⟩
  · rcases hc with hc | ⟨rfl, _⟩
    · exact .inl hc
    · exact .inr (.inl (Nat.le_refl _))
def cutEmb (n : Nat) (ι : Emb) : Emb := ⟨fun b => if b < n then ι b else none, ι.tx⟩
def cutRen (n b : Nat) : Option Nat := if b < n then some b else none
theorem cut_same (n : Nat) (ι : Emb) : Same (cutRen n) ι (cutEmb n ι) := by
  refine ⟨fun b b' h => ?_, fun _ _ _ h => h⟩
  unfold cutRen at h
  split at h
  · rename_i hb
    cases h
    exact if_pos hb
  · cases h
theorem cutRen_id {n : Nat} {x : Arr} (h : x.refs.all (· < n) = true) : x.ren (cutRen n) = x := by
  cases x with
  | ac l =>
    simp only [Arr.refs, List.all_eq_true, List.mem_flatMap, decide_eq_true_eq] at h
    simp only [Arr.ren]
    congr 1
    conv => rhs; rw [← List.map_id l]
    apply List.map_congr_left
    intro c hc
    have e : ∀ b, b < n → cutRen n b = some b := fun b hb => if_pos hb
    cases c with
    | ptr b o => simp only [Cell.ren, e _ (h b ⟨_, hc, by simp [Cell.refs]⟩), id]
    | sl b o n c z => simp only [Cell.ren, e _ (h b ⟨_, hc, by simp [Cell.refs]⟩), id]
    | mp b => simp only [Cell.ren, e _ (h b ⟨_, hc, by simp [Cell.refs]⟩), id]
    | xs b n => simp only [Cell.ren, e _ (h b ⟨_, hc, by simp [Cell.refs]⟩), id]
    | _ => rfl
  | _ => rfl
def refsIn (n : Nat) (M : Mem) : Bool := M.all fun r => r.refs.all (· < n)
theorem cut_step {k : Nat} {ι : Emb} {M N : Mem} {w : World} (hk : k ≤ M.length) (hR : R ι (M ++ N) w) (hr : refsIn M.length M = true) : Step k ι (M ++ N) w (cutEmb M.length ι) M w := by
  have at_ : ∀ {b : Nat} {l : Loc}, cutEmb M.length ι b = some l → b < M.length ∧ ι b = some l := fun {b l} h => by
    unfold cutEmb at h
    dsimp only at h
    split at h
    · rename_i hb; exact ⟨hb, h⟩
    · cases h
  have row : ∀ {b : Nat} {own : Bool} {x : Arr}, M[b]? = some (.row own x) → (M ++ N)[b]? = some (.row own x) := fun {b own x} h => by
    rw [List.getElem?_append_left (List.getElem?_eq_some_iff.1 h).1]; exact h
  have fresh : ∀ c, Owned (cutEmb M.length ι) M c → w.heap.size ≤ c ∨ Owned ι (M ++ N) c := fun c ⟨b, l, x, h1, h2, h3⟩ => .inr ⟨b, l, x, (at_ h1).2, row h2, h3⟩
  refine ⟨⟨fun b hb => if_neg (by omega), fun b l own x h1 h2 => ?_, fun b b' l l' own own' x x' hne h1 h2 h3 h4 ho => hR.inj b b' l l' own own' x x' hne (at_ h1).2 (at_ h2).2 (row h3) (row h4) ho, fun c Φ hc => stay_keep hR (fun _ _ _ => rfl) fresh c Φ (hc.to ι)⟩, ⟨rfl, rfl, rfl, Nat.le_refl _, fun _ _ _ => rfl, fresh⟩, fun _ _ _ h => h, fun _ _ _ h => .inl h, fun b hb => if_pos (by omega), hk, fun b x hb h => ?_, fun b own x hb h => ⟨x, row h⟩, fun b l own x hb h1 h2 => .inr (.inr ⟨b, l, own, x, hb, (at_ h1).2, row h2, rfl⟩)⟩
  · have h3 := (hR.rows b l own x (at_ h1).2 (row h2)).ren (cut_same M.length ι)
    have hx : x.refs.all (· < M.length) = true := List.all_eq_true.1 hr _ (List.mem_of_getElem? h2)
    rwa [cutRen_id hx] at h3
  · rwa [List.getElem?_append_left (by omega)] at h
theorem o_drop {P : Program} {op : Op} {e : Operand → AV} {m N : Mem} {v : AV} (h : Ev P (.op op e m) (.val v (m ++ N))) (hr : refsIn m.length m = true) (hv : v.ren (cutRen m.length) = v) : Ev P (.op op e m) (.val v m) :=
  Ev.opPost h fun ι w u hk hR hu => ⟨_, by have := AV.ren_rel (cut_same m.length ι) hu; rwa [hv] at this, cut_step (Nat.le_refl _) hR hr⟩
section
variable {P : Program} {e : Operand → AV} {M M' : Mem} {t t' el : TypeId}
theorem o_lit {l : List (BitVec 8)} {by' len n : Nat} {ps : Array (Nat × Operand)} (hu : P.underlying t = some (.slice el)) (he : elemOk P el = some (1, by')) (hd : denseA 0 (ps.toList.map fun p => (p.1, e p.2)) = some (l.map U8)) (hl : ps.toList.length = len) (h0 : ¬ len = 0) (h1 : len ≤ 16777216) (hn : M.length = n) :
    Ev P (.op (.buildSlice t len ps) e M) (.val (.c (.xs n len)) (M ++ [.row true (.a8 l)])) :=
  Ev.sem fun O ι w ρ hO hR hρ => by
    obtain ⟨dst, op, ty, pos, af, gd⟩ := O
    subst hO; subst hn
    obtain ⟨i, z, hi, hz, hs1, hb1, hzs, hsz⟩ := elemOk_spec he
    have hpr := partsRel_map (e := e) (ρ := ρ) ps.toList fun p hp => hρ p.2 (by simp [Op.operands]; exact ⟨p.1, by simpa using hp⟩)
    have e1 : (ps.map fun (i, x) => (i, ρ x)).toList = ps.toList.map fun p => (p.1, ρ p.2) := Array.toList_map
    rw [← e1] at hpr
    obtain ⟨g1, g2⟩ := denseA_sound hd hpr
    have hlen : l.length = len := by
      have := denseA_len hd
      rw [List.length_map, List.length_map, hl] at this
      exact this
    have hrun := run_buildSlice (P := P) w t el len (ps.map fun (i, x) => (i, ρ x)) (l.map U8).toArray i z hu hi hz (by rw [hs1]; omega) (by rw [hs1]; omega) (by rw [g1, hs1]; exact fill_flat1 g2 (by simp; omega))
    have hst := alloc_step (w' := w.alloc (.cells (l.map U8).toArray el)) (x := .a8 l) (t := el) hR (cs := (l.map U8).toArray) rfl rfl rfl rfl (by simp [Arr.size]) (fun j hj => ⟨U8 (nth l j), by
      have hj : j < l.length := hj
      rw [Nat.zero_add, nth_eq l j hj]
      simp [hj], rfl⟩) rfl
    exact .inl ⟨.slice (some ⟨w.heap.size, 0, none⟩) len len, _, _, .inl (by simp [execOp, hrun]), ⟨_, Emb.upd_eq _ _ _, rfl⟩, hst.1⟩
theorem o_markL {x : Operand} {b n : Nat} {l : List (BitVec 8)} (hx : e x = .c (.xs b n)) (ht : P.underlying t = some (.slice el)) (he : P.underlying el = some (.int .u8)) (hm : M[b]? = some (.row true (.a8 l))) (hn : l.length = n) (hM : M.set b .dead = M') :
    Ev P (.op (.convert t t x) e M) (.val (.c (.lb l)) M') :=
  Ev.sem fun O ι w ρ hO hR hρ => by
    obtain ⟨dst, op, ty, pos, af, gd⟩ := O
    subst hO; subst hM; subst hn
    have h1 := hρ x (by simp [Op.operands])
    rw [hx] at h1
    obtain ⟨lc, hl, hv⟩ := h1
    obtain ⟨cs, tt, fr, k1, k2, k3, k4⟩ := hR.cells hl hm rfl
    have hsh : w.shape? lc.c = some (tt, cs.size) := by simp only [World.shape?, k1]
    have hrun : (convert t t (.slice (some ⟨lc.c, lc.off, none⟩) l.length l.length)).run P w = .ok (.slice (some ⟨lc.c, lc.off, none⟩) l.length l.length) (w.freeze ⟨lc.c, cs.size, none⟩ 1) := by
      simp [convert, run_underlying ht, run_underlying he, markStringish, hsh]
    have hw : (w.freeze ⟨lc.c, cs.size, none⟩ 1).os = w.os ∧ (w.freeze ⟨lc.c, cs.size, none⟩ 1).tape = w.tape ∧ (w.freeze ⟨lc.c, cs.size, none⟩ 1).output = w.output ∧ (w.freeze ⟨lc.c, cs.size, none⟩ 1).heap.size = w.heap.size := by
      unfold World.freeze
      rw [if_neg (by omega)]
      exact ⟨rfl, rfl, rfl, by simp⟩
    have hoth : ∀ c, c ≠ lc.c → (w.freeze ⟨lc.c, cs.size, none⟩ 1).heap[c]? = w.heap[c]? := fun c hc => by
      unfold World.freeze
      rw [if_neg (by omega)]
      simp only [Array.getElem?_modify]
      rw [if_neg (fun h => hc h.symm)]
    have hat : ∃ fr', (w.freeze ⟨lc.c, cs.size, none⟩ 1).heap[lc.c]? = some (.cells cs tt fr') := by
      unfold World.freeze
      rw [if_neg (by omega)]
      simp only [Array.getElem?_modify, if_true, k1]
      exact ⟨_, rfl⟩
    obtain ⟨fr', hat⟩ := hat
    have hst := hide_stepW (Nat.le_refl _) hR hl hm hw.1 hw.2.1 hw.2.2.1 hw.2.2.2 hoth
    refine .inl ⟨.slice (some ⟨lc.c, lc.off, none⟩) l.length l.length, _, _, .inl (by simp [execOp, hv, hrun]), ⟨⟨some ⟨lc.c, lc.off, none⟩, l.length, rfl, Nat.le_refl _, ?_⟩, some ⟨lc.c, lc.off, none⟩, rfl⟩, hst⟩
    by_cases h0 : l.length = 0
    · exact .inl h0
    · refine .inr ⟨lc.c, lc.off, rfl, ⟨lc.off, U8 (nth l 0), .inr ⟨rfl, cs, tt, fr', hat, ?_⟩⟩, fun i hi => .inr ⟨rfl, cs, tt, fr', hat, ?_⟩⟩
      · obtain ⟨u, e1, e2⟩ := k3 0 (by show 0 < l.length; omega)
        obtain rfl : u = U8 (nth l 0) := e2
        exact e1
      · obtain ⟨u, e1, e2⟩ := k3 i hi
        obtain rfl : u = U8 (nth l i) := e2
        exact e1
theorem o_appL {s x : Operand} {l y : List (BitVec 8)} {n by' : Nat} (hs : e s = .c (.lb l)) (hx : srcOf M 1 (e x) = some (n, .a8 y)) (hu : P.underlying t = some (.slice el)) (hu2 : P.underlying t' = some (.slice el)) (he : elemOk P el = some (1, by')) (hb : (l.length + n) * by' ≤ 140737488355328 ∧ l.length + n ≤ 9223372036854775807) :
    Ev P (.op (.call { callee := .builtin .append, args := #[s, x], argTypes := #[t, t'] }) e M) (.val (.c (.bs (l ++ y))) M) :=
  Ev.sem fun O ι w ρ hO hR hρ => by
    obtain ⟨dst, op, ty, pos, af, gd⟩ := O
    subst hO
    have h1 := hρ s (by simp [Op.operands, Call.operands])
    have h2 := hρ x (by simp [Op.operands, Call.operands])
    rw [hs] at h1
    obtain ⟨hst, pp, hp⟩ := h1
    obtain ⟨i, z, hi, hz, hs1, hb1, hzs, hsz⟩ := elemOk_spec he
    obtain ⟨qa, c, news, hq, hnc, hsh⟩ := srcOf_sound hx (by omega) hR h2
    obtain ⟨pp', cp, olds, hp', hle, hold⟩ := stay_shows (M := M) (y := .a8 l) (g := fun i => U8 (nth l i)) rfl hR hst fun i hi => rfl
    rw [hp] at hp'
    cases hp'
    have hyn : y.length = n := by have := hsh.size; simpa [Arr.size] using this
    have hol : olds.length = l.length := by have := hold.len; rw [Nat.mul_one] at this; exact this
    have hnl : news.length = n := by have := hsh.len; simpa using this
    have nt : noIntT P t' = true := by simp [noIntT, hu2]
    rcases run_append_any (P := P) (w := w) t t' ty el i z hu nt hi hz pp qa l.length l.length n c olds news (fun w' hw => by rw [hs1]; exact hold.first P l.length w' hw) (fun w' hw => by rw [hs1]; exact hsh.first P c w' hw) (by rw [hb1]; exact hb.1) hb.2 with ⟨hr, er⟩ | ⟨hr, cap', hcap, er⟩
    · obtain rfl : n = 0 := by omega
      obtain rfl : y = [] := List.eq_nil_of_length_eq_zero hyn
      obtain rfl : news = [] := List.eq_nil_of_length_eq_zero hnl
      refine .inl ⟨.slice pp l.length l.length, w, ι, .inl ?_, ?_, Step.refl hR (Nat.le_refl _)⟩
      · cases pp <;> simp [execOp, resolve, invoke, builtin, hp, hq, er, storeCells]
      · rw [List.append_nil]
        rw [hp] at hst
        exact hst
    · have hsta := stay_alloc (w' := w.drew.alloc (.cells (olds.toArray ++ news.toArray ++ Builtin.zeroCells z.cells (cap' - (l.length + n))) el)) (t := el) hR (cs := olds.toArray ++ news.toArray ++ Builtin.zeroCells z.cells (cap' - (l.length + n))) rfl rfl rfl rfl
      refine .inl ⟨.slice (some ⟨w.heap.size, 0, none⟩) (l.length + n) cap', _, _, .inl ?_, ?_, hsta⟩
      · simp [execOp, resolve, invoke, builtin, hp, hq, er]
      · have cell : ∀ j, j < (l ++ y).length → (olds.toArray ++ news.toArray ++ Builtin.zeroCells z.cells (cap' - (l.length + n)))[j]? = some (U8 (nth (l ++ y) j)) := by
          intro j hj
          rw [List.length_append, hyn] at hj
          rw [Array.getElem?_append_left (by simp; omega)]
          by_cases hjl : j < l.length
          · rw [Array.getElem?_append_left (by simp; omega)]
            obtain ⟨u, e1, e2⟩ := hold.rel j hjl
            obtain rfl : u = U8 (nth l j) := e2
            rw [show nth (l ++ y) j = nth l j by unfold nth; rw [app_getD, if_pos hjl]]
            simpa using e1
          · rw [Array.getElem?_append_right (by simp; omega)]
            obtain ⟨u, e1, e2⟩ := hsh.rel (j - l.length) (by show _ < y.length; omega)
            obtain rfl : u = U8 (nth y (j - l.length)) := e2
            rw [show nth (l ++ y) j = nth y (j - l.length) by unfold nth; rw [app_getD, if_neg hjl]]
            simp only [List.size_toArray, hol]
            simpa using e1
        have hlen : (l ++ y).length = l.length + n := by rw [List.length_append, hyn]
        refine ⟨_, cap', by rw [hlen], by omega, .inr ⟨w.heap.size, 0, rfl, ⟨0, U8 (nth (l ++ y) 0), .inr ⟨rfl, ?_⟩⟩, fun j hj => .inr ⟨rfl, ?_⟩⟩⟩
        · exact cell 0 (by omega)
        · rw [Nat.zero_add]; exact cell j hj
end
end Go.Proofs.YtmbepikkgkcgkaaGreatDoor
namespace Go.Proofs.YtmbepikkgkcgkaaGreatDoor
open Go.RowKit
def Region.okChain (ops : Array Oper) (cs : List Nat) (size : Nat) : Bool :=
  Region.okX ops ops.size size && (List.range ops.size).all fun i => match ops[i]? with
    | some o => o.guard.isNone && (!cs.contains i || (List.range ops.size).all fun j => !cs.contains j || !decide (i < j) || bef ops j i) && o.after.all fun e => !Region.binds .any e || decide (e.on < i)
    | none => true
structure OkC (ops : Array Oper) (cs : List Nat) (size : Nat) : Prop where
  ok : OkX ops ops.size size
  guard : ∀ (i : Nat) (o : Oper), ops[i]? = some o → o.guard = none
  chain : ∀ (i j : Nat), i < j → j < ops.size → cs.contains i = true → cs.contains j = true → bef ops j i = true
  back : ∀ (i : Nat) (o : Oper) (e : Edge), ops[i]? = some o → e ∈ o.after → Region.binds .any e = true → e.on < i
theorem Region.okChain_spec {ops : Array Oper} {cs : List Nat} {size : Nat} (h : Region.okChain ops cs size = true) : OkC ops cs size := by
  simp only [Region.okChain, Bool.and_eq_true, List.all_eq_true, List.mem_range] at h
  obtain ⟨h1, h2⟩ := h
  have lt : ∀ {i : Nat} {o : Oper}, ops[i]? = some o → i < ops.size := fun ho => (Array.getElem?_eq_some_iff.1 ho).1
  refine ⟨Region.okX_spec h1, fun i o ho => ?_, fun i j hij hj hs hs' => ?_, fun i o e ho he hb => ?_⟩
  · have := h2 i (lt ho)
    rw [ho] at this
    simp only [Bool.and_eq_true, Option.isNone_iff_eq_none] at this
    exact this.1.1
  · have := h2 i (by omega)
    rw [Array.getElem?_eq_getElem (show i < ops.size by omega)] at this
    simp only [Bool.and_eq_true, Bool.or_eq_true, hs, Bool.not_true, Bool.false_eq_true, false_or, List.all_eq_true, List.mem_range] at this
    have := this.1.2 j hj
    rw [hs'] at this
    simpa [hij] using this
  · have := h2 i (lt ho)
    rw [ho] at this
    simp only [Bool.and_eq_true] at this
    have := Array.all_eq_true_iff_forall_mem.1 this.2 e he
    simpa [hb] using this
def PureOk (P : Program) (o : Oper) (e : Operand → AV) (m : Mem) (v : AV) : Prop := ∀ (ι : Emb) (w : World) (ρ : Operand → Value), R ι m w → (∀ x ∈ o.op.operands, (e x).rel ι (ρ x)) → OpGood P ρ o ι m w v m
structure LineC (P : Program) (ops : Array Oper) (cs : List Nat) (A : Nat → St) (V : Nat → AV) (N0 : Nat) : Prop where
  h0 : (A 0).n = N0
  pure : ∀ (i : Nat) (o : Oper), ops[i]? = some o → cs.contains i = false → (∀ c, c ≤ ops.size → (∀ j, j < c → cs.contains j = true → bef ops j i = false) → PureOk P o (opnd (A i).t) (A c).m (V i)) ∧ A (i + 1) = ⟨N0, putT (A i).t o.dst (V i), (A i).m⟩
  chain : ∀ (i : Nat) (o : Oper), ops[i]? = some o → cs.contains i = true → ∃ m', Sound P (.op o.op (opnd (A i).t) (A i).m) (.val (V i) m') ∧ A (i + 1) = ⟨N0, putT (A i).t o.dst (V i), m'⟩
section
variable {P : Program} {ops : Array Oper} {cs : List Nat} {A : Nat → St} {V : Nat → AV} {N0 : Nat}
theorem LineC.next (h : LineC P ops cs A V N0) {i : Nat} {o : Oper} (ho : ops[i]? = some o) : ∃ m', A (i + 1) = ⟨N0, putT (A i).t o.dst (V i), m'⟩ := by
  cases hs : cs.contains i with
  | true => obtain ⟨m', _, e⟩ := h.chain i o ho hs; exact ⟨m', e⟩
  | false => exact ⟨_, (h.pure i o ho hs).2⟩
theorem LineC.tmp1 (h : LineC P ops cs A V N0) {i : Nat} (hi : i < ops.size) {t : Nat} (ht : dstAt ops i ≠ some t) : (A (i + 1)).t t = (A i).t t := by
  have ho : ops[i]? = some (ops[i]'hi) := Array.getElem?_eq_getElem hi
  have hd : dstAt ops i = (ops[i]'hi).dst := by simp [dstAt, ho]
  rw [hd] at ht
  obtain ⟨m', e⟩ := h.next ho
  rw [e]
  show putT (A i).t (ops[i]'hi).dst (V i) t = _
  cases hdd : (ops[i]'hi).dst with
  | none => rfl
  | some d => rw [hdd] at ht; exact upd_ne _ _ (fun e => ht (by rw [e]))
theorem LineC.slot (h : LineC P ops cs A V N0) {i t : Nat} : ∀ d, i + d ≤ ops.size → (∀ j, i ≤ j → j < i + d → dstAt ops j ≠ some t) → (A (i + d)).t t = (A i).t t
  | 0, _, _ => rfl
  | d + 1, hd, hno => by
    rw [show i + (d + 1) = i + d + 1 by omega, h.tmp1 (by omega) (hno _ (by omega) (by omega)), LineC.slot h d (by omega) fun j h1 h2 => hno j h1 (by omega)]
theorem LineC.slot' (h : LineC P ops cs A V N0) {i j t : Nat} (hij : i ≤ j) (hj : j ≤ ops.size) (hno : ∀ l, i ≤ l → l < j → dstAt ops l ≠ some t) : (A j).t t = (A i).t t := by
  have := h.slot (i := i) (t := t) (j - i) (by omega) (fun l h1 h2 => hno l h1 (by omega))
  rwa [show i + (j - i) = j by omega] at this
theorem LineC.mem (h : LineC P ops cs A V N0) {i : Nat} : ∀ d, i + d ≤ ops.size → (∀ j, i ≤ j → j < i + d → cs.contains j = false) → (A (i + d)).m = (A i).m
  | 0, _, _ => rfl
  | d + 1, hd, hno => by
    have hlt : i + d < ops.size := by omega
    have ho : ops[i + d]? = some (ops[i + d]'hlt) := Array.getElem?_eq_getElem hlt
    obtain ⟨_, e⟩ := h.pure (i + d) _ ho (hno _ (by omega) (by omega))
    rw [show i + (d + 1) = i + d + 1 by omega, e]
    exact LineC.mem h d (by omega) fun j h1 h2 => hno j h1 (by omega)
theorem LineC.mem' (h : LineC P ops cs A V N0) {i j : Nat} (hij : i ≤ j) (hj : j ≤ ops.size) (hno : ∀ l, i ≤ l → l < j → cs.contains l = false) : (A j).m = (A i).m := by
  have := h.mem (i := i) (j - i) (by omega) (fun l h1 h2 => hno l h1 (by omega))
  rwa [show i + (j - i) = j by omega] at this
structure InvC (ops : Array Oper) (cs : List Nat) (A : Nat → St) (k : Nat) (ι0 : Emb) (w0 : World) (a0 : Act) (listed : Array Bool) (ι : Emb) (a : Act) (w : World) : Prop where
  cut : ∃ j, j ≤ ops.size ∧ (∀ i, i < ops.size → cs.contains i = true → (listed.getD i false = true ↔ i < j)) ∧ Step k ι0 (A 0).m w0 ι (A j).m w
  le : ι0.le ι
  hit : ∀ j, j < ops.size → listed.getD j false = true → ∀ d, dstAt ops j = some d → ((A (j + 1)).t d).rel ι (a.tmps.getD d undef)
  miss : ∀ t, (∀ j, j < ops.size → listed.getD j false = true → dstAt ops j ≠ some t) → a.tmps.getD t undef = a0.tmps.getD t undef
  size : a.tmps.size = a0.tmps.size
  defers : a.defers = a0.defers
  head : HeadInv .any ops ops.size listed
theorem InvC.agree (hl : LineC P ops cs A V N0) {k : Nat} {ι0 : Emb} {w0 : World} {a0 : Act} (hok : OkX ops ops.size a0.tmps.size) (hf : FRel ι0 (A 0) a0) {listed : Array Bool} {ι : Emb} {a : Act} {w : World} (h : InvC ops cs A k ι0 w0 a0 listed ι a w)
    {i : Nat} (hin : i < ops.size) {o : Oper} (ho : ops[i]? = some o) (hb : ∀ j, bef ops i j = true → listed.getD j false = true) (hun : listed.getD i false = false) :
    ∀ t ∈ o.looksAt ops, ((A i).t t).rel ι (a.tmps.getD t undef) := by
  intro t ht
  by_cases hex : ∃ j, j < ops.size ∧ dstAt ops j = some t
  · obtain ⟨j, hj, hd⟩ := hex
    rcases hok.look i o t j hin ho ht hj hd with ⟨hji, hbij⟩ | ⟨hij, hbji⟩
    · have hlj := hb j hbij
      rw [hl.slot' (i := j + 1) (by omega) (Nat.le_of_lt hin) (fun l h1 h2 hd' => by have := hok.uniq l j t (by omega) hj hd' hd; omega)]
      exact h.hit j hj hlj t hd
    · have hnl : listed.getD j false ≠ true := fun hlt => by
        have := bef_spec h.head.closed hbji (Array.getElem?_eq_getElem hj) (h.head.closed j _ (Array.getElem?_eq_getElem hj) hlt)
        rw [hun] at this; cases this
      rw [h.miss t (fun j' hj' hl' hd' => hnl (by rw [← hok.uniq j' j t hj' hj hd' hd]; exact hl')), hl.slot' (i := 0) (Nat.zero_le i) (Nat.le_of_lt hin) (fun l _ h2 hd' => by have := hok.uniq l j t (by omega) hj hd' hd; omega)]
      exact AV.rel_mono h.le (hf.rel t)
  · have hno : ∀ j, j < ops.size → dstAt ops j ≠ some t := fun j hj hd => hex ⟨j, hj, hd⟩
    rw [h.miss t (fun j hj _ => hno j hj), hl.slot' (i := 0) (Nat.zero_le i) (Nat.le_of_lt hin) (fun l _ h2 => hno l (by omega))]
    exact AV.rel_mono h.le (hf.rel t)
theorem InvC.next {k : Nat} {ι0 : Emb} {w0 : World} {a0 : Act} (hok : OkX ops ops.size a0.tmps.size) {listed : Array Bool} {ι ι' : Emb} {a : Act} {w : World} (h : InvC ops cs A k ι0 w0 a0 listed ι a w) (hle : ι.le ι')
    {i : Nat} (hi : i ∈ Region.ready .any ops listed) {o : Oper} (ho : ops[i]? = some o) {u : Value} {w' : World}
    (hcut : ∃ j, j ≤ ops.size ∧ (∀ i', i' < ops.size → cs.contains i' = true → ((listed.setIfInBounds i true).getD i' false = true ↔ i' < j)) ∧ Step k ι0 (A 0).m w0 ι' (A j).m w')
    (hu : ∀ d, o.dst = some d → ((A (i + 1)).t d).rel ι' u) : InvC ops cs A k ι0 w0 a0 (listed.setIfInBounds i true) ι' (a.put o.dst u) w' := by
  have hin : i < ops.size := (Array.getElem?_eq_some_iff.1 ho).1
  have his : i < listed.size := by rw [h.head.size]; exact hin
  have hd : dstAt ops i = o.dst := by simp [dstAt, ho]
  have hset : ∀ j, (listed.setIfInBounds i true).getD j false = true → j = i ∨ listed.getD j false = true := fun j hj => by
    by_cases hji : i = j
    · exact .inl hji.symm
    · rw [getD_set_ne false hji] at hj; exact .inr hj
  have hseti : (listed.setIfInBounds i true).getD i false = true := by simp [his]
  refine ⟨hcut, ⟨fun b l hb => hle.f b l (h.le.f b l hb), fun c o v hc => hle.tx c o v (h.le.tx c o v hc)⟩, fun j hj hlj d hdj => ?_, fun t ht => ?_, by rw [show (a.put o.dst u).tmps.size = a.tmps.size by cases o.dst <;> simp [Act.put]]; exact h.size, by rw [show (a.put o.dst u).defers = a.defers by cases o.dst <;> rfl]; exact h.defers, h.head.set hi hin⟩
  · by_cases hji : j = i
    · subst hji
      rw [hd] at hdj
      rw [hdj, getD_put a d d u (by rw [h.size]; exact hok.lt j d hj (by rw [hd]; exact hdj)), if_pos rfl]
      exact hu d hdj
    · have hlj' := (hset j hlj).resolve_left hji
      have hne : o.dst ≠ some d := fun e => hji (hok.uniq j i d hj hin hdj (by rw [hd]; exact e))
      rw [put_other a u hne]
      exact AV.rel_mono hle (h.hit j hj hlj' d hdj)
  · have h1 : o.dst ≠ some t := by rw [← hd]; exact ht i hin hseti
    rw [put_other a u h1]
    exact h.miss t fun j hj hlj => ht j hj (getD_set_true hlj)
theorem InvC.run {Q' : Exit → Act → World → Prop} (hl : LineC P ops cs A V N0) {k : Nat} {ι0 : Emb} {w0 : World} {a0 : Act} (hS : OkC ops cs a0.tmps.size) (hf : FRel ι0 (A 0) a0) {listed : Array Bool} {ι : Emb} {a : Act} {w : World} (h : InvC ops cs A k ι0 w0 a0 listed ι a w)
    {i : Nat} (hi : i ∈ Region.ready .any ops listed) {K : Act → World → Prop} (hK : ∀ ι' a' w', InvC ops cs A k ι0 w0 a0 (listed.setIfInBounds i true) ι' a' w' → K a' w') : wpOp P ops Q' i K a w := by
  have hok := hS.ok
  have hr := mem_ready.1 hi
  have hun : listed.getD i false = false := getD_both hr.1
  obtain ⟨_, o, ho, hall⟩ := hr
  have hin : i < ops.size := (Array.getElem?_eq_some_iff.1 ho).1
  have hd : dstAt ops i = o.dst := by simp [dstAt, ho]
  have hdeps : ∀ j, bef ops i j = true → listed.getD j false = true := fun j hb => bef_spec h.head.closed hb ho hall
  have hag := h.agree hl hok hf hin ho hdeps hun
  have hopnd : ∀ x ∈ o.op.operands, (opnd (A i).t x).rel ι (a.eval x) := by
    intro x hx
    cases x with
    | tmp t => exact hag t (List.mem_append_left _ (List.mem_filterMap.2 ⟨.tmp t, by simpa using hx, rfl⟩))
    | const v => exact AV.rel_of0 (absV_rel _ v)
    | global g => trivial
    | func f => rfl
  obtain ⟨c, hc, hcl, hst⟩ := h.cut
  have his : i < listed.size := by rw [h.head.size]; exact hin
  unfold wpOp
  simp only [ho]
  rw [show Region.wanted o (yielded ops a.tmps) = true by unfold Region.wanted; rw [hS.guard i o ho], if_pos rfl]
  refine .inl ?_
  have hval : ∀ {ι' : Emb} {u : Value}, (V i).rel ι' u → ∀ d, o.dst = some d → ((A (i + 1)).t d).rel ι' u := fun hv d hdd => by
    obtain ⟨m', e⟩ := hl.next ho
    rw [e]
    show (putT (A i).t o.dst (V i) d).rel _ _
    rw [hdd]
    show (upd (A i).t d (V i) d).rel _ _
    rw [upd_eq]
    exact hv
  cases hs : cs.contains i with
  | false =>
    obtain ⟨hv, hstep⟩ := hl.pure i o ho hs
    have hfree : ∀ j, j < c → cs.contains j = true → bef ops j i = false := fun j hj hs' => by
      have hjn : j < ops.size := by omega
      have hlj := (hcl j hjn hs').2 hj
      cases hb : bef ops j i with
      | false => rfl
      | true =>
        have := bef_spec h.head.closed hb (Array.getElem?_eq_getElem hjn) (h.head.closed j _ (Array.getElem?_eq_getElem hjn) hlj)
        rw [hun] at this; cases this
    refine (hv c hc hfree ι w a.eval hst.r hopnd).wp rfl fun u w' ι1 hv1 hst2 => ?_
    refine hK ι1 _ _ (h.next hok (hst2.le hst.r) hi ho ⟨c, hc, fun i' hi' hs' => ?_, hst.comp (hst2.low hst.len)⟩ (hval hv1))
    have hne : i ≠ i' := fun e => by subst e; rw [hs] at hs'; cases hs'
    rw [getD_set_ne false hne]
    exact hcl i' hi' hs'
  | true =>
    obtain ⟨m', hv, hstep⟩ := hl.chain i o ho hs
    have hci : c ≤ i := by
      have := (hcl i hin hs).2
      rcases Nat.lt_or_ge i c with h' | h'
      · rw [this h'] at hun; cases hun
      · exact h'
    have hm : (A i).m = (A c).m := by
      refine hl.mem' hci (Nat.le_of_lt hin) fun l h1 h2 => ?_
      cases hs' : cs.contains l with
      | false => rfl
      | true =>
        have := (hcl l (by omega) hs').1 (hdeps l (hS.chain l i h2 hin hs' hs))
        omega
    rw [← hm] at hst
    refine (hv o ι w a.eval rfl hst.r hopnd).wp rfl fun u w' ι1 hv1 hst2 => ?_
    have hst3 : Step k ι0 (A 0).m w0 ι1 (A (i + 1)).m w' := by
      rw [hstep]
      exact hst.comp (hst2.low hst.len)
    refine hK ι1 _ _ (h.next hok (hst2.le hst.r) hi ho ⟨i + 1, hin, fun i' hi' hs' => ?_, hst3⟩ (hval hv1))
    by_cases hne : i = i'
    · subst hne; simp [his]
    · rw [getD_set_ne false hne]
      constructor
      · intro hli
        rcases Nat.lt_or_ge i' (i + 1) with h' | h'
        · exact h'
        · have := bef_spec h.head.closed (hS.chain i i' (by omega) hi' hs hs') (Array.getElem?_eq_getElem hi') (h.head.closed i' _ (Array.getElem?_eq_getElem hi') hli)
          rw [hun] at this; cases this
      · intro hlt
        exact hdeps i' (hS.chain i' i (by omega) hin hs' hs)
theorem InvC.any {Q' : Exit → Act → World → Prop} (hl : LineC P ops cs A V N0) {k : Nat} {ι0 : Emb} {w0 : World} {a0 : Act} (hS : OkC ops cs a0.tmps.size) (hf : FRel ι0 (A 0) a0)
    (hQ : ∀ ι' a' w', FRel ι' (A ops.size) a' → a'.defers = a0.defers → Step k ι0 (A 0).m w0 ι' (A ops.size).m w' → Q' .normal a' w') :
    ∀ (f : Nat) (un : List Nat) (listed : Array Bool) (ι : Emb) (a : Act) (w : World), un.length = f → un.Nodup → (∀ j, j ∈ un ↔ j < ops.size ∧ listed.getD j false = false) → InvC ops cs A k ι0 w0 a0 listed ι a w → wpAny P .any ops Q' f listed a w := by
  have hok := hS.ok
  intro f
  induction f with
  | zero =>
    intro un listed ι a w hlu _ hun h
    obtain rfl : un = [] := List.length_eq_zero_iff.1 hlu
    have hdone : ∀ j, j < ops.size → listed.getD j false = true := fun j hj => by
      cases hb : listed.getD j false with
      | true => rfl
      | false => have := (hun j).2 ⟨hj, hb⟩; simp at this
    have hnil : Region.ready .any ops listed = [] := by
      cases hr : Region.ready .any ops listed with
      | nil => rfl
      | cons x xs =>
        have hx : x ∈ Region.ready .any ops listed := by rw [hr]; exact List.mem_cons_self
        obtain ⟨h1, o, ho, _⟩ := mem_ready.1 hx
        have := hdone x (Array.getElem?_eq_some_iff.1 ho).1
        rw [getD_both h1] at this; cases this
    refine ⟨hnil, ?_⟩
    obtain ⟨c, hc, hcl, hst⟩ := h.cut
    have hm : (A ops.size).m = (A c).m := by
      refine hl.mem' hc (Nat.le_refl _) fun l h1 h2 => ?_
      cases hs' : cs.contains l with
      | false => rfl
      | true => have := (hcl l h2 hs').1 (hdone l h2); omega
    rw [← hm] at hst
    have hnn : (A ops.size).n = N0 := by
      cases hz : ops.size with
      | zero => exact hl.h0
      | succ z =>
        have hlt : z < ops.size := by omega
        obtain ⟨m', e⟩ := hl.next (Array.getElem?_eq_getElem hlt)
        rw [e]
    refine hQ ι a w ⟨by rw [h.size, hf.size, hl.h0, hnn], fun t => ?_⟩ h.defers hst
    by_cases hex : ∃ j, j < ops.size ∧ dstAt ops j = some t
    · obtain ⟨j, hj, hd⟩ := hex
      rw [hl.slot' (i := j + 1) (by omega) (Nat.le_refl _) (fun l h1 h2 hd' => by have := hok.uniq l j t (by omega) hj hd' hd; omega)]
      exact h.hit j hj (hdone j hj) t hd
    · have hno : ∀ j, j < ops.size → dstAt ops j ≠ some t := fun j hj hd => hex ⟨j, hj, hd⟩
      rw [h.miss t (fun j hj _ => hno j hj), hl.slot' (i := 0) (Nat.zero_le _) (Nat.le_refl _) (fun l _ h2 => hno l (by omega))]
      exact AV.rel_mono h.le (hf.rel t)
  | succ f ih =>
    intro un listed ι a w hlu hnd hun h
    refine ⟨fun hnil => ?_, fun i hi => ?_⟩
    · obtain ⟨i0, hi0⟩ : ∃ i0, i0 ∈ un := by cases un with | nil => simp at hlu | cons x _ => exact ⟨x, List.mem_cons_self⟩
      have least : ∀ m i, i ≤ m → i ∈ un → ∃ j, j ∈ Region.ready .any ops listed := by
        intro m
        induction m with
        | zero =>
          intro i him hiu
          obtain ⟨hin, hb⟩ := (hun i).1 hiu
          refine ⟨i, mem_ready.2 ⟨getD_in (by rw [h.head.size]; exact hin) hb, ops[i]'hin, Array.getElem?_eq_getElem hin, fun e he hbind => ?_⟩⟩
          have := hS.back i _ e (Array.getElem?_eq_getElem hin) he hbind
          omega
        | succ m ihm =>
          intro i him hiu
          obtain ⟨hin, hb⟩ := (hun i).1 hiu
          by_cases hall : ∀ e ∈ (ops[i]'hin).after, Region.binds .any e = true → listed.getD e.on false = true
          · exact ⟨i, mem_ready.2 ⟨getD_in (by rw [h.head.size]; exact hin) hb, _, Array.getElem?_eq_getElem hin, hall⟩⟩
          · have : ∃ e ∈ (ops[i]'hin).after, Region.binds .any e = true ∧ listed.getD e.on false = false := by
              apply Classical.byContradiction
              intro hc
              apply hall
              intro e he hbind
              cases hlb : listed.getD e.on false with
              | true => rfl
              | false => exact absurd ⟨e, he, hbind, hlb⟩ hc
            obtain ⟨e, he, hbind, hlb⟩ := this
            have hlt := hS.back i _ e (Array.getElem?_eq_getElem hin) he hbind
            exact ihm e.on (by omega) ((hun e.on).2 ⟨by omega, hlb⟩)
      obtain ⟨j, hj⟩ := least i0 i0 (Nat.le_refl _) hi0
      rw [hnil] at hj; cases hj
    · obtain ⟨hun0, o, ho, _⟩ := mem_ready.1 hi
      have hin : i < ops.size := (Array.getElem?_eq_some_iff.1 ho).1
      refine h.run hl hS hf hi fun ι' a' w' h' => ?_
      have himem : i ∈ un := (hun i).2 ⟨hin, getD_both hun0⟩
      refine ih (un.erase i) _ ι' a' w' (by rw [List.length_erase_of_mem himem, hlu]; rfl) (hnd.erase i) (fun j => ?_) h'
      rw [hnd.mem_erase_iff, hun j]
      by_cases hji : j = i
      · subst hji
        have his : j < listed.size := by rw [h.head.size]; exact hin
        simp [his]
      · rw [getD_set_ne false (fun e => hji e.symm)]
        simp [hji]
theorem chain_sound {Q : Exit → Act → World → Prop} {id k : Nat} (hm : P.follows .mixedOrders = true) (hl : LineC P ops cs A V (A 0).n) (hall : Region.okChain ops cs (A 0).n = true) {ι : Emb} {w : World} {a : Act} (hf : FRel ι (A 0) a) (hR : R ι (A 0).m w) (hk : k ≤ (A 0).m.length)
    (hQ : ∀ ι' a' w', FRel ι' (A ops.size) a' → a'.defers = a.defers → Step k ι (A 0).m w ι' (A ops.size).m w' → Q .normal a' w') : (Code.region id ops true).wp P Q a w := by
  refine wp_region_any hm ?_
  have hRd : R ι (A 0).m w.drew := ⟨hR.dom, hR.rows, hR.inj, hR.stay⟩
  have hinv : InvC ops cs A k ι w.drew a (Array.replicate ops.size false) ι a w.drew :=
    ⟨⟨0, Nat.zero_le _, fun i _ _ => by rw [getD_replicate_false]; simp, Step.refl hRd hk⟩, .refl _, fun j _ hl => (by rw [getD_replicate_false] at hl; cases hl), fun _ _ => rfl, rfl, rfl,
      ⟨by simp, fun j oj _ hl => (by rw [getD_replicate_false] at hl; cases hl), fun t ht ht' => by omega⟩⟩
  exact InvC.any (w0 := w.drew) (Q' := Q) hl (Region.okChain_spec (by rw [hf.size]; exact hall)) hf
    (fun ι' a' w' h1 h2 h3 => hQ ι' a' w' h1 h2 ⟨h3.r, ⟨h3.trans.os, h3.trans.tape, h3.trans.output, h3.trans.size, h3.trans.keep, h3.trans.fresh⟩, h3.tx, h3.txn, h3.ext, h3.len, h3.ro, h3.old, h3.news⟩) ops.size (List.range ops.size) _ _ _ _ (by simp) List.nodup_range (fun j => by rw [getD_replicate_false]; simp) hinv
end
def AgreeC (S : List Nat) (D : Nat) (m0 m : Mem) : Prop := m.length ≤ m0.length + D ∧ ∀ b, b < m0.length → S.contains b = false → m[b]? = m0[b]?
def killC (S : List Nat) (D : Nat) (m0 : Mem) : Mem := kill S 0 m0 ++ deadMem D
theorem AgreeC.R {S : List Nat} {D : Nat} {m0 m : Mem} (h : AgreeC S D m0 m) {ι : Emb} {w : World} (hR : R ι m w) : R ι (killC S D m0) w := by
  have get : ∀ {b : Nat} {own : Bool} {x : Arr}, (killC S D m0)[b]? = some (.row own x) → m[b]? = some (.row own x) := fun {b own x} hb => by
    unfold killC at hb
    rcases Nat.lt_or_ge b (kill S 0 m0).length with h1 | h1
    · rw [List.getElem?_append_left h1] at hb
      obtain ⟨h2, h3⟩ := kill_get S m0 0 b own x hb
      rw [Nat.zero_add] at h2
      rw [h.2 b (by rwa [kill_length] at h1) h2]; exact h3
    · rw [List.getElem?_append_right h1] at hb
      unfold deadMem at hb
      rw [List.getElem?_replicate] at hb
      split at hb <;> cases hb
  exact ⟨fun b hb => hR.dom b (by
      have h1 := h.1
      simp only [killC, deadMem, List.length_append, kill_length, List.length_replicate] at hb
      omega), fun b l own x hb hm => hR.rows b l own x hb (get hm), fun b b' l l' own own' x x' hne hb hb' hm hm' ho => hR.inj b b' l l' own own' x x' hne hb hb' (get hm) (get hm') ho, fun c Φ hc => ⟨(hR.stay c Φ (hc.to _)).1, fun b l x hb hm => (hR.stay c Φ (hc.to _)).2 b l x hb (get hm)⟩⟩
theorem pure_val {P : Program} {S : List Nat} {D : Nat} {m0 m : Mem} (h : AgreeC S D m0 m) {o : Oper} {e : Operand → AV} {v : AV} (hv : evVal P e (killC S D m0) o.op = some v) : PureOk P o e m v := fun ι w ρ hR hρ => by
  obtain ⟨u, hu, hrel⟩ := evVal_sound hv (h.R hR) hρ
  exact .inl ⟨u, w, ι, .inl hu, hrel, Step.refl hR (Nat.le_refl _)⟩
theorem pure_ev {P : Program} {S : List Nat} {D : Nat} {m0 m : Mem} (h : AgreeC S D m0 m) {o : Oper} {e : Operand → AV} {v : AV} (hv : Ev P (.op o.op e (roMem (killC S D m0))) (.val v (roMem (killC S D m0)))) (hn : ∀ ρ, v.ren ρ = v) : PureOk P o e m v := fun ι w ρ hR hρ => by
  have hRk : R ι (roMem (killC S D m0)) w := ro_R (h.R hR)
  have unown : ∀ c, Owned ι (roMem (killC S D m0)) c → False := by
    rintro c ⟨b, l, x, _, h2, _⟩
    obtain ⟨h3, _⟩ := roMem_row h2
    cases h3
  have lift : ∀ {u : Value} {w' : World} {ι1 : Emb}, v.rel ι1 u → Step (roMem (killC S D m0)).length ι (roMem (killC S D m0)) w ι1 (roMem (killC S D m0)) w' → ∃ ι2, v.rel ι2 u ∧ Step m.length ι m w ι2 m w' := by
    intro u w' ι1 hu hst
    obtain ⟨ι2, hsame, hst2⟩ := part_stepG (N := []) unown rfl hR (by rw [List.append_nil]; exact hst)
    refine ⟨ι2, ?_, ?_⟩
    · have := AV.ren_rel hsame hu
      rwa [hn] at this
    · rw [List.map_nil, List.append_nil] at hst2
      exact hst2
  rcases sound hv o ι w ρ rfl hRk hρ with ⟨u, w', ι1, hr, hu, hst⟩ | ⟨f, args, hr, hc⟩
  · obtain ⟨ι2, h1, h2⟩ := lift hu hst
    exact .inl ⟨u, w', ι2, hr, h1, h2⟩
  · refine .inr ⟨f, args, hr, hc.mono fun e' w' ⟨u, ι1, he, hu, hst⟩ => ?_⟩
    obtain ⟨ι2, h1, h2⟩ := lift hu hst
    exact ⟨u, ι2, he, h1, h2⟩
def touched (cs : List (Nat × List Nat)) (c : Nat) : List Nat := (cs.filter fun p => decide (p.1 < c)).flatMap (·.2)
def killAt (ops : Array Oper) (cs : List (Nat × List Nat)) (i : Nat) : List Nat := (cs.filter fun p => !bef ops p.1 i).flatMap (·.2)
theorem AgreeC.sub {S S' : List Nat} {D : Nat} {m0 m : Mem} (h : AgreeC S D m0 m) (hs : ∀ x ∈ S, x ∈ S') : AgreeC S' D m0 m :=
  ⟨h.1, fun b hb hn => h.2 b hb (by
    cases hc : S.contains b with
    | false => rfl
    | true =>
      have := hs b (by simpa using hc)
      rw [show S'.contains b = true by simpa using this] at hn
      cases hn)⟩
def YW (P : Program) (ops : Array Oper) (S : List Nat) (D : Nat) (M0 : Mem) (cs : List (Nat × List Nat)) (K : St → Prop) : Nat → List Oper → St → Prop
  | _, [], s => K s
  | i, o :: l, s => ((cs.map (·.1)).contains i = true ∧ ∃ v m', Ev P (.op o.op (opnd s.t) s.m) (.val v m') ∧ AgreeC (touched cs (i + 1)) D M0 m' ∧ YW P ops S D M0 cs K (i + 1) l ⟨s.n, putT s.t o.dst v, m'⟩) ∨
      ((cs.map (·.1)).contains i = false ∧ ∃ v, (∀ m, (AgreeC S D M0 m ∧ AgreeC (killAt ops cs i) D M0 m) → PureOk P o (opnd s.t) m v) ∧ YW P ops S D M0 cs K (i + 1) l ⟨s.n, putT s.t o.dst v, s.m⟩)
structure YO (P : Program) (ops : Array Oper) (S : List Nat) (D : Nat) (M0 : Mem) (cs : List (Nat × List Nat)) (i : Nat) (l : List Oper) (s : St) (K : St → Prop) : Prop where
  h : YW P ops S D M0 cs K i l s
theorem touched_mono (cs : List (Nat × List Nat)) {c c' : Nat} (h : c ≤ c') : ∀ x ∈ touched cs c, x ∈ touched cs c' := by
  intro x hx
  simp only [touched, List.mem_flatMap, List.mem_filter, decide_eq_true_eq] at hx ⊢
  obtain ⟨p, ⟨h1, h2⟩, h3⟩ := hx
  exact ⟨p, ⟨h1, by omega⟩, h3⟩
theorem YW.line {P : Program} {ops : Array Oper} {S : List Nat} {D : Nat} {M0 : Mem} {cs : List (Nat × List Nat)} {K : St → Prop} {N0 : Nat} : ∀ {l : List Oper} {i : Nat} {s : St}, YW P ops S D M0 cs K i l s → s.n = N0 → AgreeC (touched cs i) D M0 s.m → ∃ (A : Nat → St) (V : Nat → AV), A 0 = s ∧ (∀ c, c ≤ l.length → AgreeC (touched cs (i + c)) D M0 (A c).m) ∧
    (∀ j o, l[j]? = some o → (cs.map (·.1)).contains (i + j) = false → (∀ m, (AgreeC S D M0 m ∧ AgreeC (killAt ops cs (i + j)) D M0 m) → PureOk P o (opnd (A j).t) m (V j)) ∧ A (j + 1) = ⟨N0, putT (A j).t o.dst (V j), (A j).m⟩) ∧
    (∀ j o, l[j]? = some o → (cs.map (·.1)).contains (i + j) = true → ∃ m', Ev P (.op o.op (opnd (A j).t) (A j).m) (.val (V j) m') ∧ A (j + 1) = ⟨N0, putT (A j).t o.dst (V j), m'⟩) ∧ K (A l.length)
  | [], i, s, h, _, ha => ⟨fun _ => s, fun _ => .c .any, rfl, fun c hc => ha.sub (touched_mono cs (by omega)), fun j o h => by simp at h, fun j o h => by simp at h, h⟩
  | o :: l, i, s, h, hn, ha => by
    rcases h with ⟨hs, v, m', hv, hag, hr⟩ | ⟨hs, v, hv, hr⟩
    · obtain ⟨A, V, h0, hc, h1, h2, h3⟩ := YW.line (s := ⟨s.n, putT s.t o.dst v, m'⟩) hr hn hag
      refine ⟨fun i => match i with | 0 => s | i + 1 => A i, fun i => match i with | 0 => v | i + 1 => V i, rfl, fun c hcl => ?_, fun j o' h hs' => ?_, fun j o' h hs' => ?_, h3⟩
      · cases c with
        | zero => exact ha
        | succ c => have := hc c (by simpa using hcl); rwa [show i + 1 + c = i + (c + 1) by omega] at this
      · cases j with
        | zero => rw [Nat.add_zero, hs] at hs'; cases hs'
        | succ j => rw [show i + (j + 1) = i + 1 + j by omega] at hs' ⊢; exact h1 j o' (by simpa using h) hs'
      · cases j with
        | zero => simp at h; subst h; exact ⟨m', hv, by simp only; rw [h0, hn]⟩
        | succ j => rw [show i + (j + 1) = i + 1 + j by omega] at hs'; exact h2 j o' (by simpa using h) hs'
    · obtain ⟨A, V, h0, hc, h1, h2, h3⟩ := YW.line (s := ⟨s.n, putT s.t o.dst v, s.m⟩) hr hn (ha.sub (touched_mono cs (by omega)))
      refine ⟨fun i => match i with | 0 => s | i + 1 => A i, fun i => match i with | 0 => v | i + 1 => V i, rfl, fun c hcl => ?_, fun j o' h hs' => ?_, fun j o' h hs' => ?_, h3⟩
      · cases c with
        | zero => exact ha
        | succ c => have := hc c (by simpa using hcl); rwa [show i + 1 + c = i + (c + 1) by omega] at this
      · cases j with
        | zero => simp at h; subst h; exact ⟨hv, by simp only; rw [h0, hn]⟩
        | succ j => rw [show i + (j + 1) = i + 1 + j by omega] at hs' ⊢; exact h1 j o' (by simpa using h) hs'
      · cases j with
        | zero => rw [Nat.add_zero, hs] at hs'; cases hs'
        | succ j => rw [show i + (j + 1) = i + 1 + j by omega] at hs'; exact h2 j o' (by simpa using h) hs'
theorem c_chain {P : Program} {k id : Nat} {l : List Oper} {s : St} {Φ : Ex → St → Prop} (cs : List (Nat × List Nat)) (S : List Nat) (D : Nat) (hm : P.follows .mixedOrders = true) (hok : Region.okChain l.toArray (cs.map (·.1)) s.n = true) (hS : (cs.flatMap (·.2)).all (S.contains ·) = true) (h : YO P l.toArray S D s.m cs 0 l s (Φ .normal)) : WC P k (.region id l.toArray true) s Φ := by
  obtain ⟨A, V, h0, hc, h1, h2, h3⟩ := YW.line (N0 := s.n) h.h rfl ⟨Nat.le_add_right _ _, fun _ _ _ => rfl⟩
  subst h0
  refine ⟨⟨.normal, A l.length, Ev.snd ?_, h3⟩⟩
  intro ι w a hk hR hf Q hQ
  have hl : LineC P l.toArray (cs.map (·.1)) A V (A 0).n := by
    refine ⟨rfl, fun i o ho hs => ?_, fun i o ho hs => ?_⟩
    · obtain ⟨g1, g2⟩ := h1 i o (by simpa using ho) (by rw [Nat.zero_add]; exact hs)
      refine ⟨fun c hcl hfree => g1 _ ?_, g2⟩
      have hag := hc c (by simpa using hcl)
      rw [Nat.zero_add] at hag ⊢
      refine ⟨hag.sub fun x hx => ?_, hag.sub fun x hx => ?_⟩
      · simp only [touched, List.mem_flatMap, List.mem_filter] at hx
        obtain ⟨p, ⟨q1, _⟩, q2⟩ := hx
        have := List.all_eq_true.1 hS x (List.mem_flatMap.2 ⟨p, q1, q2⟩)
        simpa using this
      · simp only [touched, killAt, List.mem_flatMap, List.mem_filter, decide_eq_true_eq] at hx ⊢
        obtain ⟨p, ⟨q1, q3⟩, q2⟩ := hx
        refine ⟨p, ⟨q1, ?_⟩, q2⟩
        rw [hfree p.1 q3 (by simp only [List.contains_iff_mem]; exact List.mem_map.2 ⟨p, q1, rfl⟩)]
        rfl
    · obtain ⟨m', g1, g2⟩ := h2 i o (by simpa using ho) (by rw [Nat.zero_add]; exact hs)
      exact ⟨m', sound g1, g2⟩
  exact chain_sound (Q := Q) hm hl hok hf hR hk fun ι' a' w' g1 g2 g3 => hQ ι' a' w' (by simpa using g1) g2 (by simpa using g3)
section
variable {P : Program} {ops : Array Oper} {S : List Nat} {D : Nat} {M0 M M' : Mem} {cs : List (Nat × List Nat)} {i N d : Nat} {l : List Oper} {T : Nat → AV} {K : St → Prop} {op : Op} {v : AV} {ty : TypeId} {pos : String} {af : Array Edge}
theorem y_nil {s : St} (h : K s) : YO P ops S D M0 cs i [] s K := ⟨h⟩
theorem y_val (h : evVal P (opnd T) (killC S D M0) op = some v) (hs : (cs.map (·.1)).contains i = false) (hk : YO P ops S D M0 cs (i + 1) l ⟨N, upd T d v, M⟩ K) : YO P ops S D M0 cs i (⟨some d, op, ty, pos, af, none⟩ :: l) ⟨N, T, M⟩ K :=
  ⟨.inr ⟨hs, v, fun _ ha => pure_val ha.1 h, hk.h⟩⟩
theorem y_early (S' : List Nat) (hS : (killAt ops cs i).all (S'.contains ·) = true) (h : evVal P (opnd T) (killC S' D M0) op = some v) (hs : (cs.map (·.1)).contains i = false) (hk : YO P ops S D M0 cs (i + 1) l ⟨N, upd T d v, M⟩ K) : YO P ops S D M0 cs i (⟨some d, op, ty, pos, af, none⟩ :: l) ⟨N, T, M⟩ K :=
  ⟨.inr ⟨hs, v, fun _ ha => pure_val (ha.2.sub fun x hx => by have := List.all_eq_true.1 hS x hx; simpa using this) h, hk.h⟩⟩
theorem y_ev (h : Ev P (.op op (opnd T) (roMem (killC S D M0))) (.val v (roMem (killC S D M0)))) (hn : ∀ ρ, v.ren ρ = v) (hs : (cs.map (·.1)).contains i = false) (hk : YO P ops S D M0 cs (i + 1) l ⟨N, upd T d v, M⟩ K) : YO P ops S D M0 cs i (⟨some d, op, ty, pos, af, none⟩ :: l) ⟨N, T, M⟩ K :=
  ⟨.inr ⟨hs, v, fun _ ha => pure_ev ha.1 h hn, hk.h⟩⟩
def agreeB (S : List Nat) : Nat → Mem → List Nat
  | _, [] => []
  | i, _ :: m => if S.contains i then agreeB S (i + 1) m else i :: agreeB S (i + 1) m
theorem agreeB_mem (S : List Nat) : ∀ (m : Mem) (i b : Nat), b < m.length → S.contains (i + b) = false → i + b ∈ agreeB S i m
  | [], _, b, h, _ => by simp at h
  | _ :: m, i, 0, _, h => by
    rw [Nat.add_zero] at h
    unfold agreeB
    rw [if_neg (by rw [h]; simp)]
    exact List.mem_cons_self
  | _ :: m, i, b + 1, h, h2 => by
    have := agreeB_mem S m (i + 1) b (by simpa using h) (by rw [show i + 1 + b = i + (b + 1) by omega]; exact h2)
    rw [show i + 1 + b = i + (b + 1) by omega] at this
    unfold agreeB
    split
    · exact this
    · exact List.mem_cons_of_mem _ this
def allAgree (m m0 : Mem) : List Nat → Prop
  | [] => True
  | b :: l => m[b]? = m0[b]? ∧ allAgree m m0 l
theorem allAgree_mem {m m0 : Mem} : ∀ {l : List Nat}, allAgree m m0 l → ∀ b ∈ l, m[b]? = m0[b]?
  | _ :: _, h, b, hb => by
    rcases List.mem_cons.1 hb with rfl | hb
    · exact h.1
    · exact allAgree_mem h.2 b hb
theorem agreeC_of (hl : Nat.ble M.length (M0.length + D) = true) (h : allAgree M M0 (agreeB S 0 M0)) : AgreeC S D M0 M :=
  ⟨Nat.le_of_ble_eq_true hl, fun b hb hs => allAgree_mem h b (by have := agreeB_mem S M0 0 b hb (by rw [Nat.zero_add]; exact hs); rwa [Nat.zero_add] at this)⟩
theorem AG_ (hl : Nat.ble M.length (M0.length + D) = true := by rfl) (h : allAgree M M0 (agreeB S 0 M0) := by repeat (first | exact trivial | refine And.intro rfl ?_)) : AgreeC S D M0 M := agreeC_of hl h
theorem y_chain (h : Ev P (.op op (opnd T) M) (.val v M')) (hs : (cs.map (·.1)).contains i = true) (hag : AgreeC (touched cs (i + 1)) D M0 M') (hk : YO P ops S D M0 cs (i + 1) l ⟨N, upd T d v, M'⟩ K) : YO P ops S D M0 cs i (⟨some d, op, ty, pos, af, none⟩ :: l) ⟨N, T, M⟩ K :=
  ⟨.inl ⟨hs, v, M', h, hag, hk.h⟩⟩
theorem y_chain0 (h : Ev P (.op op (opnd T) M) (.val v M')) (hs : (cs.map (·.1)).contains i = true) (hag : AgreeC (touched cs (i + 1)) D M0 M') (hk : YO P ops S D M0 cs (i + 1) l ⟨N, T, M'⟩ K) : YO P ops S D M0 cs i (⟨none, op, ty, pos, af, none⟩ :: l) ⟨N, T, M⟩ K :=
  ⟨.inl ⟨hs, v, M', h, hag, hk.h⟩⟩
end
end Go.Proofs.YtmbepikkgkcgkaaGreatDoor
namespace Go.Proofs.YtmbepikkgkcgkaaGreatDoor
open Go.RowKit
section
variable {P : Program} {op : Op} {e : Operand → AV} {m M M' : Mem} {b n cap : Nat}
theorem set_last {m : Mem} {r : Row} : (m ++ [r]).set m.length .dead = m ++ [.dead] := by
  rw [List.set_append_right _ _ (Nat.le_refl _)]; simp
theorem o_quiet8 {x : List (BitVec 8)} (h : Ev P (.op op e m) (.val (.c (.sl b 0 n cap 1)) (m ++ [.row true (.a8 x)]))) (hb : m.length = b) (hn : x.length = n) (hr : refsIn m.length m = true) : Ev P (.op op e m) (.val (.c (.bs x)) m) := by
  subst hb
  have h2 := o_hide8 h (M2 := m ++ [.dead]) (by simp) hn set_last
  exact o_drop h2 hr rfl
theorem o_quietI {x : List Int} (h : Ev P (.op op e m) (.val (.c (.sl b 0 n cap 1)) (m ++ [.row true (.ai x)]))) (hb : m.length = b) (hn : x.length = n) (hr : refsIn m.length m = true) : Ev P (.op op e m) (.val (.c (.is x)) m) := by
  subst hb
  have h2 := o_hideI h (M2 := m ++ [.dead]) (by simp) hn set_last
  exact o_drop h2 hr rfl
theorem o_nilB (h : Ev P (.op op e m) (.val (.c .nsl) M)) : Ev P (.op op e m) (.val (.c (.bs [])) M) :=
  Ev.opPost h fun ι _w _u hk hR hv => ⟨ι, ⟨none, 0, hv, Nat.le_refl _, .inl rfl⟩, Step.refl hR hk⟩
end
section
variable {P : Program} {k N : Nat} {ops : Array Oper} {d : Nat} {ty : TypeId} {pos : String} {af : Array Edge} {l0 : List Oper} {T : Nat → AV} {M M' : Mem} {K : St → Prop} {t t' el : TypeId} {x s a v : Operand}
theorem m_appNZ {y : List Int} {by' n m : Nat} {e2 : TypeId} (hs : opnd T s = .c .nsl) (hx : opnd T x = .c (.is y)) (hu : P.underlying t = some (.slice el)) (hu2 : P.underlying t' = some (.slice e2)) (he : elemOk P el = some (1, by')) (hl : y.length = n) (hb : n * by' ≤ 140737488355328 ∧ n ≤ 9223372036854775807) (hn : M.length = m) :
    evMem P (opnd T) M (.call { callee := .builtin .append, args := #[s, x], argTypes := #[t, t'] }) = some (.c (.sl m 0 n n 1), M ++ [.row true (.ai y)]) := by
  show evAppend P M t t' (opnd T s) (opnd T x) = _
  subst hn; subst hl
  rw [hs, hx]
  simp [evAppend, hu, noIntT, hu2, he, srcOf, Arr.one, hb.1, hb.2]
theorem m_appEZ {y : List Int} {by' n m : Nat} {e2 : TypeId} (hs : opnd T s = .c .esl) (hx : opnd T x = .c (.is y)) (hu : P.underlying t = some (.slice el)) (hu2 : P.underlying t' = some (.slice e2)) (he : elemOk P el = some (1, by')) (hl : y.length = n) (hb : n * by' ≤ 140737488355328 ∧ n ≤ 9223372036854775807) (hn : M.length = m) :
    evMem P (opnd T) M (.call { callee := .builtin .append, args := #[s, x], argTypes := #[t, t'] }) = some (.c (.sl m 0 n n 1), M ++ [.row true (.ai y)]) := by
  show evAppend P M t t' (opnd T s) (opnd T x) = _
  subst hn; subst hl
  rw [hs, hx]
  simp [evAppend, hu, noIntT, hu2, he, srcOf, Arr.one, hb.1, hb.2]
theorem s_appZ {y u : List Int} {by' n m b0 len cap : Nat} {e2 : TypeId} (hs : opnd T s = .c (.sl b0 0 len cap 1)) (hms : M[b0]? = some (.row true (.ai u))) (hx : opnd T x = .c (.is y)) (hu : P.underlying t = some (.slice el)) (hu2 : P.underlying t' = some (.slice e2)) (he : elemOk P el = some (1, by'))
    (hlu : u.length = len) (hl : y.length = n) (hb : (len + n) * by' ≤ 140737488355328 ∧ len + n ≤ 9223372036854775807 ∧ n * by' ≤ 140737488355328) (hn : M.length = m) (hM : M.set b0 .dead ++ [.row true (.ai (u ++ y))] = M') (hd : decide (d < N) = true) (hk : WO P k ops l0 ⟨N, upd T d (.c (.sl m 0 (len + n) (len + n) 1)), M'⟩ K) :
    WO P k ops (⟨some d, .call { callee := .builtin .append, args := #[s, x], argTypes := #[t, t'] }, ty, pos, af, none⟩ :: l0) ⟨N, T, M⟩ K :=
  s_mem (by
    show evAppend P M t t' (opnd T s) (opnd T x) = _
    subst hn; subst hM; subst hl
    rw [hs, hx]
    have hz2 : Arr.size (.ai u) = len := hlu
    have hn9 : y.length ≤ 9223372036854775807 := by omega
    simp [evAppend, hu, noIntT, hu2, he, srcOf, hms, hz2, winA, Arr.one, Arr.app, hb.1, hb.2.1, hb.2.2, hn9]) hd hk
theorem o_appND {kk nn : Int} {aa : List Int} {u : List Nd} {by' m b0 len cap b c : Nat} {own : Bool} {e2 : TypeId} (hs : opnd T s = .c (.sl b0 0 len cap 3)) (hms : M[b0]? = some (.row true (.an u))) (hx : opnd T x = .c (.sl b 0 1 c 3)) (hm : M[b]? = some (.row own (.ac [.val (.int .i64 kk), .val (.int .i64 nn), .is aa]))) (hu : P.underlying t = some (.slice el)) (hu2 : P.underlying t' = some (.slice e2)) (he : elemOk P el = some (3, by'))
    (hlu : u.length = len) (hb : (len + 1) * by' ≤ 140737488355328 ∧ len + 1 ≤ 9223372036854775807 ∧ by' ≤ 140737488355328) (hn : M.length = m) (hM : M.set b0 .dead ++ [.row true (.an (u ++ [⟨kk, nn, aa⟩]))] = M') :
    Ev P (.op (.call { callee := .builtin .append, args := #[s, x], argTypes := #[t, t'] }) (opnd T) M) (.val (.c (.sl m 0 (len + 1) (len + 1) 3)) M') :=
  Ev.mem (by
    show evAppend P M t t' (opnd T s) (opnd T x) = _
    subst hn; subst hM; subst hlu
    rw [hs, hx]
    have hz : Arr.size (.ac [.val (.int .i64 kk), .val (.int .i64 nn), .is aa]) = 3 := rfl
    have hz2 : Arr.size (.an u) = u.length * 3 := by show 3 * u.length = _; omega
    simp [evAppend, hu, noIntT, hu2, he, srcOf, hm, hms, hz, hz2, winA, Arr.one, Cell.one, Value.oneCell', Arr.app, hb.1, hb.2.1, hb.2.2])
theorem s_storeT {b o : Nat} {y : List Bool} {q : Bool} (ha : opnd T a = .c (.ptr b o)) (hv : opnd T v = .c (.val (.bool q))) (hm : M[b]? = some (.row true (.bl y))) (hs : szT P t = some 1) (ho : o < y.length) (hM : M.set b (.row true (.bl (y.set o q))) = M')
    (hk : WO P k ops l0 ⟨N, T, M'⟩ K) : WO P k ops (⟨none, .store t a v, ty, pos, af, none⟩ :: l0) ⟨N, T, M⟩ K :=
  s_store ha hv hm rfl hs ho rfl hM hk
theorem o_makeT {l c : Operand} {by' n m : Nat} {ka kb : IntKind} (hu : P.underlying t = some (.slice el)) (hx : opnd T l = .c (.val (.int ka (n : Int)))) (hy : opnd T c = .c (.val (.int kb (n : Int)))) (he : elemOk P el = some (1, by')) (hrep : ∀ n, repArr P el n = some (.ac (List.replicate n (.val (.bool false))))) (h2 : n * by' ≤ 281474976710656) (h3 : n ≤ 9223372036854775807) (hn : M.length = m) :
    Ev P (.op (.makeSlice t l c) (opnd T) M) (.val (.c (.sl m 0 n n 1)) (M ++ [.row true (.bl (List.replicate n false))])) := by
  subst hn
  have h : evMem P (opnd T) M (.makeSlice t l c) = some (.c (.sl M.length 0 n n 1), M ++ [.row true (.ac (List.replicate n (.val (.bool false))))]) := by
    show evMakeSlice P M t (opnd T l) (opnd T c) = _
    rw [hx, hy]
    simp only [evMakeSlice, hu, intOf?, he]
    rw [if_pos ⟨by omega, by omega, by rw [← Int.natCast_mul]; omega, by omega⟩]
    simp [hrep]
  refine Ev.opPost (Ev.mem h) fun ι w u hk hR hv => ⟨ι, hv, ?_⟩
  have := cast_step (k := M.length) (b := M.length) (y := .bl (List.replicate n false)) (by simp) hR (show (M ++ [.row true (.ac (List.replicate n (.val (.bool false))))])[M.length]? = some (.row true (.ac (List.replicate n (.val (.bool false))))) by simp) rfl rfl (by simp [Arr.size]) (fun ι i v hi hr => by
    have hi' : i < n := by simpa [Arr.size] using hi
    simp only [Arr.get, getc, List.getD_eq_getElem?_getD, List.getElem?_replicate, hi', if_true, Option.getD_some] at hr
    simp only [Arr.get, gett, List.getD_eq_getElem?_getD, List.getElem?_replicate, hi', if_true, Option.getD_some]
    exact hr) (fun h => by cases h)
  rw [List.set_append_right _ _ (Nat.le_refl _)] at this
  simpa using this
end
end Go.Proofs.YtmbepikkgkcgkaaGreatDoor
namespace Go.Proofs.YtmbepikkgkcgkaaGreatDoor
open Go.RowKit
theorem argsRel_map {ρ : Nat → Option Nat} {ι ι' : Emb} (h : Same ρ ι ι') : ∀ {args : List AV} {vs : List Value}, ArgsRel ι args vs → ArgsRel ι' (args.map (AV.ren ρ)) vs
  | [], [], _ => trivial
  | [], _ :: _, h => h.elim
  | _ :: _, [], h => h.elim
  | _a :: _l, _v :: _vs, hr => ⟨AV.ren_rel h hr.1, argsRel_map h hr.2⟩
theorem Ev.relink {P : Program} {f : FuncId} {args args' : List AV} {m m' mc' m2 : Mem} {v v2 : AV} (bs : List Nat) (hok : canOk 0 m bs = true) (ha : args.map (AV.ren (canRen 0 bs)) = args') (hm : canMem 0 m bs = m') (h : Ev P (.call f args' m') (.val v mc')) (hv : (linkOut bs m v mc').1 = v2) (hm2 : (linkOut bs m v mc').2 = m2) :
    Ev P (.call f args m) (.val v2 m2) := by
  subst ha hm hv hm2
  refine Ev.semF fun ι w vs hR hargs => ?_
  have hst := canon_step hok hR
  have hlen : (canMem 0 m bs).length = bs.length := by simp [canMem]
  refine (sound h (canEmb 0 bs ι) w vs hst.r (argsRel_map (can_same 0 bs ι) hargs)).mono fun e' w' hq => ?_
  obtain ⟨u, ι', rfl, hv, hs⟩ := hq
  rw [hlen] at hs
  obtain ⟨h1, h2⟩ := link_sound hok hR hs hv
  exact ⟨u, _, rfl, h1, h2⟩
inductive WkL : List AV → List AV → Prop
  | nil : WkL [] []
  | same {x : AV} {l l' : List AV} (h : WkL l l') : WkL (x :: l) (x :: l')
  | nilZ {l l' : List AV} (h : WkL l l') : WkL (.c .nsl :: l) (.c (.is []) :: l')
  | nilB {l l' : List AV} (h : WkL l l') : WkL (.c .nsl :: l) (.c (.bs []) :: l')
  | lb {y : List (BitVec 8)} {l l' : List AV} (h : WkL l l') : WkL (.c (.lb y) :: l) (.c (.bs y) :: l')
theorem WkL.rel {ι : Emb} {l l' : List AV} (h : WkL l l') : ∀ {vs : List Value}, ArgsRel ι l vs → ArgsRel ι l' vs := by
  induction h with
  | nil => intro vs h; exact h
  | same _ ih => intro vs h; cases vs with
    | nil => exact h
    | cons v vs => exact ⟨h.1, ih h.2⟩
  | nilZ _ ih => intro vs h; cases vs with
    | nil => exact h
    | cons v vs => exact ⟨⟨none, 0, h.1, Nat.le_refl _, .inl rfl⟩, ih h.2⟩
  | nilB _ ih => intro vs h; cases vs with
    | nil => exact h
    | cons v vs => exact ⟨⟨none, 0, h.1, Nat.le_refl _, .inl rfl⟩, ih h.2⟩
  | lb _ ih => intro vs h; cases vs with
    | nil => exact h
    | cons v vs => exact ⟨h.1.1, ih h.2⟩
theorem Ev.weakA {P : Program} {f : FuncId} {args args' : List AV} {m m' : Mem} {v : AV} (ha : WkL args args') (h : Ev P (.call f args' m) (.val v m')) : Ev P (.call f args m) (.val v m') :=
  Ev.semF fun ι w vs hR hargs => sound h ι w vs hR (ha.rel hargs)
inductive IsL (n : Nat) (a : List Int) : List AV → List AV → Prop
  | nil : IsL n a [] []
  | same {x : AV} {l l' : List AV} (h : IsL n a l l') : IsL n a (x :: l) (x :: l')
  | is {l l' : List AV} (h : IsL n a l l') : IsL n a (.c (.is a) :: l) (.c (.sl n 0 a.length a.length 1) :: l')
theorem stay_name {ι : Emb} {m : Mem} {w : World} (hR : R ι m w) {a : List Int} {v : Value} (hv : Cell.rel ι (.is a) v) :
    ∃ ι1 : Emb, R ι1 (m ++ [.row false (.ai a)]) w ∧ ι1.tx = ι.tx ∧ ι.le ι1 ∧ (∀ b, b < m.length → ι1 b = ι b) ∧ Cell.rel ι1 (.sl m.length 0 a.length a.length 1) v := by
  obtain ⟨p, cap, rfl, h1, h2⟩ := hv
  rcases h2 with h2 | ⟨c, o, rfl, ⟨o', v', hb⟩, hr⟩
  · refine ⟨ι, (app_none hR _ (Nat.le_refl _)).r, rfl, .refl _, fun _ _ => rfl, ⟨p, cap, rfl, h1, h1, .inl h2⟩⟩
  · obtain ⟨⟨cs, t, fr, e1, _⟩, _⟩ := hR.txt _ _ _ hb
    have hle := hR.upd_le ⟨c, o, cap⟩
    refine ⟨ι.upd m.length ⟨c, o, cap⟩, ⟨fun b hb => ?_, fun b l own x hl hm => ?_, fun b b' l l' own own' x x' hne hl hl' hm hm' ho => ?_, fun c1 Φ hc => ⟨(hR.stay c1 Φ (hc.to ι)).1, fun b l x hl hm => ?_⟩⟩, rfl, hle, fun b hb => Emb.upd_ne (by omega), ⟨_, cap, rfl, h1, h1, .inr ⟨_, Emb.upd_eq _ _ _, rfl, by simp⟩⟩⟩
    · simp at hb
      rw [Emb.upd_ne (by omega)]; exact hR.dom b (by omega)
    · rcases app_row hm with ⟨hlt, hm⟩ | ⟨rfl, e⟩
      · rw [Emb.upd_ne (by omega)] at hl
        exact (hR.rows b l own x hl hm).mono hle
      · cases e
        rw [Emb.upd_eq] at hl
        cases hl
        refine .of rfl ⟨cs, t, fr, e1, h1, fun j hj => ?_, fun h => by cases h⟩
        obtain ⟨⟨cs', t', fr', f1, f2⟩, _⟩ := hR.txt _ _ _ (hr j hj)
        rw [e1] at f1; cases f1
        exact ⟨_, f2, rfl⟩
    · have far : ∀ {b : Nat} {l : Loc} {x : Arr}, ι b = some l → m[b]? = some (.row true x) → l.c ≠ c := fun h1 h2 => (hR.txt _ _ _ hb).2 _ _ _ h1 h2
      rcases app_row hm with ⟨hlt, hm⟩ | ⟨rfl, e⟩ <;> rcases app_row hm' with ⟨hlt', hm'⟩ | ⟨rfl, e'⟩
      · rw [Emb.upd_ne (by omega)] at hl hl'
        exact hR.inj b b' l l' own own' x x' hne hl hl' hm hm' ho
      · cases e'
        rw [Emb.upd_ne (by omega)] at hl
        rw [Emb.upd_eq] at hl'
        cases hl'
        rcases ho with rfl | h
        · exact far hl hm
        · cases h
      · cases e
        rw [Emb.upd_ne (by omega)] at hl'
        rw [Emb.upd_eq] at hl
        cases hl
        rcases ho with h | rfl
        · cases h
        · exact fun e => far hl' hm' e.symm
      · exact absurd rfl hne
    · rcases app_row hm with ⟨hlt, hm⟩ | ⟨rfl, e⟩
      · rw [Emb.upd_ne (by omega)] at hl
        exact (hR.stay c1 Φ (hc.to ι)).2 b l x hl hm
      · cases e
theorem IsL.rel {ι ι1 : Emb} {n : Nat} {a : List Int} (hle : ι.le ι1) {l l' : List AV} (h : IsL n a l l') : ∀ {vs : List Value}, (∀ v ∈ vs, Cell.rel ι (.is a) v → Cell.rel ι1 (.sl n 0 a.length a.length 1) v) → ArgsRel ι l vs → ArgsRel ι1 l' vs := by
  induction h with
  | nil => intro vs _ h; cases vs with
    | nil => trivial
    | cons => exact h.elim
  | same _ ih => intro vs hv h; cases vs with
    | nil => exact h
    | cons v vs => exact ⟨AV.rel_mono hle h.1, ih (fun u hu => hv u (List.mem_cons_of_mem _ hu)) h.2⟩
  | is _ ih => intro vs hv h; cases vs with
    | nil => exact h
    | cons v vs => exact ⟨hv v List.mem_cons_self h.1, ih (fun u hu => hv u (List.mem_cons_of_mem _ hu)) h.2⟩
theorem Ev.isRow {P : Program} {f : FuncId} {args args' : List AV} {m M' M2 : Mem} {v v2 : AV} {a : List Int} (i : Nat) (ids : List Nat) (hi : args[i]? = some (.c (.is a))) (hi' : args'[i]? = some (.c (.sl m.length 0 a.length a.length 1))) (hl : args'.length = args.length) (ho : ∀ j, j ≠ i → args'[j]? = args[j]?)
    (h : Ev P (.call f args' (m ++ [.row false (.ai a)])) (.val v M')) (hok : canOk m.length M' ids = true) (hids : (ids.all fun x => decide (m.length < x)) = true) (hv : v.ren (canRen m.length ids) = v2) (hM : canMem m.length M' ids = M2) : Ev P (.call f args m) (.val v2 M2) := by
  subst hv hM
  refine Ev.semF fun ι w vs hR hargs => ?_
  have argI : ∀ {l : List AV} {vs : List Value} {ι : Emb} {j : Nat} {x : AV}, ArgsRel ι l vs → l[j]? = some x → ∃ u, vs[j]? = some u ∧ x.rel ι u := by
    intro l
    induction l with
    | nil => intro vs ι j x _ h; simp at h
    | cons y l ih => intro vs ι j x hr h; cases vs with
      | nil => exact hr.elim
      | cons u vs => cases j with
        | zero => simp at h; subst h; exact ⟨u, rfl, hr.1⟩
        | succ j => obtain ⟨u', h1, h2⟩ := ih hr.2 (by simpa using h); exact ⟨u', by simpa using h1, h2⟩
  have argOf : ∀ {l : List AV} {vs : List Value} {ι : Emb}, l.length = vs.length → (∀ (j : Nat) (x : AV) (u : Value), l[j]? = some x → vs[j]? = some u → x.rel ι u) → ArgsRel ι l vs := by
    intro l
    induction l with
    | nil => intro vs ι h _; cases vs with
      | nil => trivial
      | cons => simp at h
    | cons y l ih => intro vs ι h hr; cases vs with
      | nil => simp at h
      | cons u vs => exact ⟨hr 0 y u rfl rfl, ih (by simpa using h) fun j x u hx hu => hr (j + 1) x u (by simpa using hx) (by simpa using hu)⟩
  have hvl : args.length = vs.toList.length := by
    have : ∀ {l : List AV} {vs : List Value} {ι : Emb}, ArgsRel ι l vs → l.length = vs.length := by
      intro l
      induction l with
      | nil => intro vs ι h; cases vs with
        | nil => rfl
        | cons => exact h.elim
      | cons y l ih => intro vs ι h; cases vs with
        | nil => exact h.elim
        | cons u vs => simp [ih h.2]
    exact this hargs
  obtain ⟨u0, hu0, hr0⟩ := argI hargs hi
  obtain ⟨ι1, hR1, htx, hle, hlo, hcell⟩ := stay_name hR (v := u0) hr0
  have hargs1 : ArgsRel ι1 args' vs.toList := argOf (by rw [hl]; exact hvl) fun j x u hx hu => by
    by_cases hji : j = i
    · subst hji
      rw [hi'] at hx
      rw [hu0] at hu
      cases hx; cases hu
      exact hcell
    · rw [ho j hji] at hx
      obtain ⟨u', h1, h2⟩ := argI hargs hx
      rw [h1] at hu
      cases hu
      exact AV.rel_mono hle h2
  refine (sound h ι1 w vs hR1 hargs1).mono fun e' w' hq => ?_
  obtain ⟨u, ι', rfl, hu, hs⟩ := hq
  have hl1 : (m ++ [Row.row false (.ai a)]).length = m.length + 1 := by simp
  rw [hl1] at hs
  have hs2 := canon_step hok hs.r
  have hc := (hs.low (Nat.le_succ _)).comp hs2
  have row1 : ∀ {b : Nat} {x : Arr}, (m ++ [Row.row false (.ai a)])[b]? = some (.row true x) → b < m.length ∧ m[b]? = some (.row true x) := fun {b x} hb => by
    rcases app_row hb with h1 | ⟨_, e⟩
    · exact h1
    · cases e
  have own1 : ∀ {c}, Owned ι1 (m ++ [Row.row false (.ai a)]) c → Owned ι m c := fun {c} ⟨b, l, x, h1, h2, h3⟩ => by
    obtain ⟨h4, h5⟩ := row1 h2
    exact ⟨b, l, x, by rw [← hlo b h4]; exact h1, h5, h3⟩
  refine ⟨u, canEmb m.length ids ι', rfl, AV.ren_rel (can_same _ _ _) hu, ⟨hc.r, ⟨hc.trans.os, hc.trans.tape, hc.trans.output, hc.trans.size, fun c hcl hn => hc.trans.keep c hcl fun h => hn (own1 h), fun c h => (hc.trans.fresh c h).imp id own1⟩, fun c o v h => hc.tx c o v (by rw [htx]; exact h), fun c o v h => ?_, fun b hb => (hc.ext b hb).trans (hlo b hb), hc.len, fun b x hb hm => hc.ro b x hb (by rw [List.getElem?_append_left hb]; exact hm), fun b own x hb hm => ?_, fun b l own x hb h1 h2 => ?_⟩⟩
  · rcases hc.txn c o v h with h | h | h
    · exact .inl (by rw [← htx]; exact h)
    · exact .inr (.inl h)
    · exact .inr (.inr (own1 h))
  · obtain ⟨x0, h0⟩ := hc.old b own x hb hm
    rw [List.getElem?_append_left hb] at h0
    exact ⟨x0, h0⟩
  · have hk : m.length ≤ M'.length := Nat.le_trans (Nat.le_succ _) hs.len
    obtain ⟨b', y, hy, rfl, hbb⟩ := canMem_row hk h2
    rcases hbb with ⟨h3, _⟩ | ⟨_, hidb⟩
    · omega
    · have hgt : m.length < b' := by have := List.all_eq_true.1 hids b' (List.mem_of_getElem? hidb); simpa using this
      have hemb : canEmb m.length ids ι' b = ι' b' := by unfold canEmb; dsimp only; rw [if_neg (by omega), hidb]
      rw [hemb] at h1
      rcases hs.news b' l own y (by omega) h1 hy with h4 | h4 | ⟨b0, l0, o0, x0, h5, _, h6, _⟩
      · exact .inl h4
      · exact .inr (.inl (own1 h4))
      · exact (no_row (by simp; omega) h6).elim
end Go.Proofs.YtmbepikkgkcgkaaGreatDoor
namespace Go.Proofs.YtmbepikkgkcgkaaGreatDoor
open Go.RowKit
def unDec (l : List UInt8) : Nat := l.foldl (fun v d => v * 10 + (d.toNat - 48)) 0
theorem unDec_snoc (l : List UInt8) (d : UInt8) : unDec (l ++ [d]) = unDec l * 10 + (d.toNat - 48) := by simp [unDec]
theorem dig_toNat {i : Nat} (h : i < 10) : (UInt8.ofNat (48 + i)).toNat = 48 + i := by
  simp only [UInt8.toNat_ofNat']
  omega
theorem unDec_dec (u : Nat) : unDec (Lib.decDigits u) = u := by
  induction u using Nat.strongRecOn with
  | ind u ih =>
    by_cases h : u < 10
    · rw [Lib.decDigits_one h]
      simp only [unDec, List.foldl_cons, List.foldl_nil, dig_toNat h]
      omega
    · rw [Lib.decDigits, dif_neg h, unDec_snoc, ih (u / 10) (by omega), dig_toNat (by omega)]
      omega
theorem dec_range (u : Nat) : ∀ d ∈ Lib.decDigits u, 48 ≤ d.toNat ∧ d.toNat ≤ 57 := by
  induction u using Nat.strongRecOn with
  | ind u ih =>
    intro d hd
    by_cases h : u < 10
    · rw [Lib.decDigits_one h, List.mem_singleton] at hd
      subst hd
      rw [dig_toNat h]; omega
    · rw [Lib.decDigits, dif_neg h, List.mem_append, List.mem_singleton] at hd
      rcases hd with hd | rfl
      · exact ih (u / 10) (by omega) d hd
      · rw [dig_toNat (by omega)]; omega
theorem dec_inj {u v : Nat} (h : Lib.decDigits u = Lib.decDigits v) : u = v := by rw [← unDec_dec u, h, unDec_dec]
theorem itoa_blank (x : Int) : (32 : UInt8) ∉ Lib.itoa x := by
  intro h
  unfold Lib.itoa at h
  split at h
  · rcases List.mem_cons.1 h with h | h
    · exact absurd h (by decide)
    · have := dec_range _ _ h
      revert this; decide
  · have := dec_range _ _ h
    revert this; decide
theorem itoa_inj {x y : Int} (h : Lib.itoa x = Lib.itoa y) : x = y := by
  unfold Lib.itoa at h
  split at h <;> split at h
  · have := dec_inj (List.cons.inj h).2
    omega
  · rename_i h1 h2
    have := dec_range y.toNat 45 (by rw [← h]; exact List.mem_cons_self)
    exact absurd this (by decide)
  · rename_i h1 h2
    have := dec_range x.toNat 45 (by rw [h]; exact List.mem_cons_self)
    exact absurd this (by decide)
  · have := dec_inj h
    omega
theorem blank_split {l m r s : List UInt8} (hl : (32 : UInt8) ∉ l) (hm : (32 : UInt8) ∉ m) (h : l ++ 32 :: r = m ++ 32 :: s) : l = m ∧ r = s := by
  induction l generalizing m with
  | nil =>
    cases m with
    | nil => exact ⟨rfl, (List.cons.inj h).2⟩
    | cons y m => exact absurd (List.cons.inj h).1 (fun e => hm (by rw [e]; exact List.mem_cons_self))
  | cons x l ih =>
    cases m with
    | nil => exact absurd (List.cons.inj h).1 (fun e => hl (by rw [← e]; exact List.mem_cons_self))
    | cons y m =>
      obtain ⟨h1, h2⟩ := List.cons.inj h
      obtain ⟨h3, h4⟩ := ih (m := m) (fun h => hl (List.mem_cons_of_mem _ h)) (fun h => hm (List.mem_cons_of_mem _ h)) h2
      exact ⟨by rw [h1, h3], h4⟩
theorem keyText_inj : ∀ {l m : List Int}, keyText l = keyText m → l = m
  | [], [], _ => rfl
  | [], y :: m, h => by simp [keyText] at h
  | x :: l, [], h => by simp [keyText] at h
  | x :: l, y :: m, h => by
    obtain ⟨h1, h2⟩ := blank_split (itoa_blank x) (itoa_blank y) h
    rw [itoa_inj h1, keyText_inj h2]
def keyV (x : Nd) : Value := .string ⟨(keyText (x.k :: x.n :: x.a)).toArray⟩
theorem keyV_inj {x y : Nd} (h : keyV x = keyV y) : x = y := by
  unfold keyV at h
  have h1 : (keyText (x.k :: x.n :: x.a)).toArray = (keyText (y.k :: y.n :: y.a)).toArray := congrArg ByteArray.data (Value.string.inj h)
  have h2 := keyText_inj (List.toArray_inj h1)
  cases x; cases y
  simp_all
def arEnt (L : List Nd) : List (Value × Leaf) := (List.range L.length).map fun i => (keyV (getn L i), .val (.int .i64 (i : Int)))
theorem getn_app {L : List Nd} {x : Nd} {i : Nat} (h : i < L.length) : getn (L ++ [x]) i = getn L i := by
  unfold getn
  rw [app_getD, if_pos h]
theorem getn_last (L : List Nd) (x : Nd) : getn (L ++ [x]) L.length = x := by
  unfold getn
  rw [app_getD, if_neg (by omega)]
  simp
theorem arEnt_app (L : List Nd) (x : Nd) : arEnt (L ++ [x]) = arEnt L ++ [(keyV x, .val (.int .i64 (L.length : Int)))] := by
  unfold arEnt
  rw [List.length_append, List.length_singleton, List.range_succ, List.map_append, List.map_singleton, getn_last]
  congr 1
  apply List.map_congr_left
  intro i hi
  rw [getn_app (List.mem_range.1 hi)]
def numb (k : Int) : Bool := (decide (k = 1) || decide (k = 2)) || decide (k = 4)
def leastK (k : Int) : Nat := if k = 4 ∨ k = 5 ∨ k = 6 ∨ k = 8 then 1 else if k = 7 then 2 else 0
def mostK (k : Int) : Nat := if k = 1 ∨ k = 2 then 0 else if k = 4 ∨ k = 5 then 1 else 400
def hasB (m : Nat) (a : List Int) : Bool := a.all fun i => decide (0 ≤ i) && decide (i < (m : Int))
def mkErr (m : Nat) (k n : Int) (a : List Int) : Nat :=
  if k < 1 ∨ 9 < k then 6 else if n < 0 ∨ (0 < n ∧ numb k = false) then 1 else if a.length < leastK k ∨ mostK k < a.length then 2 else if hasB m a = false then 8 else 0
def ndEq (x y : Nd) : Bool := ((x.k == y.k) && (x.n == y.n)) && decide (x.a = y.a)
theorem ndEq_iff {x y : Nd} : ndEq x y = true ↔ x = y := by
  cases x; cases y
  simp [ndEq, and_assoc]
def findN (L : List Nd) (x : Nd) : Option Nat := L.findIdx? (ndEq · x)
def mk (L : List Nd) (k n : Int) (a : List Int) : List Nd × Nat × Nat :=
  if mkErr L.length k n a ≠ 0 then (L, 0, mkErr L.length k n a)
  else match findN L ⟨k, n, a⟩ with
    | some i => (L, i, 0)
    | none => if 1048576 ≤ L.length then (L, 0, 7) else (L ++ [⟨k, n, a⟩], L.length, 0)
structure ArOk (L : List Nd) : Prop where
  dist : ∀ i j, i < L.length → j < L.length → getn L i = getn L j → i = j
  ok : ∀ i, i < L.length → mkErr i (getn L i).k (getn L i).n (getn L i).a = 0
  small : ∀ i, i < L.length → (getn L i).n ≤ 9223372036854775807
theorem ArOk.nil : ArOk [] := ⟨fun i j h => by simp at h, fun i h => by simp at h, fun i h => by simp at h⟩
theorem findN_some {L : List Nd} {x : Nd} {i : Nat} (h : findN L x = some i) : i < L.length ∧ getn L i = x := by
  unfold findN at h
  obtain ⟨hi, h1, _⟩ := List.findIdx?_eq_some_iff_getElem.1 h
  refine ⟨hi, ?_⟩
  have := ndEq_iff.1 h1
  unfold getn
  rw [List.getD_eq_getElem?_getD, List.getElem?_eq_getElem hi]
  exact this
theorem findN_none {L : List Nd} {x : Nd} (h : findN L x = none) {i : Nat} (hi : i < L.length) : getn L i ≠ x := by
  unfold findN at h
  rw [List.findIdx?_eq_none_iff] at h
  intro e
  have := h (getn L i) (by
    unfold getn
    rw [List.getD_eq_getElem?_getD, List.getElem?_eq_getElem hi]
    exact List.getElem_mem hi)
  rw [e, show ndEq x x = true from ndEq_iff.2 rfl] at this
  cases this
theorem ArOk.snoc {L : List Nd} (h : ArOk L) {k n : Int} {a : List Int} (he : mkErr L.length k n a = 0) (hn : n ≤ 9223372036854775807) (hf : findN L ⟨k, n, a⟩ = none) : ArOk (L ++ [⟨k, n, a⟩]) := by
  have last : ∀ i, i < (L ++ [(⟨k, n, a⟩ : Nd)]).length → i = L.length ∨ i < L.length := fun i hi => by simp at hi; omega
  refine ⟨fun i j hi hj e => ?_, fun i hi => ?_, fun i hi => ?_⟩
  · rcases last i hi with rfl | hi <;> rcases last j hj with rfl | hj
    · rfl
    · rw [getn_last, getn_app hj] at e; exact absurd e.symm (findN_none hf hj)
    · rw [getn_last, getn_app hi] at e; exact absurd e (findN_none hf hi)
    · rw [getn_app hi, getn_app hj] at e; exact h.dist i j hi hj e
  · rcases last i hi with rfl | hi
    · rw [getn_last]; exact he
    · rw [getn_app hi]; exact h.ok i hi
  · rcases last i hi with rfl | hi
    · rw [getn_last]; exact hn
    · rw [getn_app hi]; exact h.small i hi
theorem ArOk.keyed {L : List Nd} (h : ArOk L) : Keyed .string (arEnt L) := by
  refine ⟨fun p hp => ?_, ?_⟩
  · obtain ⟨i, _, rfl⟩ := List.mem_map.1 hp
    exact trivial
  · unfold arEnt
    rw [List.pairwise_map]
    refine List.Pairwise.imp_of_mem ?_ List.pairwise_lt_range
    intro i j hi hj hlt e
    have := h.dist i j (List.mem_range.1 hi) (List.mem_range.1 hj) (keyV_inj e)
    omega
theorem mem_arEnt {L : List Nd} {i : Nat} (hi : i < L.length) : (keyV (getn L i), Leaf.val (.int .i64 (i : Int))) ∈ arEnt L := List.mem_map.2 ⟨i, List.mem_range.2 hi, rfl⟩
theorem not_arEnt {L : List Nd} {x : Nd} (hf : findN L x = none) : ∀ p ∈ arEnt L, p.1 ≠ keyV x := by
  intro p hp e
  obtain ⟨i, hi, rfl⟩ := List.mem_map.1 hp
  exact findN_none hf (List.mem_range.1 hi) (keyV_inj e)
structure NdOk (i : Nat) (x : Nd) : Prop where
  kind : 1 ≤ x.k ∧ x.k ≤ 9
  num : 0 ≤ x.n ∧ (0 < x.n → numb x.k = true)
  len : leastK x.k ≤ x.a.length ∧ x.a.length ≤ mostK x.k
  args : ∀ y ∈ x.a, 0 ≤ y ∧ y < (i : Int)
theorem mkErr_ok {m : Nat} {k n : Int} {a : List Int} (h : mkErr m k n a = 0) : NdOk m ⟨k, n, a⟩ := by
  unfold mkErr at h
  split at h
  · cases h
  · split at h
    · cases h
    · split at h
      · cases h
      · split at h
        · cases h
        · rename_i h1 h2 h3 h4
          simp only [not_or, not_and, Int.not_lt, Bool.not_eq_false] at h1 h2 h4
          rw [not_or] at h3
          refine ⟨⟨h1.1, h1.2⟩, ⟨h2.1, fun hp => h2.2 hp⟩, ⟨Nat.le_of_not_lt h3.1, Nat.le_of_not_lt h3.2⟩, fun y hy => ?_⟩
          unfold hasB at h4
          simp only [List.all_eq_true, Bool.and_eq_true, decide_eq_true_eq] at h4
          exact h4 y hy
theorem ArOk.nd {L : List Nd} (h : ArOk L) {i : Nat} (hi : i < L.length) : NdOk i (getn L i) := mkErr_ok (h.ok i hi)
theorem mostK_le (k : Int) : mostK k ≤ 400 := by
  unfold mostK
  split
  · omega
  · split <;> omega
end Go.Proofs.YtmbepikkgkcgkaaGreatDoor
namespace Go.Proofs.YtmbepikkgkcgkaaGreatDoor
open Go.RowKit
theorem own_made (w : World) (o : Obj) (h : o = .cells #[] 3) : (w.alloc o).ownsRow w.heap.size 3 1 (.slice (some ⟨w.heap.size, 0, none⟩) 0 0) 0 [] := by
  subst h
  exact ⟨rfl, .inr ⟨w.heap.size, 0, #[], rfl, Nat.le_refl _, heap_alloc_new w _, Nat.le_refl _, by unfold maxLen; omega, rfl, rfl⟩⟩
set_option maxRecDepth 100000 in
set_option maxHeartbeats 4000000 in
theorem clone_any (l : List Int) (v : Value) (w : World) (hv : (v = .slice none 0 0 ∧ l = []) ∨ ∃ ad cap, v = .slice (some ad) l.length cap ∧ ∀ j u, (l.map (Value.int .i64))[j]? = some u → w.cell? (ad.add j) = some u) (hlen : l.length ≤ 1000) :
    Calls Tryz.prog 43 #[v] w fun e w' => ∃ v', e = .returned v' ∧ w'.ownsRow w.heap.size 3 1 v' l.length (l.map (Value.int .i64)) ∧ Below w.heap.size w w' := by
  have Hlen := hid hlen
  clear hlen
  have q41 : ∀ (w : World) (a : Option Addr) (n c n' c' : Nat), (binOp .eql 41 (.slice a n c) (.slice none n' c')).run Tryz.prog w = .ok (.bool a.isNone) w := fun w a n c n' c' => Lib.run_eql_slice_nil w _ _ a n c n' c' Tryz.underlying41
  rcases hv with ⟨rfl, rfl⟩ | ⟨ad, cap, rfl, hc⟩
  · go_enter Tryz.func43, Tryz.ntmps43
    go_wp2
    go_ret
    exact ⟨_, rfl, World.ownsRow_nil _ _ _ _, Below.refl _ _⟩
  · have Hv := hid hc
    clear hc
    go_enter Tryz.func43, Tryz.ntmps43
    go_wp2_with (at_builtin; refine wpList_appendI _ rfl (.tmp 5) (.tmp 6) 41 rfl w.heap.size Tryz.underlying41 infoK64 (.slice (some ⟨w.heap.size, 0, none⟩) 0 0) 0 [] l rfl (own_made w _ rfl) _ rfl ?_ (by have := Hlen.out; omega) (by simp) ?_)
    · exact .inr ⟨ad, cap, rfl, fun j u hj => by have h3 := Hv.out j u hj; exact (World.cell?_of_block (w := w) (by rw [heap_alloc_if, if_neg (by have := World.block_lt_of_cell? w _ h3; omega)])).trans h3⟩
    intro v1 w1 hown1 hgrow1
    have hB1 : Below w.heap.size w w1 := ((Below.refl _ _).alloc (Nat.le_refl _) _).grown hgrow1 (by simp) (fun k hk => by simp [Value.ownBlock] at hk; omega)
    have HO := hid hown1
    have HB := hid hB1
    clear hown1 hgrow1 hB1
    go_wp2
    go_ret
    exact ⟨_, rfl, HO.out, HB.out⟩
theorem below_step {ι : Emb} {M : Mem} {w w' : World} (hR : R ι M w) (hb : Below w.heap.size w w') : Step M.length ι M w ι M w' :=
  Step.make hR hR.dom (fun b l own x h1 h2 => (hR.rows b l own x h1 h2).heap (hb.block _ (hR.lt h1 h2)) (.refl _)) hR.inj ⟨hb.os, hb.tape, hb.output, hb.size, fun c hc _ => hb.block c hc, fun _ h => .inr h⟩ rfl (fun _ _ => rfl) (Nat.le_refl _) (fun _ _ _ h => h) (fun _ _ x _ h => ⟨x, h⟩) (fun _b _l _own _x hb _h1 h2 => (no_row hb h2).elim)
theorem own_stay {ι : Emb} {M : Mem} {w w' : World} (hR : R ι M w) (hb : Below w.heap.size w w') {v : Value} {l : List Int} (ho : w'.ownsRow w.heap.size 3 1 v l.length (l.map (Value.int .i64))) : ∃ ι', Cell.rel ι' (.is l) v ∧ Step M.length ι M w ι' M w' := by
  have hst := below_step hR hb
  rcases ho.2 with ⟨rfl, h0⟩ | ⟨g, cap, cur, rfl, hg, hh, hc, hm, hs, ht⟩
  · exact ⟨ι, ⟨none, 0, by rw [h0], by omega, .inl rfl⟩, hst⟩
  · have hle : ι.le ⟨ι.f, fun c o u => ι.tx c o u ∨ (c = g ∧ cur[o]? = some u)⟩ := ⟨fun _ _ h => h, fun _ _ _ h => .inl h⟩
    refine ⟨⟨ι.f, fun c o u => ι.tx c o u ∨ (c = g ∧ cur[o]? = some u)⟩, ?_, ⟨⟨hst.r.dom, fun b l own x h1 h2 => (hst.r.rows b l own x h1 h2).mono hle, hst.r.inj, fun c Φ hc => ?_⟩, ⟨hst.trans.os, hst.trans.tape, hst.trans.output, hst.trans.size, hst.trans.keep, hst.trans.fresh⟩, fun _ _ _ h => .inl h, fun c o u hc => ?_, fun _ _ => rfl, Nat.le_refl _, fun _ _ _ h => h, fun _ _ x _ h => ⟨x, h⟩, fun b l own x hb h1 h2 => (no_row hb h2).elim⟩⟩
    · refine ⟨some ⟨g, 0, none⟩, cap, rfl, hc, ?_⟩
      have cell : ∀ i, i < l.length → cur[i]? = some (.int .i64 (l.getD i 0)) := fun i hi => by
        have h1 : (cur.toList.take (l.length * 1))[i]? = (l.map (Value.int .i64))[i]? := by rw [ht]
        rw [List.getElem?_take, if_pos (by omega), List.getElem?_map, List.getElem?_eq_getElem hi, Option.map_some, Array.getElem?_toList] at h1
        rw [h1, List.getD_eq_getElem?_getD, List.getElem?_eq_getElem hi]
        rfl
      by_cases h0 : cap = 0
      · exact .inl h0
      · have hcur : 0 < cur.size := by omega
        refine .inr ⟨g, 0, rfl, ⟨0, cur[0], .inr ⟨rfl, by simp [hcur]⟩⟩, fun i hi => .inr ⟨rfl, ?_⟩⟩
        rw [Nat.zero_add]; exact cell i hi
    · cases hc with
      | base kb => exact hst.r.stay c Φ (.base kb)
      | tx hc =>
        rcases hc with hc | ⟨rfl, h2⟩
        · exact hst.r.stay c _ (.tx hc)
        · exact ⟨⟨_, hh, cur, 3, (0, 0), rfl, h2⟩, fun b l x h1 h3 e => by have := hR.lt h1 h3; omega⟩
    · rcases hc with hc | ⟨rfl, _⟩
      · exact .inl hc
      · exact .inr (.inl hg)
theorem arg_ints {ι : Emb} {M : Mem} {w : World} (hR : R ι M w) {b n cap : Nat} {own : Bool} {l : List Int} (hm : M[b]? = some (.row own (.ai l))) (hl : l.length = n) {v : Value} (hv : Cell.rel ι (.sl b 0 n cap 1) v) :
    (v = .slice none 0 0 ∧ l = []) ∨ ∃ ad cap, v = .slice (some ad) l.length cap ∧ ∀ j u, (l.map (Value.int .i64))[j]? = some u → w.cell? (ad.add j) = some u := by
  obtain ⟨p, cap', rfl, _, h2, h3⟩ := hv
  subst hl
  rcases h3 with rfl | ⟨lc, hlc, rfl, _⟩
  · have : l.length = 0 := by omega
    obtain rfl : l = [] := List.eq_nil_of_length_eq_zero this
    cases p with
    | none => exact .inl ⟨rfl, rfl⟩
    | some ad => exact .inr ⟨ad, 0, rfl, fun j u h => by simp at h⟩
  · refine .inr ⟨_, cap', rfl, fun j u hj => ?_⟩
    obtain ⟨cs, t, fr, k1, k2, k3, k4⟩ := hR.cells hlc hm rfl
    have hj' : j < l.length := by have := (List.getElem?_eq_some_iff.1 hj).1; simpa using this
    obtain ⟨u', e1, e2⟩ := k3 j hj'
    obtain rfl : u' = .int .i64 (geti l j) := e2
    rw [addr_at, cell_of k1, Nat.add_zero, e1]
    rw [List.getElem?_map, List.getElem?_eq_getElem hj'] at hj
    cases hj
    simp [geti, hj']
theorem pow_here {ι : Emb} {M : Mem} {w : World} (hR : R ι M w) : Lib.TabIs Tryz.prog w "internal/strconv.uint64pow10" .u64 Lib.pow10Tab :=
  powTab (by kernel_rfl) (hR.stay 0 powObj (.base rfl)).1
theorem key_ev (k n : Int) (a : List Int) (m cap : Nat) (hm : a.length = m) (hlen : m ≤ 1000) (hr : ∀ x ∈ k :: n :: a, -9223372036854775808 ≤ x ∧ x ≤ 9223372036854775807) :
    Ev Tryz.prog (.call 42 [.c (.val (.int .i64 k)), .c (.val (.int .i64 n)), .c (.sl 0 0 m cap 1)] [.row false (.ai a)]) (.val (.c (.val (keyV ⟨k, n, a⟩))) [.row false (.ai a)]) :=
  Ev.semF fun ι w vs hR hargs => by
    match hvs : vs.toList, hargs with
    | [v1, v2, v3], hargs =>
      obtain ⟨h1, h2, h3, _⟩ := hargs
      obtain rfl : v1 = .int .i64 k := h1
      obtain rfl : v2 = .int .i64 n := h2
      have hv : vs = #[.int .i64 k, .int .i64 n, v3] := by rw [← Array.toList_inj, hvs]
      subst hv
      refine (key_any k n a v3 w (arg_ints hR (b := 0) rfl hm h3) (by omega) hr (pow_here hR)).mono fun e w' ⟨he, hb⟩ => ?_
      exact ⟨_, ι, he, rfl, below_step hR hb⟩
theorem clone_ev (a : List Int) (m cap : Nat) (hm : a.length = m) (hlen : m ≤ 1000) : Ev Tryz.prog (.call 43 [.c (.sl 0 0 m cap 1)] [.row false (.ai a)]) (.val (.c (.is a)) [.row false (.ai a)]) :=
  Ev.semF fun ι w vs hR hargs => by
    match hvs : vs.toList, hargs with
    | [v3], hargs =>
      obtain ⟨h3, _⟩ := hargs
      have hv : vs = #[v3] := by rw [← Array.toList_inj, hvs]
      subst hv
      refine (clone_any a v3 w (arg_ints hR (b := 0) rfl hm h3) (by omega)).mono fun e w' ⟨v', he, ho, hb⟩ => ?_
      obtain ⟨ι', h1, h2⟩ := own_stay hR hb ho
      exact ⟨v', ι', he, h1, h2⟩
end Go.Proofs.YtmbepikkgkcgkaaGreatDoor
namespace Go.Proofs.YtmbepikkgkcgkaaGreatDoor
open Go.RowKit
theorem bnA {p : Prop} [Decidable p] (h : p) : ((!decide p) == false) = true := by simp [h]
theorem bnB {p : Prop} [Decidable p] (h : ¬ p) : ((!decide p) == true) = true := by simp [h]
theorem bnC {p : Prop} [Decidable p] (h : p) : ((!decide p) == true) = false := by simp [h]
theorem bnD {p : Prop} [Decidable p] (h : ¬ p) : ((!decide p) == false) = false := by simp [h]
theorem GOG_ {p : Prop} (h : p := by first | rfl | exact ev_want rfl rfl rfl rfl | exact ev_want rfl rfl rfl (beqT (by omega)) | exact ev_want rfl rfl rfl (beqF (by omega)) | exact ev_want rfl rfl rfl (beqTn (by omega)) | exact ev_want rfl rfl rfl (beqFn (by omega)) | exact ev_wantU rfl rfl rfl | exact ev_want rfl rfl rfl (by decide) | exact ev_want rfl rfl rfl (bnA (by omega)) | exact ev_want rfl rfl rfl (bnB (by omega)) | exact ev_want rfl rfl rfl (bnC (by omega)) | exact ev_want rfl rfl rfl (bnD (by omega)) | fail) : p := h
theorem fa_75_0 (b o : Nat) : evFieldAddr Tryz.prog 75 (.c (.ptr b o)) 0 = some (.c (.ptr b (o + 0))) := by kernel_rfl
theorem fa_75_1 (b o : Nat) : evFieldAddr Tryz.prog 75 (.c (.ptr b o)) 1 = some (.c (.ptr b (o + 1))) := by kernel_rfl
theorem ok_43 : (Tryz.prog.funcs[43]?).any (fun fn => fn.body.isSome && !(fn.name == "runtime.NumGoroutine")) = true := by rw [Tryz.func43]; rfl
theorem ok_68 : (Tryz.prog.funcs[68]?).any (fun fn => fn.body.isSome && !(fn.name == "runtime.NumGoroutine")) = true := by rw [Tryz.func68]; rfl
section
variable {P : Program} {T : Nat → AV} {M M' : Mem} {t t' : TypeId} {x y z : Operand} {a b : Int}
theorem v_eqlD (hx : opnd T x = .c (.val (.int .i64 a))) (hy : opnd T y = .c (.val (.int .i64 b))) : evVal P (opnd T) M (.binOp .eql t x y t') = some (.c (.val (.bool (decide (a = b))))) := v_eqlI hx hy
theorem v_neqD (hx : opnd T x = .c (.val (.int .i64 a))) (hy : opnd T y = .c (.val (.int .i64 b))) : evVal P (opnd T) M (.binOp .neq t x y t') = some (.c (.val (.bool (!decide (a = b))))) := v_neqI hx hy
theorem o_nn {op : Op} {e : Operand → AV} {m : Mem} {v : AV} (h : Ev P (.op op e m) (.val v (m ++ []))) : Ev P (.op op e m) (.val v m) := by rwa [List.append_nil] at h
theorem o_store {b o : Nat} {c : Cell} {u w : Arr} (ha : opnd T x = .c (.ptr b o)) (hv : opnd T y = .c c) (hm : M[b]? = some (.row true u)) (h1 : c.one = true) (hs : szT P t = some 1) (ho : o < u.size) (hz : u.set o c = some w) (hM : M.set b (.row true w) = M') :
    Ev P (.op (.store t x y) (opnd T) M) (.val (.c .any) M') :=
  Ev.mem (by simp [evMem, evStore, ha, hv, hm, h1, hs, ho, hz, hM])
end
section
variable {P : Program} {T : Nat → AV} {M : Mem} {x y z : Operand}
theorem v_bldG {t : TypeId} {ps : Array (Nat × Operand)} {l : List (Nat × AV)} {v : AV} (hl : ps.toList.map (fun p => (p.1, opnd T p.2)) = l) (h : evBuild P t l = some v) : evVal P (opnd T) M (.build t ps) = some v := by subst hl; exact h
theorem m_bsG {t : TypeId} {n : Nat} {ps : Array (Nat × Operand)} {l : List (Nat × AV)} {r : AV × Mem} (hl : ps.toList.map (fun p => (p.1, opnd T p.2)) = l) (h : evBuildSlice P M t n l = some r) : evMem P (opnd T) M (.buildSlice t n ps) = some r := by subst hl; exact h
end
section
variable {T : Nat → AV} {M : Mem} {x y z : Operand}
set_option maxRecDepth 100000 in
theorem bldNd (k n : Int) (a : List Int) : evBuild Tryz.prog 58 [(0, .c (.val (.int .i64 k))), (1, .c (.val (.int .i64 n))), (2, .c (.is a))] = some (.agg (.ac [.val (.int .i64 k), .val (.int .i64 n), .is a])) := by kernel_rfl
set_option maxRecDepth 100000 in
theorem bsNd (M : Mem) (k n : Int) (a : List Int) : evBuildSlice Tryz.prog M 53 1 [(0, .agg (.ac [.val (.int .i64 k), .val (.int .i64 n), .is a]))] = some (.c (.sl M.length 0 1 1 3), M ++ [.row true (.ac [.val (.int .i64 k), .val (.int .i64 n), .is a])]) := by kernel_rfl
set_option maxRecDepth 100000 in
theorem bldAr (b : Nat) : evBuild Tryz.prog 75 [(1, .c (.mp b))] = some (.agg (.ac [.nsl, .mp b])) := by kernel_rfl
theorem v_bldNd {k n : Int} {a : List Int} (hx : opnd T x = .c (.val (.int .i64 k))) (hy : opnd T y = .c (.val (.int .i64 n))) (hz : opnd T z = .c (.is a)) :
    evVal Tryz.prog (opnd T) M (.build 58 #[(0, x), (1, y), (2, z)]) = some (.agg (.ac [.val (.int .i64 k), .val (.int .i64 n), .is a])) :=
  v_bldG (by simp [hx, hy, hz]) (bldNd k n a)
theorem m_bsNd {k n : Int} {a : List Int} {m : Nat} (hx : opnd T x = .agg (.ac [.val (.int .i64 k), .val (.int .i64 n), .is a])) (hm : M.length = m) :
    evMem Tryz.prog (opnd T) M (.buildSlice 53 1 #[(0, x)]) = some (.c (.sl m 0 1 1 3), M ++ [.row true (.ac [.val (.int .i64 k), .val (.int .i64 n), .is a])]) := by
  subst hm
  exact m_bsG (by simp [hx]) (bsNd M k n a)
theorem v_bldAr {b : Nat} (hx : opnd T x = .c (.mp b)) : evVal Tryz.prog (opnd T) M (.build 75 #[(1, x)]) = some (.agg (.ac [.nsl, .mp b])) :=
  v_bldG (by simp [hx]) (bldAr b)
end
theorem c_nilC {P : Program} {k N : Nat} {c : Code} {T : Nat → AV} {M M' : Mem} {Φ : Ex → St → Prop} (b i sz : Nat) (x : Arr) {l : List Cell} (_hx : x.size = 0) (hb : M[b]? = some (.row true (.ac l))) (hi : l[i]? = some .nsl) (hM : M.set b (.row true (.ac (l.set i (.sl M.length 0 0 0 sz)))) ++ [.row true x] = M') (h : WC P k c ⟨N, T, M'⟩ Φ) : WC P k c ⟨N, T, M⟩ Φ := by
  subst hM
  obtain ⟨e, r, h1, h2⟩ := h.h
  refine ⟨⟨e, r, Ev.weak (fun ι w a hk hR hf => ⟨ι, hf.mono (.refl ι) _, ?_⟩) h1, h2⟩⟩
  have hst := cast_step (k := k) (y := .ac (l.set i (.sl M.length 0 0 0 sz))) hk hR hb rfl rfl (by simp [Arr.size]) (fun ι j v hj hv => by
    simp only [Arr.get, getc, List.getD_eq_getElem?_getD, List.getElem?_set] at hv ⊢
    by_cases hij : i = j
    · subst hij
      have hj' : i < l.length := hj
      rw [if_pos rfl, if_pos hj']
      rw [hi] at hv
      obtain rfl : v = .slice none 0 0 := hv
      exact ⟨none, 0, rfl, Nat.le_refl _, Nat.le_refl _, .inl rfl⟩
    · rw [if_neg hij]; exact hv) (fun h => by cases h)
  have hl : (M.set b (.row true (.ac (l.set i (.sl M.length 0 0 0 sz))))).length = M.length := by simp
  exact hst.comp (nil_step (by rw [hl]; exact hk) hst.r)
end Go.Proofs.YtmbepikkgkcgkaaGreatDoor
namespace Go.Proofs.YtmbepikkgkcgkaaGreatDoor
open Go.RowKit
theorem row_3 : isRowT Tryz.prog 3 = some false := by kernel_rfl
theorem sz_3 : szT Tryz.prog 3 = some 1 := by kernel_rfl
theorem el_3 : elemOk Tryz.prog 3 = some (1, 8) := by kernel_rfl
theorem row_4 : isRowT Tryz.prog 4 = some false := by kernel_rfl
theorem sz_4 : szT Tryz.prog 4 = some 1 := by kernel_rfl
theorem el_4 : elemOk Tryz.prog 4 = some (1, 1) := by kernel_rfl
theorem row_5 : isRowT Tryz.prog 5 = some false := by kernel_rfl
theorem sz_5 : szT Tryz.prog 5 = some 1 := by kernel_rfl
theorem rep_5 (n : Nat) : repArr Tryz.prog 5 n = some (.a8 (zer8 n)) := by kernel_rfl
theorem el_5 : elemOk Tryz.prog 5 = some (1, 1) := by kernel_rfl
theorem row_23 : isRowT Tryz.prog 23 = some false := by kernel_rfl
theorem sz_23 : szT Tryz.prog 23 = some 1 := by kernel_rfl
theorem rep_23 (n : Nat) : repArr Tryz.prog 23 n = some (.ac (List.replicate n .nsl)) := by kernel_rfl
theorem el_23 : elemOk Tryz.prog 23 = some (1, 24) := by kernel_rfl
theorem row_37 : isRowT Tryz.prog 37 = some true := by kernel_rfl
theorem sz_37 : szT Tryz.prog 37 = some 32 := by kernel_rfl
theorem al_37 (m : Mem) : evAlloc Tryz.prog m 37 = some (.c (.ptr m.length 0), m ++ [.row true (.a8 (zer8 32))]) := by kernel_rfl
theorem row_41 : isRowT Tryz.prog 41 = some false := by kernel_rfl
theorem row_42 : isRowT Tryz.prog 42 = some false := by kernel_rfl
theorem row_53 : isRowT Tryz.prog 53 = some false := by kernel_rfl
theorem sz_53 : szT Tryz.prog 53 = some 1 := by kernel_rfl
theorem row_58 : isRowT Tryz.prog 58 = some true := by kernel_rfl
theorem sz_58 : szT Tryz.prog 58 = some 3 := by kernel_rfl
theorem al_58 (m : Mem) : evAlloc Tryz.prog m 58 = some (.c (.ptr m.length 0), m ++ [.row true (.ac [.val (.int .i64 0), .val (.int .i64 0), .nsl])]) := by kernel_rfl
theorem fa_58_0 (b o : Nat) : evFieldAddr Tryz.prog 58 (.c (.ptr b o)) 0 = some (.c (.ptr b (o + 0))) := by kernel_rfl
theorem fa_58_1 (b o : Nat) : evFieldAddr Tryz.prog 58 (.c (.ptr b o)) 1 = some (.c (.ptr b (o + 1))) := by kernel_rfl
theorem fa_58_2 (b o : Nat) : evFieldAddr Tryz.prog 58 (.c (.ptr b o)) 2 = some (.c (.ptr b (o + 2))) := by kernel_rfl
theorem el_58 : elemOk Tryz.prog 58 = some (3, 40) := by kernel_rfl
theorem row_70 : isRowT Tryz.prog 70 = some false := by kernel_rfl
theorem sz_70 : szT Tryz.prog 70 = some 1 := by kernel_rfl
theorem row_73 : isRowT Tryz.prog 73 = some false := by kernel_rfl
theorem row_85 : isRowT Tryz.prog 85 = some false := by kernel_rfl
theorem fa_87_0 (b o : Nat) : evFieldAddr Tryz.prog 87 (.c (.ptr b o)) 0 = some (.c (.ptr b (o + 0))) := by kernel_rfl
theorem fa_87_1 (b o : Nat) : evFieldAddr Tryz.prog 87 (.c (.ptr b o)) 1 = some (.c (.ptr b (o + 1))) := by kernel_rfl
theorem row_98 : isRowT Tryz.prog 98 = some true := by kernel_rfl
theorem sz_98 : szT Tryz.prog 98 = some 12 := by kernel_rfl
theorem za_98 : (Tryz.prog.info? 98).bind (fun i => i.zero.map (fun z => absArr z.cells.toList)) = some (.a8 (zer8 12)) := by kernel_rfl
theorem row_105 : isRowT Tryz.prog 105 = some true := by kernel_rfl
theorem sz_105 : szT Tryz.prog 105 = some 64 := by kernel_rfl
theorem al_105 (m : Mem) : evAlloc Tryz.prog m 105 = some (.c (.ptr m.length 0), m ++ [.row true (.a8 (zer8 64))]) := by kernel_rfl
theorem row_106 : isRowT Tryz.prog 106 = some false := by kernel_rfl
theorem sz_106 : szT Tryz.prog 106 = some 1 := by kernel_rfl
theorem el_106 : elemOk Tryz.prog 106 = some (1, 4) := by kernel_rfl
theorem row_107 : isRowT Tryz.prog 107 = some true := by kernel_rfl
theorem sz_107 : szT Tryz.prog 107 = some 8 := by kernel_rfl
theorem al_107 (m : Mem) : evAlloc Tryz.prog m 107 = some (.c (.ptr m.length 0), m ++ [.row true (.a32 (zer32 8))]) := by kernel_rfl
theorem zc_107 : (Tryz.prog.info? 107).bind (fun i => i.zero.map (·.cells.size)) = some 8 := by kernel_rfl
theorem al_111 (m : Mem) : evAlloc Tryz.prog m 111 = some (.c (.ptr m.length 0), m ++ [.row true (.a32 (zer32 64))]) := by kernel_rfl
theorem row_121 : isRowT Tryz.prog 121 = some true := by kernel_rfl
theorem sz_121 : szT Tryz.prog 121 = some 16 := by kernel_rfl
theorem al_121 (m : Mem) : evAlloc Tryz.prog m 121 = some (.c (.ptr m.length 0), m ++ [.row true (.a8 (zer8 16))]) := by kernel_rfl
theorem row_181 : isRowT Tryz.prog 181 = some true := by kernel_rfl
theorem sz_181 : szT Tryz.prog 181 = some 16 := by kernel_rfl
theorem al_181 (m : Mem) : evAlloc Tryz.prog m 181 = some (.c (.ptr m.length 0), m ++ [.row true (.a32 (zer32 16))]) := by kernel_rfl
theorem za_181 : (Tryz.prog.info? 181).bind (fun i => i.zero.map (fun z => absArr z.cells.toList)) = some (.a32 (zer32 16)) := by kernel_rfl
theorem row_213 : isRowT Tryz.prog 213 = some true := by kernel_rfl
theorem sz_213 : szT Tryz.prog 213 = some 5 := by kernel_rfl
theorem al_213 (m : Mem) : evAlloc Tryz.prog m 213 = some (.c (.ptr m.length 0), m ++ [.row true (.a64 (zer64 5))]) := by kernel_rfl
theorem ok_11 : (Tryz.prog.funcs[11]?).any (fun fn => fn.body.isSome && !(fn.name == "runtime.NumGoroutine")) = true := by rw [Tryz.func11]; rfl
theorem ok_13 : (Tryz.prog.funcs[13]?).any (fun fn => fn.body.isSome && !(fn.name == "runtime.NumGoroutine")) = true := by rw [Tryz.func13]; rfl
theorem ok_15 : (Tryz.prog.funcs[15]?).any (fun fn => fn.body.isSome && !(fn.name == "runtime.NumGoroutine")) = true := by rw [Tryz.func15]; rfl
theorem ok_17 : (Tryz.prog.funcs[17]?).any (fun fn => fn.body.isSome && !(fn.name == "runtime.NumGoroutine")) = true := by rw [Tryz.func17]; rfl
theorem ok_19 : (Tryz.prog.funcs[19]?).any (fun fn => fn.body.isSome && !(fn.name == "runtime.NumGoroutine")) = true := by rw [Tryz.func19]; rfl
theorem ok_20 : (Tryz.prog.funcs[20]?).any (fun fn => fn.body.isSome && !(fn.name == "runtime.NumGoroutine")) = true := by rw [Tryz.func20]; rfl
theorem ok_21 : (Tryz.prog.funcs[21]?).any (fun fn => fn.body.isSome && !(fn.name == "runtime.NumGoroutine")) = true := by rw [Tryz.func21]; rfl
theorem ok_22 : (Tryz.prog.funcs[22]?).any (fun fn => fn.body.isSome && !(fn.name == "runtime.NumGoroutine")) = true := by rw [Tryz.func22]; rfl
theorem ok_26 : (Tryz.prog.funcs[26]?).any (fun fn => fn.body.isSome && !(fn.name == "runtime.NumGoroutine")) = true := by rw [Tryz.func26]; rfl
theorem ok_28 : (Tryz.prog.funcs[28]?).any (fun fn => fn.body.isSome && !(fn.name == "runtime.NumGoroutine")) = true := by rw [Tryz.func28]; rfl
theorem ok_30 : (Tryz.prog.funcs[30]?).any (fun fn => fn.body.isSome && !(fn.name == "runtime.NumGoroutine")) = true := by rw [Tryz.func30]; rfl
theorem ok_35 : (Tryz.prog.funcs[35]?).any (fun fn => fn.body.isSome && !(fn.name == "runtime.NumGoroutine")) = true := by rw [Tryz.func35]; rfl
theorem ok_38 : (Tryz.prog.funcs[38]?).any (fun fn => fn.body.isSome && !(fn.name == "runtime.NumGoroutine")) = true := by rw [Tryz.func38]; rfl
theorem ok_40 : (Tryz.prog.funcs[40]?).any (fun fn => fn.body.isSome && !(fn.name == "runtime.NumGoroutine")) = true := by rw [Tryz.func40]; rfl
theorem ok_41 : (Tryz.prog.funcs[41]?).any (fun fn => fn.body.isSome && !(fn.name == "runtime.NumGoroutine")) = true := by rw [Tryz.func41]; rfl
theorem ok_42 : (Tryz.prog.funcs[42]?).any (fun fn => fn.body.isSome && !(fn.name == "runtime.NumGoroutine")) = true := by rw [Tryz.func42]; rfl
theorem ok_44 : (Tryz.prog.funcs[44]?).any (fun fn => fn.body.isSome && !(fn.name == "runtime.NumGoroutine")) = true := by rw [Tryz.func44]; rfl
theorem ok_45 : (Tryz.prog.funcs[45]?).any (fun fn => fn.body.isSome && !(fn.name == "runtime.NumGoroutine")) = true := by rw [Tryz.func45]; rfl
theorem ok_46 : (Tryz.prog.funcs[46]?).any (fun fn => fn.body.isSome && !(fn.name == "runtime.NumGoroutine")) = true := by rw [Tryz.func46]; rfl
theorem ok_53 : (Tryz.prog.funcs[53]?).any (fun fn => fn.body.isSome && !(fn.name == "runtime.NumGoroutine")) = true := by rw [Tryz.func53]; rfl
theorem ok_60 : (Tryz.prog.funcs[60]?).any (fun fn => fn.body.isSome && !(fn.name == "runtime.NumGoroutine")) = true := by rw [Tryz.func60]; rfl
theorem ok_61 : (Tryz.prog.funcs[61]?).any (fun fn => fn.body.isSome && !(fn.name == "runtime.NumGoroutine")) = true := by rw [Tryz.func61]; rfl
theorem ok_62 : (Tryz.prog.funcs[62]?).any (fun fn => fn.body.isSome && !(fn.name == "runtime.NumGoroutine")) = true := by rw [Tryz.func62]; rfl
theorem ok_63 : (Tryz.prog.funcs[63]?).any (fun fn => fn.body.isSome && !(fn.name == "runtime.NumGoroutine")) = true := by rw [Tryz.func63]; rfl
theorem ok_69 : (Tryz.prog.funcs[69]?).any (fun fn => fn.body.isSome && !(fn.name == "runtime.NumGoroutine")) = true := by rw [Tryz.func69]; rfl
theorem ok_70 : (Tryz.prog.funcs[70]?).any (fun fn => fn.body.isSome && !(fn.name == "runtime.NumGoroutine")) = true := by rw [Tryz.func70]; rfl
theorem ok_71 : (Tryz.prog.funcs[71]?).any (fun fn => fn.body.isSome && !(fn.name == "runtime.NumGoroutine")) = true := by rw [Tryz.func71]; rfl
theorem ok_75 : (Tryz.prog.funcs[75]?).any (fun fn => fn.body.isSome && !(fn.name == "runtime.NumGoroutine")) = true := by rw [Tryz.func75]; rfl
theorem ok_76 : (Tryz.prog.funcs[76]?).any (fun fn => fn.body.isSome && !(fn.name == "runtime.NumGoroutine")) = true := by rw [Tryz.func76]; rfl
theorem ok_101 : (Tryz.prog.funcs[101]?).any (fun fn => fn.body.isSome && !(fn.name == "runtime.NumGoroutine")) = true := by rw [Tryz.func101]; rfl
theorem ok_103 : (Tryz.prog.funcs[103]?).any (fun fn => fn.body.isSome && !(fn.name == "runtime.NumGoroutine")) = true := by rw [Tryz.func103]; rfl
theorem ok_105 : (Tryz.prog.funcs[105]?).any (fun fn => fn.body.isSome && !(fn.name == "runtime.NumGoroutine")) = true := by rw [Tryz.func105]; rfl
theorem ok_108 : (Tryz.prog.funcs[108]?).any (fun fn => fn.body.isSome && !(fn.name == "runtime.NumGoroutine")) = true := by rw [Tryz.func108]; rfl
theorem ok_109 : (Tryz.prog.funcs[109]?).any (fun fn => fn.body.isSome && !(fn.name == "runtime.NumGoroutine")) = true := by rw [Tryz.func109]; rfl
theorem ok_116 : (Tryz.prog.funcs[116]?).any (fun fn => fn.body.isSome && !(fn.name == "runtime.NumGoroutine")) = true := by rw [Tryz.func116]; rfl
theorem ok_146 : (Tryz.prog.funcs[146]?).any (fun fn => fn.body.isSome && !(fn.name == "runtime.NumGoroutine")) = true := by rw [Tryz.func146]; rfl
theorem ok_147 : (Tryz.prog.funcs[147]?).any (fun fn => fn.body.isSome && !(fn.name == "runtime.NumGoroutine")) = true := by rw [Tryz.func147]; rfl
theorem ok_148 : (Tryz.prog.funcs[148]?).any (fun fn => fn.body.isSome && !(fn.name == "runtime.NumGoroutine")) = true := by rw [Tryz.func148]; rfl
theorem ok_149 : (Tryz.prog.funcs[149]?).any (fun fn => fn.body.isSome && !(fn.name == "runtime.NumGoroutine")) = true := by rw [Tryz.func149]; rfl
theorem ext_162 : ExtIs Tryz.prog 162 add64Entry := ⟨⟨_, Tryz.func162, by kernel_rfl, by kernel_rfl, by kernel_rfl, by kernel_rfl⟩⟩
theorem ok_184 : (Tryz.prog.funcs[184]?).any (fun fn => fn.body.isSome && !(fn.name == "runtime.NumGoroutine")) = true := by rw [Tryz.func184]; rfl
theorem ok_185 : (Tryz.prog.funcs[185]?).any (fun fn => fn.body.isSome && !(fn.name == "runtime.NumGoroutine")) = true := by rw [Tryz.func185]; rfl
theorem ok_186 : (Tryz.prog.funcs[186]?).any (fun fn => fn.body.isSome && !(fn.name == "runtime.NumGoroutine")) = true := by rw [Tryz.func186]; rfl
theorem ok_196 : (Tryz.prog.funcs[196]?).any (fun fn => fn.body.isSome && !(fn.name == "runtime.NumGoroutine")) = true := by rw [Tryz.func196]; rfl
theorem ok_197 : (Tryz.prog.funcs[197]?).any (fun fn => fn.body.isSome && !(fn.name == "runtime.NumGoroutine")) = true := by rw [Tryz.func197]; rfl
theorem mixed : Tryz.prog.follows .mixedOrders = true := by kernel_rfl
end Go.Proofs.YtmbepikkgkcgkaaGreatDoor
namespace Go.Proofs.YtmbepikkgkcgkaaGreatDoor
open Go.RowKit
set_option maxRecDepth 100000 in
set_option maxHeartbeats 2000000 in
theorem new_ev : Ev Tryz.prog (.call 20 [] []) (.val (.c (.ptr 0 0)) [.row true (.ac [.sl 1 0 0 0 3, .mp 2]), .row true (.an []), .row true (.mp (arEnt []))]) := by
  refine c_call Tryz.func20 rfl Tryz.ntmps20 rfl LEN_ ?_
  refine S_ ?_
  refine c_region ?_
  refine s_val (v_assignC rfl) rfl ?_
  refine s_nil ?_
  refine S_ ?_
  refine c_region ?_
  refine s_ev (o_makeMap) rfl ?_
  refine s_val (v_bldAr rfl) rfl ?_
  refine s_memN (m_box BX_ LEN_) APP_ rfl ?_
  first
    | refine s_val (v_assignC rfl) rfl ?_
    | refine s_val (v_assignA rfl) rfl ?_
    | refine s_val (v_assignT rfl) rfl ?_
  refine s_nil ?_
  refine Q_ ?_
  refine c_nilC 1 0 3 (.an []) rfl rfl rfl rfl ?_
  refine S_ ?_
  exact k_1 (by first | exact r_tmpC rfl | exact r_tmpA rfl) (by kernel_rfl)
theorem hasB_drop {m : Nat} {a : List Int} {j : Nat} (hj : j < a.length) : hasB m (a.drop j) = ((decide (0 ≤ geti a j) && decide (geti a j < (m : Int))) && hasB m (a.drop (j + 1))) := by
  unfold hasB
  rw [List.drop_eq_getElem_cons hj, List.all_cons]
  congr 2 <;> simp [geti, hj]
set_option maxRecDepth 100000 in
set_option maxHeartbeats 2000000 in
theorem has_ev (L : List Nd) (es : List (Value × Leaf)) (N : Nat) (a : List Int) (m cap : Nat) (_hN : L.length = N) (_hNl : N ≤ 2000000) (hm : a.length = m) (hml : m ≤ 1000000) :
    Ev Tryz.prog (.call 41 [.c (.ptr 0 0), .c (.sl 1 0 m cap 1)] [.row false (.ac [.sl 2 0 N N 3, .mp 3]), .row false (.ai a), .row false (.an L), .row false (.mp es)])
      (.val (.c (.val (.bool (hasB N a)))) [.row false (.ac [.sl 2 0 N N 3, .mp 3]), .row false (.ai a), .row false (.an L), .row false (.mp es)]) := by
  refine c_call Tryz.func41 rfl Tryz.ntmps41 rfl LEN_ ?_
  refine S_ ?_
  refine c_region ?_
  refine s_val (v_assignC rfl) rfl ?_
  refine s_nil ?_
  refine S_ ?_
  refine c_region ?_
  first
    | refine s_val (v_moveC rfl) rfl ?_
    | refine s_val (v_moveA rfl) rfl ?_
    | refine s_val (v_moveT rfl) rfl ?_
  first
    | refine s_val (v_lenS rfl Tryz.underlying41) rfl ?_
    | refine s_val (v_lenN rfl Tryz.underlying41) rfl ?_
    | refine s_val (v_lenE rfl Tryz.underlying41) rfl ?_
    | refine s_val (v_lenB rfl Tryz.underlying41 rfl) rfl ?_
    | refine s_val (v_lenZ rfl Tryz.underlying41 rfl) rfl ?_
  refine s_val (v_moveC rfl) rfl ?_
  refine s_nil ?_
  refine S_ ?_
  refine c_while [0, 7, 8, 9] (fun (j : Nat) => ⟨25, keepT [0, 7, 8, 9] [.c (.ptr 0 0), .c (.sl 1 0 m cap 1), .c (.val (.int .i64 (m : Int))), .c (.val (.int .i64 (j : Int)))], [.row false (.ac [.sl 2 0 N N 3, .mp 3]), .row false (.ai a), .row false (.an L), .row false (.mp es)]⟩) (fun j => m - j) (fun j => j ≤ m ∧ hasB N a = hasB N (a.drop j)) 0 (by kernel_rfl) ⟨Nat.zero_le _, by rw [List.drop_zero]⟩ ?_
  rintro j ⟨hj, hB⟩
  by_cases hlt : j < m
  · rw [hasB_drop (by omega)] at hB
    refine S_ ?_
    refine c_region ?_
    first
      | refine s_val (v_lssN rfl rfl) rfl ?_
      | refine s_val (v_lssI rfl rfl) rfl ?_
    refine s_nil ?_
    refine S_ ?_
    refine c_region ?_
    first
      | refine s_val (v_idxS1 rfl rfl Tryz.underlying41 sz_3 (by omega)) rfl ?_
      | refine s_val (v_idxSo rfl rfl Tryz.underlying41 sz_3 (by omega)) rfl ?_
      | refine s_val (v_idxS rfl rfl Tryz.underlying41 sz_3 (by omega)) rfl ?_
      | refine s_val (v_idxZ rfl rfl Tryz.underlying41 sz_3 LT_) rfl ?_
    first
      | refine s_val (v_loadN rfl rfl row_3 LT_) rfl ?_
      | refine s_val (v_loadI rfl rfl row_3 LT_) rfl ?_
      | refine s_val (v_loadZ rfl row_3 LT_) rfl ?_
      | refine s_val (v_ndK rfl rfl rfl row_3 LT_) rfl ?_
      | refine s_val (v_load rfl rfl row_3 LT_ rfl) rfl ?_
    first
      | refine s_val (v_assignC rfl) rfl ?_
      | refine s_val (v_assignA rfl) rfl ?_
      | refine s_val (v_assignT rfl) rfl ?_
    refine s_nil ?_
    generalize geti a j = x at *
    by_cases h1 : x < 0
    · rw [show hasB N a = false by rw [hB]; simp; omega]
      refine S_ ?_
      refine c_region ?_
      first
        | refine s_val (v_moveC rfl) rfl ?_
        | refine s_val (v_moveA rfl) rfl ?_
        | refine s_val (v_moveT rfl) rfl ?_
      first
        | refine s_val (v_lssN (b := 0) rfl rfl) rfl ?_
        | refine s_val (v_lssI rfl rfl) rfl ?_
      first
        | refine s_val (v_moveC rfl) rfl ?_
        | refine s_val (v_moveA rfl) rfl ?_
        | refine s_val (v_moveT rfl) rfl ?_
      first
        | refine s_go GOG_ ?_
          first
            | refine s_val (v_moveC rfl) rfl ?_
            | refine s_val (v_moveA rfl) rfl ?_
            | refine s_val (v_moveT rfl) rfl ?_
        | refine s_no GOG_ rfl ?_
      first
        | refine s_go GOG_ ?_
          first
            | refine s_val (v_moveC rfl) rfl ?_
            | refine s_val (v_moveA rfl) rfl ?_
            | refine s_val (v_moveT rfl) rfl ?_
        | refine s_no GOG_ rfl ?_
      first
        | refine s_go GOG_ ?_
          refine s_val (v_nilP rfl) rfl ?_
        | refine s_no GOG_ rfl ?_
      first
        | refine s_go GOG_ ?_
          refine s_val (v_fieldP rfl (fa_75_0 _ _)) rfl ?_
        | refine s_no GOG_ rfl ?_
      first
        | refine s_go GOG_ ?_
          refine s_val (v_load rfl rfl row_53 LT_ rfl) rfl ?_
        | refine s_no GOG_ rfl ?_
      first
        | refine s_go GOG_ ?_
          first
            | refine s_val (v_lenS rfl Tryz.underlying53) rfl ?_
            | refine s_val (v_lenN rfl Tryz.underlying53) rfl ?_
            | refine s_val (v_lenE rfl Tryz.underlying53) rfl ?_
            | refine s_val (v_lenB rfl Tryz.underlying53 rfl) rfl ?_
            | refine s_val (v_lenZ rfl Tryz.underlying53 rfl) rfl ?_
        | refine s_no GOG_ rfl ?_
      first
        | refine s_go GOG_ ?_
          first
            | refine s_val (v_geqN rfl rfl) rfl ?_
            | refine s_val (v_geqI rfl rfl) rfl ?_
        | refine s_no GOG_ rfl ?_
      first
        | refine s_val (v_pickT rfl PK_ rfl) rfl ?_
        | refine s_val (v_pickF rfl PK_ rfl) rfl ?_
        | refine s_val (v_pickOr rfl rfl rfl) rfl ?_
        | refine s_val (v_pickAnd rfl rfl rfl) rfl ?_
      refine s_nil ?_
      refine S_ ?_
      refine c_region ?_
      refine s_val (v_assignC rfl) rfl ?_
      refine s_nil ?_
      refine S_ ?_
      exact k_1 (by first | exact r_tmpC rfl | exact r_tmpA rfl) (by first | kernel_rfl | rfl)
    · by_cases h2 : (N : Int) ≤ x
      · rw [show hasB N a = false by rw [hB]; simp; omega]
        refine S_ ?_
        refine c_region ?_
        first
          | refine s_val (v_moveC rfl) rfl ?_
          | refine s_val (v_moveA rfl) rfl ?_
          | refine s_val (v_moveT rfl) rfl ?_
        first
          | refine s_val (v_lssN (b := 0) rfl rfl) rfl ?_
          | refine s_val (v_lssI rfl rfl) rfl ?_
        first
          | refine s_val (v_moveC rfl) rfl ?_
          | refine s_val (v_moveA rfl) rfl ?_
          | refine s_val (v_moveT rfl) rfl ?_
        first
          | refine s_go GOG_ ?_
            first
              | refine s_val (v_moveC rfl) rfl ?_
              | refine s_val (v_moveA rfl) rfl ?_
              | refine s_val (v_moveT rfl) rfl ?_
          | refine s_no GOG_ rfl ?_
        first
          | refine s_go GOG_ ?_
            first
              | refine s_val (v_moveC rfl) rfl ?_
              | refine s_val (v_moveA rfl) rfl ?_
              | refine s_val (v_moveT rfl) rfl ?_
          | refine s_no GOG_ rfl ?_
        first
          | refine s_go GOG_ ?_
            refine s_val (v_nilP rfl) rfl ?_
          | refine s_no GOG_ rfl ?_
        first
          | refine s_go GOG_ ?_
            refine s_val (v_fieldP rfl (fa_75_0 _ _)) rfl ?_
          | refine s_no GOG_ rfl ?_
        first
          | refine s_go GOG_ ?_
            refine s_val (v_load rfl rfl row_53 LT_ rfl) rfl ?_
          | refine s_no GOG_ rfl ?_
        first
          | refine s_go GOG_ ?_
            first
              | refine s_val (v_lenS rfl Tryz.underlying53) rfl ?_
              | refine s_val (v_lenN rfl Tryz.underlying53) rfl ?_
              | refine s_val (v_lenE rfl Tryz.underlying53) rfl ?_
              | refine s_val (v_lenB rfl Tryz.underlying53 rfl) rfl ?_
              | refine s_val (v_lenZ rfl Tryz.underlying53 rfl) rfl ?_
          | refine s_no GOG_ rfl ?_
        first
          | refine s_go GOG_ ?_
            first
              | refine s_val (v_geqN rfl rfl) rfl ?_
              | refine s_val (v_geqI rfl rfl) rfl ?_
          | refine s_no GOG_ rfl ?_
        first
          | refine s_val (v_pickT rfl PK_ rfl) rfl ?_
          | refine s_val (v_pickF rfl PK_ rfl) rfl ?_
          | refine s_val (v_pickOr rfl rfl rfl) rfl ?_
          | refine s_val (v_pickAnd rfl rfl rfl) rfl ?_
        refine s_nil ?_
        refine S_ ?_
        refine c_region ?_
        refine s_val (v_assignC rfl) rfl ?_
        refine s_nil ?_
        refine S_ ?_
        exact k_1 (by first | exact r_tmpC rfl | exact r_tmpA rfl) (by first | kernel_rfl | rfl)
      · refine S_ ?_
        refine c_region ?_
        first
          | refine s_val (v_moveC rfl) rfl ?_
          | refine s_val (v_moveA rfl) rfl ?_
          | refine s_val (v_moveT rfl) rfl ?_
        first
          | refine s_val (v_lssN (b := 0) rfl rfl) rfl ?_
          | refine s_val (v_lssI rfl rfl) rfl ?_
        first
          | refine s_val (v_moveC rfl) rfl ?_
          | refine s_val (v_moveA rfl) rfl ?_
          | refine s_val (v_moveT rfl) rfl ?_
        first
          | refine s_go GOG_ ?_
            first
              | refine s_val (v_moveC rfl) rfl ?_
              | refine s_val (v_moveA rfl) rfl ?_
              | refine s_val (v_moveT rfl) rfl ?_
          | refine s_no GOG_ rfl ?_
        first
          | refine s_go GOG_ ?_
            first
              | refine s_val (v_moveC rfl) rfl ?_
              | refine s_val (v_moveA rfl) rfl ?_
              | refine s_val (v_moveT rfl) rfl ?_
          | refine s_no GOG_ rfl ?_
        first
          | refine s_go GOG_ ?_
            refine s_val (v_nilP rfl) rfl ?_
          | refine s_no GOG_ rfl ?_
        first
          | refine s_go GOG_ ?_
            refine s_val (v_fieldP rfl (fa_75_0 _ _)) rfl ?_
          | refine s_no GOG_ rfl ?_
        first
          | refine s_go GOG_ ?_
            refine s_val (v_load rfl rfl row_53 LT_ rfl) rfl ?_
          | refine s_no GOG_ rfl ?_
        first
          | refine s_go GOG_ ?_
            first
              | refine s_val (v_lenS rfl Tryz.underlying53) rfl ?_
              | refine s_val (v_lenN rfl Tryz.underlying53) rfl ?_
              | refine s_val (v_lenE rfl Tryz.underlying53) rfl ?_
              | refine s_val (v_lenB rfl Tryz.underlying53 rfl) rfl ?_
              | refine s_val (v_lenZ rfl Tryz.underlying53 rfl) rfl ?_
          | refine s_no GOG_ rfl ?_
        first
          | refine s_go GOG_ ?_
            first
              | refine s_val (v_geqN rfl rfl) rfl ?_
              | refine s_val (v_geqI rfl rfl) rfl ?_
          | refine s_no GOG_ rfl ?_
        first
          | refine s_val (v_pickT rfl PK_ rfl) rfl ?_
          | refine s_val (v_pickF rfl PK_ rfl) rfl ?_
          | refine s_val (v_pickOr rfl rfl rfl) rfl ?_
          | refine s_val (v_pickAnd rfl rfl rfl) rfl ?_
        refine s_nil ?_
        refine S_ ?_
        refine c_region ?_
        first
          | refine s_val (v_addN (b := 1) rfl rfl (by omega)) rfl ?_
          | refine s_val (v_addI rfl rfl (by omega)) rfl ?_
        first
          | refine s_val (v_moveC rfl) rfl ?_
          | refine s_val (v_moveA rfl) rfl ?_
          | refine s_val (v_moveT rfl) rfl ?_
        refine s_nil ?_
        refine ⟨j + 1, by kernel_rfl, by show m - (j + 1) < m - j; omega, by omega, ?_⟩
        rw [hB, show (decide (0 ≤ x) && decide (x < (N : Int))) = true by simp; omega, Bool.true_and]
  · obtain rfl : j = m := by omega
    rw [show hasB N a = true by rw [hB, ← hm, List.drop_length]; rfl]
    refine S_ ?_
    refine c_region ?_
    first
      | refine s_val (v_lssN rfl rfl) rfl ?_
      | refine s_val (v_lssI rfl rfl) rfl ?_
    refine s_nil ?_
    refine S_ ?_
    refine c_region ?_
    refine s_val (v_assignC rfl) rfl ?_
    refine s_nil ?_
    refine S_ ?_
    exact k_1 (by first | exact r_tmpC rfl | exact r_tmpA rfl) (by first | kernel_rfl | rfl)
set_option maxRecDepth 100000 in
set_option maxHeartbeats 2000000 in
theorem many_ev (k : Int) : Ev Tryz.prog (.call 40 [.c (.val (.int .i64 k))] []) (.val (.tup [.c (.val (.int .i64 ((leastK k : Nat) : Int))), .c (.val (.int .i64 ((mostK k : Nat) : Int)))]) []) := by
  unfold leastK mostK
  by_cases h1 : k = 1
  · simp only [h1, if_true, if_false, Int.reduceEq, or_self, or_false]
    refine c_call Tryz.func40 rfl Tryz.ntmps40 rfl LEN_ ?_
    refine S_ ?_
    refine c_region ?_
    refine s_val (v_assignC rfl) rfl ?_
    refine s_val (v_assignC rfl) rfl ?_
    refine s_nil ?_
    refine S_ ?_
    refine c_region ?_
    first
      | refine s_val (v_moveC rfl) rfl ?_
      | refine s_val (v_moveA rfl) rfl ?_
      | refine s_val (v_moveT rfl) rfl ?_
    refine s_nil ?_
    refine S_ ?_
    refine c_region ?_
    first
      | refine s_val (v_eqlN (b := 1) rfl rfl) rfl ?_
      | refine s_val (v_eqlD rfl rfl) rfl ?_
    first
      | refine s_val (v_assignC rfl) rfl ?_
      | refine s_val (v_assignA rfl) rfl ?_
      | refine s_val (v_assignT rfl) rfl ?_
    refine s_nil ?_
    refine S_ ?_
    refine c_region ?_
    refine s_val (v_assignC rfl) rfl ?_
    refine s_val (v_assignC rfl) rfl ?_
    refine s_nil ?_
    refine S_ ?_
    exact k_2 (by first | exact r_tmpC rfl | exact r_tmpA rfl) (by first | exact r_tmpC rfl | exact r_tmpA rfl) (by first | kernel_rfl | rfl)
  by_cases h2 : k = 2
  · simp only [h2, or_true, if_true, if_false, Int.reduceEq, or_self]
    refine c_call Tryz.func40 rfl Tryz.ntmps40 rfl LEN_ ?_
    refine S_ ?_
    refine c_region ?_
    refine s_val (v_assignC rfl) rfl ?_
    refine s_val (v_assignC rfl) rfl ?_
    refine s_nil ?_
    refine S_ ?_
    refine c_region ?_
    first
      | refine s_val (v_moveC rfl) rfl ?_
      | refine s_val (v_moveA rfl) rfl ?_
      | refine s_val (v_moveT rfl) rfl ?_
    refine s_nil ?_
    refine S_ ?_
    refine c_region ?_
    first
      | refine s_val (v_eqlN (b := 1) rfl rfl) rfl ?_
      | refine s_val (v_eqlD rfl rfl) rfl ?_
    first
      | refine s_val (v_assignC rfl) rfl ?_
      | refine s_val (v_assignA rfl) rfl ?_
      | refine s_val (v_assignT rfl) rfl ?_
    refine s_nil ?_
    refine S_ ?_
    refine c_region ?_
    first
      | refine s_val (v_eqlN (b := 2) rfl rfl) rfl ?_
      | refine s_val (v_eqlD rfl rfl) rfl ?_
    first
      | refine s_val (v_assignC rfl) rfl ?_
      | refine s_val (v_assignA rfl) rfl ?_
      | refine s_val (v_assignT rfl) rfl ?_
    refine s_nil ?_
    refine S_ ?_
    refine c_region ?_
    refine s_val (v_assignC rfl) rfl ?_
    refine s_val (v_assignC rfl) rfl ?_
    refine s_nil ?_
    refine S_ ?_
    exact k_2 (by first | exact r_tmpC rfl | exact r_tmpA rfl) (by first | exact r_tmpC rfl | exact r_tmpA rfl) (by first | kernel_rfl | rfl)
  by_cases h4 : k = 4
  · simp only [h4, if_true, if_false, Int.reduceEq, or_self, or_false]
    refine c_call Tryz.func40 rfl Tryz.ntmps40 rfl LEN_ ?_
    refine S_ ?_
    refine c_region ?_
    refine s_val (v_assignC rfl) rfl ?_
    refine s_val (v_assignC rfl) rfl ?_
    refine s_nil ?_
    refine S_ ?_
    refine c_region ?_
    first
      | refine s_val (v_moveC rfl) rfl ?_
      | refine s_val (v_moveA rfl) rfl ?_
      | refine s_val (v_moveT rfl) rfl ?_
    refine s_nil ?_
    refine S_ ?_
    refine c_region ?_
    first
      | refine s_val (v_eqlN (b := 1) rfl rfl) rfl ?_
      | refine s_val (v_eqlD rfl rfl) rfl ?_
    first
      | refine s_val (v_assignC rfl) rfl ?_
      | refine s_val (v_assignA rfl) rfl ?_
      | refine s_val (v_assignT rfl) rfl ?_
    refine s_nil ?_
    refine S_ ?_
    refine c_region ?_
    first
      | refine s_val (v_eqlN (b := 2) rfl rfl) rfl ?_
      | refine s_val (v_eqlD rfl rfl) rfl ?_
    first
      | refine s_val (v_assignC rfl) rfl ?_
      | refine s_val (v_assignA rfl) rfl ?_
      | refine s_val (v_assignT rfl) rfl ?_
    refine s_nil ?_
    refine S_ ?_
    refine c_region ?_
    first
      | refine s_val (v_eqlN (b := 4) rfl rfl) rfl ?_
      | refine s_val (v_eqlD rfl rfl) rfl ?_
    first
      | refine s_val (v_assignC rfl) rfl ?_
      | refine s_val (v_assignA rfl) rfl ?_
      | refine s_val (v_assignT rfl) rfl ?_
    refine s_nil ?_
    refine S_ ?_
    refine c_region ?_
    refine s_val (v_assignC rfl) rfl ?_
    refine s_val (v_assignC rfl) rfl ?_
    refine s_nil ?_
    refine S_ ?_
    exact k_2 (by first | exact r_tmpC rfl | exact r_tmpA rfl) (by first | exact r_tmpC rfl | exact r_tmpA rfl) (by first | kernel_rfl | rfl)
  by_cases h5 : k = 5
  · simp only [h5, or_true, if_true, if_false, Int.reduceEq, or_self, or_false]
    refine c_call Tryz.func40 rfl Tryz.ntmps40 rfl LEN_ ?_
    refine S_ ?_
    refine c_region ?_
    refine s_val (v_assignC rfl) rfl ?_
    refine s_val (v_assignC rfl) rfl ?_
    refine s_nil ?_
    refine S_ ?_
    refine c_region ?_
    first
      | refine s_val (v_moveC rfl) rfl ?_
      | refine s_val (v_moveA rfl) rfl ?_
      | refine s_val (v_moveT rfl) rfl ?_
    refine s_nil ?_
    refine S_ ?_
    refine c_region ?_
    first
      | refine s_val (v_eqlN (b := 1) rfl rfl) rfl ?_
      | refine s_val (v_eqlD rfl rfl) rfl ?_
    first
      | refine s_val (v_assignC rfl) rfl ?_
      | refine s_val (v_assignA rfl) rfl ?_
      | refine s_val (v_assignT rfl) rfl ?_
    refine s_nil ?_
    refine S_ ?_
    refine c_region ?_
    first
      | refine s_val (v_eqlN (b := 2) rfl rfl) rfl ?_
      | refine s_val (v_eqlD rfl rfl) rfl ?_
    first
      | refine s_val (v_assignC rfl) rfl ?_
      | refine s_val (v_assignA rfl) rfl ?_
      | refine s_val (v_assignT rfl) rfl ?_
    refine s_nil ?_
    refine S_ ?_
    refine c_region ?_
    first
      | refine s_val (v_eqlN (b := 4) rfl rfl) rfl ?_
      | refine s_val (v_eqlD rfl rfl) rfl ?_
    first
      | refine s_val (v_assignC rfl) rfl ?_
      | refine s_val (v_assignA rfl) rfl ?_
      | refine s_val (v_assignT rfl) rfl ?_
    refine s_nil ?_
    refine S_ ?_
    refine c_region ?_
    first
      | refine s_val (v_eqlN (b := 5) rfl rfl) rfl ?_
      | refine s_val (v_eqlD rfl rfl) rfl ?_
    first
      | refine s_val (v_assignC rfl) rfl ?_
      | refine s_val (v_assignA rfl) rfl ?_
      | refine s_val (v_assignT rfl) rfl ?_
    refine s_nil ?_
    refine S_ ?_
    refine c_region ?_
    refine s_val (v_assignC rfl) rfl ?_
    refine s_val (v_assignC rfl) rfl ?_
    refine s_nil ?_
    refine S_ ?_
    exact k_2 (by first | exact r_tmpC rfl | exact r_tmpA rfl) (by first | exact r_tmpC rfl | exact r_tmpA rfl) (by first | kernel_rfl | rfl)
  by_cases h6 : k = 6
  · simp only [h6, or_true, if_true, if_false, Int.reduceEq, or_self, or_false]
    refine c_call Tryz.func40 rfl Tryz.ntmps40 rfl LEN_ ?_
    refine S_ ?_
    refine c_region ?_
    refine s_val (v_assignC rfl) rfl ?_
    refine s_val (v_assignC rfl) rfl ?_
    refine s_nil ?_
    refine S_ ?_
    refine c_region ?_
    first
      | refine s_val (v_moveC rfl) rfl ?_
      | refine s_val (v_moveA rfl) rfl ?_
      | refine s_val (v_moveT rfl) rfl ?_
    refine s_nil ?_
    refine S_ ?_
    refine c_region ?_
    first
      | refine s_val (v_eqlN (b := 1) rfl rfl) rfl ?_
      | refine s_val (v_eqlD rfl rfl) rfl ?_
    first
      | refine s_val (v_assignC rfl) rfl ?_
      | refine s_val (v_assignA rfl) rfl ?_
      | refine s_val (v_assignT rfl) rfl ?_
    refine s_nil ?_
    refine S_ ?_
    refine c_region ?_
    first
      | refine s_val (v_eqlN (b := 2) rfl rfl) rfl ?_
      | refine s_val (v_eqlD rfl rfl) rfl ?_
    first
      | refine s_val (v_assignC rfl) rfl ?_
      | refine s_val (v_assignA rfl) rfl ?_
      | refine s_val (v_assignT rfl) rfl ?_
    refine s_nil ?_
    refine S_ ?_
    refine c_region ?_
    first
      | refine s_val (v_eqlN (b := 4) rfl rfl) rfl ?_
      | refine s_val (v_eqlD rfl rfl) rfl ?_
    first
      | refine s_val (v_assignC rfl) rfl ?_
      | refine s_val (v_assignA rfl) rfl ?_
      | refine s_val (v_assignT rfl) rfl ?_
    refine s_nil ?_
    refine S_ ?_
    refine c_region ?_
    first
      | refine s_val (v_eqlN (b := 5) rfl rfl) rfl ?_
      | refine s_val (v_eqlD rfl rfl) rfl ?_
    first
      | refine s_val (v_assignC rfl) rfl ?_
      | refine s_val (v_assignA rfl) rfl ?_
      | refine s_val (v_assignT rfl) rfl ?_
    refine s_nil ?_
    refine S_ ?_
    refine c_region ?_
    first
      | refine s_val (v_eqlN (b := 6) rfl rfl) rfl ?_
      | refine s_val (v_eqlD rfl rfl) rfl ?_
    first
      | refine s_val (v_assignC rfl) rfl ?_
      | refine s_val (v_assignA rfl) rfl ?_
      | refine s_val (v_assignT rfl) rfl ?_
    refine s_nil ?_
    refine S_ ?_
    refine c_region ?_
    refine s_val (v_assignC rfl) rfl ?_
    refine s_val (v_assignC rfl) rfl ?_
    refine s_nil ?_
    refine S_ ?_
    exact k_2 (by first | exact r_tmpC rfl | exact r_tmpA rfl) (by first | exact r_tmpC rfl | exact r_tmpA rfl) (by first | kernel_rfl | rfl)
  by_cases h8 : k = 8
  · simp only [h8, or_true, if_true, if_false, Int.reduceEq, or_self]
    refine c_call Tryz.func40 rfl Tryz.ntmps40 rfl LEN_ ?_
    refine S_ ?_
    refine c_region ?_
    refine s_val (v_assignC rfl) rfl ?_
    refine s_val (v_assignC rfl) rfl ?_
    refine s_nil ?_
    refine S_ ?_
    refine c_region ?_
    first
      | refine s_val (v_moveC rfl) rfl ?_
      | refine s_val (v_moveA rfl) rfl ?_
      | refine s_val (v_moveT rfl) rfl ?_
    refine s_nil ?_
    refine S_ ?_
    refine c_region ?_
    first
      | refine s_val (v_eqlN (b := 1) rfl rfl) rfl ?_
      | refine s_val (v_eqlD rfl rfl) rfl ?_
    first
      | refine s_val (v_assignC rfl) rfl ?_
      | refine s_val (v_assignA rfl) rfl ?_
      | refine s_val (v_assignT rfl) rfl ?_
    refine s_nil ?_
    refine S_ ?_
    refine c_region ?_
    first
      | refine s_val (v_eqlN (b := 2) rfl rfl) rfl ?_
      | refine s_val (v_eqlD rfl rfl) rfl ?_
    first
      | refine s_val (v_assignC rfl) rfl ?_
      | refine s_val (v_assignA rfl) rfl ?_
      | refine s_val (v_assignT rfl) rfl ?_
    refine s_nil ?_
    refine S_ ?_
    refine c_region ?_
    first
      | refine s_val (v_eqlN (b := 4) rfl rfl) rfl ?_
      | refine s_val (v_eqlD rfl rfl) rfl ?_
    first
      | refine s_val (v_assignC rfl) rfl ?_
      | refine s_val (v_assignA rfl) rfl ?_
      | refine s_val (v_assignT rfl) rfl ?_
    refine s_nil ?_
    refine S_ ?_
    refine c_region ?_
    first
      | refine s_val (v_eqlN (b := 5) rfl rfl) rfl ?_
      | refine s_val (v_eqlD rfl rfl) rfl ?_
    first
      | refine s_val (v_assignC rfl) rfl ?_
      | refine s_val (v_assignA rfl) rfl ?_
      | refine s_val (v_assignT rfl) rfl ?_
    refine s_nil ?_
    refine S_ ?_
    refine c_region ?_
    first
      | refine s_val (v_eqlN (b := 6) rfl rfl) rfl ?_
      | refine s_val (v_eqlD rfl rfl) rfl ?_
    first
      | refine s_val (v_assignC rfl) rfl ?_
      | refine s_val (v_assignA rfl) rfl ?_
      | refine s_val (v_assignT rfl) rfl ?_
    refine s_nil ?_
    refine S_ ?_
    refine c_region ?_
    first
      | refine s_val (v_eqlN (b := 8) rfl rfl) rfl ?_
      | refine s_val (v_eqlD rfl rfl) rfl ?_
    first
      | refine s_val (v_assignC rfl) rfl ?_
      | refine s_val (v_assignA rfl) rfl ?_
      | refine s_val (v_assignT rfl) rfl ?_
    refine s_nil ?_
    refine S_ ?_
    refine c_region ?_
    refine s_val (v_assignC rfl) rfl ?_
    refine s_val (v_assignC rfl) rfl ?_
    refine s_nil ?_
    refine S_ ?_
    exact k_2 (by first | exact r_tmpC rfl | exact r_tmpA rfl) (by first | exact r_tmpC rfl | exact r_tmpA rfl) (by first | kernel_rfl | rfl)
  by_cases h7 : k = 7
  · simp only [h7, if_true, if_false, Int.reduceEq, or_self]
    refine c_call Tryz.func40 rfl Tryz.ntmps40 rfl LEN_ ?_
    refine S_ ?_
    refine c_region ?_
    refine s_val (v_assignC rfl) rfl ?_
    refine s_val (v_assignC rfl) rfl ?_
    refine s_nil ?_
    refine S_ ?_
    refine c_region ?_
    first
      | refine s_val (v_moveC rfl) rfl ?_
      | refine s_val (v_moveA rfl) rfl ?_
      | refine s_val (v_moveT rfl) rfl ?_
    refine s_nil ?_
    refine S_ ?_
    refine c_region ?_
    first
      | refine s_val (v_eqlN (b := 1) rfl rfl) rfl ?_
      | refine s_val (v_eqlD rfl rfl) rfl ?_
    first
      | refine s_val (v_assignC rfl) rfl ?_
      | refine s_val (v_assignA rfl) rfl ?_
      | refine s_val (v_assignT rfl) rfl ?_
    refine s_nil ?_
    refine S_ ?_
    refine c_region ?_
    first
      | refine s_val (v_eqlN (b := 2) rfl rfl) rfl ?_
      | refine s_val (v_eqlD rfl rfl) rfl ?_
    first
      | refine s_val (v_assignC rfl) rfl ?_
      | refine s_val (v_assignA rfl) rfl ?_
      | refine s_val (v_assignT rfl) rfl ?_
    refine s_nil ?_
    refine S_ ?_
    refine c_region ?_
    first
      | refine s_val (v_eqlN (b := 4) rfl rfl) rfl ?_
      | refine s_val (v_eqlD rfl rfl) rfl ?_
    first
      | refine s_val (v_assignC rfl) rfl ?_
      | refine s_val (v_assignA rfl) rfl ?_
      | refine s_val (v_assignT rfl) rfl ?_
    refine s_nil ?_
    refine S_ ?_
    refine c_region ?_
    first
      | refine s_val (v_eqlN (b := 5) rfl rfl) rfl ?_
      | refine s_val (v_eqlD rfl rfl) rfl ?_
    first
      | refine s_val (v_assignC rfl) rfl ?_
      | refine s_val (v_assignA rfl) rfl ?_
      | refine s_val (v_assignT rfl) rfl ?_
    refine s_nil ?_
    refine S_ ?_
    refine c_region ?_
    first
      | refine s_val (v_eqlN (b := 6) rfl rfl) rfl ?_
      | refine s_val (v_eqlD rfl rfl) rfl ?_
    first
      | refine s_val (v_assignC rfl) rfl ?_
      | refine s_val (v_assignA rfl) rfl ?_
      | refine s_val (v_assignT rfl) rfl ?_
    refine s_nil ?_
    refine S_ ?_
    refine c_region ?_
    first
      | refine s_val (v_eqlN (b := 8) rfl rfl) rfl ?_
      | refine s_val (v_eqlD rfl rfl) rfl ?_
    first
      | refine s_val (v_assignC rfl) rfl ?_
      | refine s_val (v_assignA rfl) rfl ?_
      | refine s_val (v_assignT rfl) rfl ?_
    refine s_nil ?_
    refine S_ ?_
    refine c_region ?_
    first
      | refine s_val (v_eqlN (b := 7) rfl rfl) rfl ?_
      | refine s_val (v_eqlD rfl rfl) rfl ?_
    first
      | refine s_val (v_assignC rfl) rfl ?_
      | refine s_val (v_assignA rfl) rfl ?_
      | refine s_val (v_assignT rfl) rfl ?_
    refine s_nil ?_
    refine S_ ?_
    refine c_region ?_
    refine s_val (v_assignC rfl) rfl ?_
    refine s_val (v_assignC rfl) rfl ?_
    refine s_nil ?_
    refine S_ ?_
    exact k_2 (by first | exact r_tmpC rfl | exact r_tmpA rfl) (by first | exact r_tmpC rfl | exact r_tmpA rfl) (by first | kernel_rfl | rfl)
  simp only [h1, h2, h4, h5, h6, h8, h7, or_self, if_false]
  refine c_call Tryz.func40 rfl Tryz.ntmps40 rfl LEN_ ?_
  refine S_ ?_
  refine c_region ?_
  refine s_val (v_assignC rfl) rfl ?_
  refine s_val (v_assignC rfl) rfl ?_
  refine s_nil ?_
  refine S_ ?_
  refine c_region ?_
  first
    | refine s_val (v_moveC rfl) rfl ?_
    | refine s_val (v_moveA rfl) rfl ?_
    | refine s_val (v_moveT rfl) rfl ?_
  refine s_nil ?_
  refine S_ ?_
  refine c_region ?_
  first
    | refine s_val (v_eqlN (b := 1) rfl rfl) rfl ?_
    | refine s_val (v_eqlD rfl rfl) rfl ?_
  first
    | refine s_val (v_assignC rfl) rfl ?_
    | refine s_val (v_assignA rfl) rfl ?_
    | refine s_val (v_assignT rfl) rfl ?_
  refine s_nil ?_
  refine S_ ?_
  refine c_region ?_
  first
    | refine s_val (v_eqlN (b := 2) rfl rfl) rfl ?_
    | refine s_val (v_eqlD rfl rfl) rfl ?_
  first
    | refine s_val (v_assignC rfl) rfl ?_
    | refine s_val (v_assignA rfl) rfl ?_
    | refine s_val (v_assignT rfl) rfl ?_
  refine s_nil ?_
  refine S_ ?_
  refine c_region ?_
  first
    | refine s_val (v_eqlN (b := 4) rfl rfl) rfl ?_
    | refine s_val (v_eqlD rfl rfl) rfl ?_
  first
    | refine s_val (v_assignC rfl) rfl ?_
    | refine s_val (v_assignA rfl) rfl ?_
    | refine s_val (v_assignT rfl) rfl ?_
  refine s_nil ?_
  refine S_ ?_
  refine c_region ?_
  first
    | refine s_val (v_eqlN (b := 5) rfl rfl) rfl ?_
    | refine s_val (v_eqlD rfl rfl) rfl ?_
  first
    | refine s_val (v_assignC rfl) rfl ?_
    | refine s_val (v_assignA rfl) rfl ?_
    | refine s_val (v_assignT rfl) rfl ?_
  refine s_nil ?_
  refine S_ ?_
  refine c_region ?_
  first
    | refine s_val (v_eqlN (b := 6) rfl rfl) rfl ?_
    | refine s_val (v_eqlD rfl rfl) rfl ?_
  first
    | refine s_val (v_assignC rfl) rfl ?_
    | refine s_val (v_assignA rfl) rfl ?_
    | refine s_val (v_assignT rfl) rfl ?_
  refine s_nil ?_
  refine S_ ?_
  refine c_region ?_
  first
    | refine s_val (v_eqlN (b := 8) rfl rfl) rfl ?_
    | refine s_val (v_eqlD rfl rfl) rfl ?_
  first
    | refine s_val (v_assignC rfl) rfl ?_
    | refine s_val (v_assignA rfl) rfl ?_
    | refine s_val (v_assignT rfl) rfl ?_
  refine s_nil ?_
  refine S_ ?_
  refine c_region ?_
  first
    | refine s_val (v_eqlN (b := 7) rfl rfl) rfl ?_
    | refine s_val (v_eqlD rfl rfl) rfl ?_
  first
    | refine s_val (v_assignC rfl) rfl ?_
    | refine s_val (v_assignA rfl) rfl ?_
    | refine s_val (v_assignT rfl) rfl ?_
  refine s_nil ?_
  refine S_ ?_
  refine c_region ?_
  refine s_val (v_assignC rfl) rfl ?_
  refine s_val (v_assignC rfl) rfl ?_
  refine s_nil ?_
  refine S_ ?_
  exact k_2 (by first | exact r_tmpC rfl | exact r_tmpA rfl) (by first | exact r_tmpC rfl | exact r_tmpA rfl) (by first | kernel_rfl | rfl)
end Go.Proofs.YtmbepikkgkcgkaaGreatDoor
