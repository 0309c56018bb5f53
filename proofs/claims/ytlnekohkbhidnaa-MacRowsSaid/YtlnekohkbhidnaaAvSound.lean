/- Abstract data: what the rules tell, the machine does. -/
import Derived.Test.YtlnekohkbhidnaaAvView
namespace Go.Proofs.Ytlnekohkbhidnaa
open Go.RowKit

theorem ev64_spec {f : BitVec 64 → BitVec 64 → BitVec 64 → AV} {l : List AV} {v : AV} (h : ev64 f l = some v) : ∃ x y z : BitVec 64, l = [.c (.val (U64 x)), .c (.val (U64 y)), .c (.val (U64 z))] ∧ z.toNat ≤ 1 ∧ v = f x y z := by
  unfold ev64 at h
  split at h
  · rename_i a b c
    split at h
    · rename_i x y z hx hy hz
      split at h
      · rename_i hc
        cases h
        rw [w64?_some hx, w64?_some hy, w64?_some hz]
        exact ⟨x, y, z, rfl, hc, rfl⟩
      · cases h
    · cases h
  · cases h
theorem run_addE (P : Program) (x y c : BitVec 64) (hc : c.toNat ≤ 1) (w : World) : (add64Entry #[U64 x, U64 y, U64 c]).run P w = .ok (.tuple #[U64 (x + y + c), U64 (addC x y c)]) w := by
  have hx := x.isLt; have hy := y.isLt
  have h := run_add64 (P := P) (x.toNat : Int) (y.toNat : Int) (c.toNat : Int) (by omega) (by omega) (by omega) (by omega) w
  have e1 : ((x.toNat : Int) + (y.toNat : Int) + (c.toNat : Int)) % 18446744073709551616 = tn (x + y + c) := by
    unfold tn; simp only [BitVec.toNat_add]; omega
  have e2 : ((x.toNat : Int) + (y.toNat : Int) + (c.toNat : Int)) / 18446744073709551616 = tn (addC x y c) := by
    unfold tn addC; rw [BitVec.toNat_ofNat]; omega
  rw [e1, e2] at h
  exact h
theorem run_subE (P : Program) (x y c : BitVec 64) (hc : c.toNat ≤ 1) (w : World) : (sub64Entry #[U64 x, U64 y, U64 c]).run P w = .ok (.tuple #[U64 (x - y - c), U64 (subC x y c)]) w := by
  have hx := x.isLt; have hy := y.isLt
  have key : ∀ k : Nat, k ≤ 1 → (sub64Entry #[.int .u64 (x.toNat : Int), .int .u64 (y.toNat : Int), .int .u64 (k : Int)]).run P w =
      .ok (Extern.MathBitsCarry.pair ((x.toNat + Extern.MathBitsCarry.m64 - y.toNat - k) % Extern.MathBitsCarry.m64) (if x.toNat < y.toNat + k then 1 else 0)) w := by
    intro k hk
    have : k = 0 ∨ k = 1 := by omega
    rcases this with rfl | rfl <;> rfl
  have h := key c.toNat hc
  have e1 : (x.toNat + Extern.MathBitsCarry.m64 - y.toNat - c.toNat) % Extern.MathBitsCarry.m64 = (x - y - c).toNat := by
    simp only [Extern.MathBitsCarry.m64, BitVec.toNat_sub]
    omega
  have e2 : (if x.toNat < y.toNat + c.toNat then 1 else 0) = (subC x y c).toNat := by
    unfold subC; split <;> rfl
  rw [e1, e2] at h
  exact h
theorem ext_good {P : Program} {c : Call} {e : Operand → AV} {ρ : Operand → Value} {O : Oper} {f : FuncId} {E : Array Value → Sem Value} (hO : O.op = .call c) (hc : c.callee = .value (.func f)) (he : e (.func f) = .c (.val (.func (.func f) #[] #[]))) (hf : ExtIs P f E) {ι : Emb} {m : Mem} {w : World} (hR : R ι m w)
    (hρ : ∀ x ∈ (Op.call c).operands, (e x).rel ι (ρ x)) {v : AV} {u : Value} (hu : (E (c.args.map ρ)).run P w = .ok u w) (hv : v.rel ι u) : OpGood P ρ O ι m w v m := by
  obtain ⟨fn, h1, h2, h3, h4, h5⟩ := hf.h
  have hfv : ρ (.func f) = .func (.func f) #[] #[] := by
    have := hρ (.func f) (by simp [Op.operands, Call.operands, hc])
    rw [he] at this
    exact this
  refine .inl ⟨u, w, ι, .inl ?_, hv, Step.refl hR (Nat.le_refl _)⟩
  have hcall := run_callFunc_extern (P := P) h1 h2 h3 h4 h5 (c.args.map ρ) w
  simp [execOp, hO, resolve, hc, hfv, Deferred.ofValue, invoke, hcall, hu]
theorem args3 {ι : Emb} {e : Operand → AV} {ρ : Operand → Value} {c : Call} (hρ : ∀ x ∈ (Op.call c).operands, (e x).rel ι (ρ x)) {x y z : Value} (h : c.args.toList.map e = [.c (.val x), .c (.val y), .c (.val z)]) : c.args.map ρ = #[x, y, z] := by
  have hm : ∀ o ∈ c.args.toList, (e o).rel ι (ρ o) := fun o ho => hρ o (by simp [Op.operands, Call.operands]; exact .inr (by simpa using ho))
  apply Array.ext'
  rw [Array.toList_map]
  generalize c.args.toList = l at *
  obtain ⟨a, b, d, rfl⟩ : ∃ a b d, l = [a, b, d] := by
    have hl : l.length = 3 := by have := congrArg List.length h; simpa using this
    cases l with
    | nil => simp at hl
    | cons a l => cases l with
      | nil => simp at hl
      | cons b l => cases l with
        | nil => simp at hl
        | cons d l => cases l with
          | nil => exact ⟨a, b, d, rfl⟩
          | cons _ _ => simp at hl
  · simp only [List.map_cons, List.map_nil, List.cons.injEq, and_true] at h
    obtain ⟨h1, h2, h3⟩ := h
    have k1 := hm a (by simp); rw [h1] at k1
    have k2 := hm b (by simp); rw [h2] at k2
    have k3 := hm d (by simp); rw [h3] at k3
    have k1' : ρ a = x := k1
    have k2' : ρ b = y := k2
    have k3' : ρ d = z := k3
    simp [k1', k2', k3']
theorem argsRel_ren {ρr : Nat → Option Nat} {ι ι' : Emb} (hs : Same ρr ι ι') {e : Operand → AV} {ρ : Operand → Value} : ∀ (l : List Operand), (∀ x ∈ l, (e x).rel ι (ρ x)) → ArgsRel ι' ((l.map e).map (AV.ren ρr)) (l.map ρ)
  | [], _ => trivial
  | x :: l, h => ⟨AV.ren_rel hs (h x List.mem_cons_self), argsRel_ren hs l fun y hy => h y (List.mem_cons_of_mem _ hy)⟩
theorem canon_spec {k : Nat} {roots : List AV} {M m : Mem} {vs : List AV} {ids : List Nat} (h : canon k roots M = some (vs, m, ids)) : canOk k M ids = true ∧ vs = roots.map (AV.ren (canRen k ids)) ∧ m = canMem k M ids := by
  unfold canon at h
  simp only at h
  split at h
  · rename_i hc; cases h; exact ⟨hc, rfl, rfl⟩
  · cases h
theorem argsRel_len {ι : Emb} : ∀ {l : List AV} {m : List Value}, ArgsRel ι l m → l.length = m.length
  | [], [], _ => rfl
  | a :: l, v :: m, h => by simp [argsRel_len h.2]
  | [], _ :: _, h => h.elim
  | _ :: _, [], h => h.elim
theorem argsRel_get {ι : Emb} : ∀ {l : List AV} {m : List Value}, ArgsRel ι l m → ∀ i : Nat, (l.getD i (.c .any)).rel ι (m.getD i undef)
  | [], [], _, i => by simp; trivial
  | a :: l, v :: m, h, i => by
    cases i with
    | zero => simpa using h.1
    | succ i => simpa using argsRel_get h.2 i
  | [], _ :: _, h, _ => h.elim
  | _ :: _, [], h, _ => h.elim
theorem keepT_rel {ι : Emb} {a : Act} {ρr : Nat → Option Nat} : ∀ (keep : List Nat) (t : Nat → AV), (∀ i ∈ keep, ((t i).ren ρr).rel ι (a.tmps.getD i undef)) → ∀ i, (keepT keep ((keep.map t).map (AV.ren ρr)) i).rel ι (a.tmps.getD i undef)
  | [], _, _, i => trivial
  | x :: l, t, h, i => by
    show (upd (keepT l ((l.map t).map (AV.ren ρr))) x ((t x).ren ρr) i).rel ι _
    by_cases e : i = x
    · subst e; rw [upd_eq]; exact h i List.mem_cons_self
    · rw [upd_ne _ _ e]; exact keepT_rel l t (fun j hj => h j (List.mem_cons_of_mem _ hj)) i
theorem clean_sound {k : Nat} {keep : List Nat} {s s1 : St} (h : clean k keep s = some s1) {ι : Emb} {w : World} {a : Act} (hR : R ι s.m w) (hf : FRel ι s a) : ∃ ι', FRel ι' s1 a ∧ Step k ι s.m w ι' s1.m w ∧ k ≤ s1.m.length := by
  unfold clean at h
  split at h
  · rename_i vs m ids hc
    cases h
    obtain ⟨hok, rfl, rfl⟩ := canon_spec hc
    have hst := canon_step hok hR
    refine ⟨canEmb k ids ι, ⟨hf.size, fun t => ?_⟩, hst, hst.len⟩
    exact keepT_rel keep s.t (fun i _ => AV.ren_rel (can_same k ids ι) (hf.rel i)) t
  · cases h
theorem resOne_sound {P : Program} {s : St} {r : ResultVar} {v : AV} (h : resOne P s r = some v) {ι : Emb} {w : World} {a : Act} (hR : R ι s.m w) (hf : FRel ι s a) :
    ∃ u, (match r with | .tmp t => pure (a.tmps.getD t undef) | .cell p t => do loadVar t (← asAddr (a.tmps.getD p undef)) : Sem Value).run P w = .ok u w ∧ v.rel0 ι u := by
  cases r with
  | tmp t =>
    refine ⟨a.tmps.getD t undef, rfl, ?_⟩
    have := hf.rel t
    unfold resOne at h
    split at h
    · rename_i heq; cases heq
      split at h
      · cases h
      · rename_i hne
        cases h
        cases hst : s.t t with
        | c x => rw [hst] at this; exact this
        | agg x => rw [hst] at this; exact this
        | tup l => exact absurd hst (hne l)
    · rename_i heq; cases heq
  | cell p ty =>
    unfold resOne at h
    split at h
    · rename_i heq; cases heq
    · rename_i heq
      cases heq
      split at h
      · rename_i b o hp
        split at h
        · rename_i own x hm
          have := hf.rel p
          rw [hp] at this
          obtain ⟨l, hb, hv⟩ := this
          obtain ⟨cs, t', fr, k1, k2, k3, k4⟩ := hR.rows b l own x hb hm
          obtain ⟨u, hu, hr⟩ := run_loadPart h k1 k3
          refine ⟨u, ?_, hr⟩
          show (do loadVar ty (← asAddr (a.tmps.getD p undef)) : Sem Value).run P w = _
          rw [hv]
          simp only [asAddr, Sem.run_bind, Sem.run_pure, Result.andThen_ok, hu]
        · cases h
      · cases h
theorem resList_sound {P : Program} {s : St} {ι : Emb} {w : World} {a : Act} (hR : R ι s.m w) (hf : FRel ι s a) : ∀ {rs : List ResultVar} {vs : List AV}, resList P s rs = some vs →
    ∃ us : List Value, (rs.mapM (fun r => (match r with | .tmp t => pure (a.tmps.getD t undef) | .cell p t => do loadVar t (← asAddr (a.tmps.getD p undef)) : Sem Value))).run P w = .ok us w ∧ us.length = vs.length ∧ ∀ (i : Nat) (x : AV) (u : Value), vs[i]? = some x → us[i]? = some u → x.rel0 ι u
  | [], vs, h => by
    simp only [resList, Option.some.injEq] at h
    subst h
    exact ⟨[], by simp, rfl, fun i x u h => by simp at h⟩
  | r :: l, vs, h => by
    unfold resList at h
    split at h
    · rename_i v vs' hv hvs
      cases h
      obtain ⟨u, hu, hr⟩ := resOne_sound hv hR hf
      obtain ⟨us, hus, hl, hrs⟩ := resList_sound hR hf hvs
      refine ⟨u :: us, ?_, by simp [hl], fun i x y hx hy => ?_⟩
      · rw [List.mapM_cons]
        simp only [Sem.run_bind, hu, Result.andThen_ok, hus, Sem.run_pure]
      · cases i with
        | zero => simp at hx hy; subst hx; subst hy; exact hr
        | succ i => exact hrs i x y (by simpa using hx) (by simpa using hy)
    · cases h
theorem results_sound {P : Program} {fn : Func} {s : St} {vs : List AV} (h : resList P s fn.results.toList = some vs) {ι : Emb} {w : World} {a : Act} (hR : R ι s.m w) (hf : FRel ι s a) : ∃ u, (results fn a.tmps).run P w = .ok u w ∧ (resV vs).rel ι u := by
  obtain ⟨us, hus, hl, hr⟩ := resList_sound hR hf h
  have hmap : (fn.results.mapM (fun r => (match r with | .tmp t => pure (a.tmps.getD t undef) | .cell p t => do loadVar t (← asAddr (a.tmps.getD p undef)) : Sem Value))).run P w = .ok us.toArray w := by
    have e : fn.results = fn.results.toList.toArray := by simp
    rw [e, List.mapM_toArray, Sem.run_map, hus]
    rfl
  refine ⟨if h : us.toArray.size = 1 then us.toArray[0] else .tuple us.toArray, ?_, ?_⟩
  · unfold results
    rw [Sem.run_bind]
    erw [hmap]
    rfl
  · match vs, us, hl, hr with
    | [v], [u], _, hr => exact AV.rel_of0 (hr 0 v u rfl rfl)
    | [], [], _, _ => exact ⟨#[], rfl, rfl, fun i x u h => by simp at h⟩
    | v :: v' :: vs, u :: u' :: us, hl, hr =>
      rw [dif_neg (by simp)]
      exact ⟨(u :: u' :: us).toArray, rfl, by simpa using hl, fun i x y hx hy => hr i x y hx (by simpa using hy)⟩
theorem frel0 {ι : Emb} {args : List AV} {vs : Array Value} {n : Nat} (h : ArgsRel ι args vs.toList) (hn : args.length ≤ n) (m : Mem) : FRel ι ⟨n, argT args, m⟩ { tmps := vs ++ Array.replicate (n - vs.size) undef, defers := [] } := by
  have hl := argsRel_len h
  refine ⟨by simp; rw [← Array.length_toList, ← hl]; omega, fun t => ?_⟩
  have hg := argsRel_get h t
  show (args.getD t (.c .any)).rel ι _
  have e : (vs ++ Array.replicate (n - vs.size) undef).getD t undef = vs.toList.getD t undef := by
    rw [Array.getD_eq_getD_getElem?, List.getD_eq_getElem?_getD, Array.getElem?_toList]
    by_cases ht : t < vs.size
    · rw [Array.getElem?_append_left ht]
    · rw [Array.getElem?_append_right (by omega), Array.getElem?_eq_none (show vs.size ≤ t by omega)]
      by_cases h2 : t - vs.size < n - vs.size
      · simp [h2]
      · rw [Array.getElem?_eq_none (by simp; omega)]
  rw [e]; exact hg
theorem out_ne {e : Ex} (h : e ≠ .normal) : e.out ≠ .normal := by cases e <;> simp_all [Ex.out]
/-- **WHAT THE RULES TELL, THE MACHINE DOES.** -/
theorem sound {P : Program} {t : Task} {r : Res} (h : Ev P t r) : Sound P t r := by
  induction h with
  | val h =>
    intro O ι w ρ hO hR hρ
    subst hO
    obtain ⟨u, hu, hv⟩ := evVal_sound h hR hρ
    exact .inl ⟨u, w, ι, .inl hu, hv, Step.refl hR (Nat.le_refl _)⟩
  | mem h =>
    intro O ι w ρ hO hR hρ
    subst hO
    exact .inl (evMem_sound h hR hρ)
  | @fn c e m args mc bs v mc' f hc he hf hin h ih =>
    intro O ι w ρ hO hR hρ
    obtain ⟨hok, rfl, rfl⟩ := canon_spec hin
    have hst := canon_step hok hR
    have hlen : (canMem 0 m bs).length = bs.length := by simp [canMem]
    have hfv : ρ (.func f) = .func (.func f) #[] #[] := by
      have := hρ (.func f) (by simp [Op.operands, Call.operands, hc])
      rw [he] at this
      exact this
    have hargs := argsRel_ren (can_same 0 bs ι) (e := e) (ρ := ρ) c.args.toList fun x hx => hρ x (by simp [Op.operands, Call.operands]; exact .inr (by simpa using hx))
    have hcall := ih (canEmb 0 bs ι) w (c.args.map ρ) hst.r (by rw [Array.toList_map]; exact hargs)
    refine .inr ⟨f, c.args.map ρ, ?_, hcall.mono fun e' w' hq => ?_⟩
    · cases hfn : P.funcs[f]? with
      | none => rw [hfn] at hf; cases hf
      | some fn =>
        rw [hfn] at hf
        simp only [Option.any_some, Bool.and_eq_true, Bool.not_eq_true'] at hf
        have h1 : fn.body.isNone = false := by have := hf.1; cases hb : fn.body <;> simp_all
        have h2 : (fn.name == "runtime.NumGoroutine") = false := hf.2
        have h1' : ¬ fn.body = none := by intro e0; rw [e0] at h1; cases h1
        have h2' : ¬ fn.name = "runtime.NumGoroutine" := by simpa using h2
        simp [execOp, hO, resolve, hc, hfv, Deferred.ofValue, invoke, callFunc, hfn, h1', h2']
    · obtain ⟨u, ι', rfl, hv, hs⟩ := hq
      rw [hlen] at hs
      obtain ⟨h1, h2⟩ := link_sound hok hR hs hv
      exact ⟨u, _, rfl, h1, h2⟩
  | @add64 c e m v f hc he hf h =>
    intro O ι w ρ hO hR hρ
    obtain ⟨x, y, z, hl, hz, rfl⟩ := ev64_spec h
    have ha := args3 hρ hl
    refine ext_good hO hc he hf hR hρ (u := .tuple #[U64 (x + y + z), U64 (addC x y z)]) (by rw [ha]; exact run_addE P x y z hz w) ⟨#[U64 (x + y + z), U64 (addC x y z)], rfl, rfl, fun i a u hi hu => ?_⟩
    match i, hi, hu with
    | 0, hi, hu => cases hi; cases hu; rfl
    | 1, hi, hu => cases hi; cases hu; rfl
    | i + 2, hi, hu => simp at hi
  | @sub64 c e m v f hc he hf h =>
    intro O ι w ρ hO hR hρ
    obtain ⟨x, y, z, hl, hz, rfl⟩ := ev64_spec h
    have ha := args3 hρ hl
    refine ext_good hO hc he hf hR hρ (u := .tuple #[U64 (x - y - z), U64 (subC x y z)]) (by rw [ha]; exact run_subE P x y z hz w) ⟨#[U64 (x - y - z), U64 (subC x y z)], rfl, rfl, fun i a u hi hu => ?_⟩
    match i, hi, hu with
    | 0, hi, hu => cases hi; cases hu; rfl
    | 1, hi, hu => cases hi; cases hu; rfl
    | i + 2, hi, hu => simp at hi
  | nil => exact fun _ ι w a hk hR hf Q hQ => hQ ι a w hf rfl (Step.refl hR hk)
  | @cons k ops o l s v m' r hw hd h hk ih1 ih2 =>
    intro _ ι w a hk' hR hf Q hQ
    have hwant := wanted_rel (fun d _ => hf.rel d) hw
    unfold wpList
    rw [if_pos hwant]
    refine .inl ((ih1 o ι w a.eval rfl hR fun x _ => opnd_rel hf x).wp rfl fun u w' ι' hv hst => ?_)
    have hf' : FRel ι' ⟨s.n, putT s.t o.dst v, m'⟩ (a.put o.dst u) := (hf.mono (hst.le hR) s.m).put hd hv m'
    refine ih2 rfl ι' w' _ (Nat.le_trans hk' hst.len) hst.r hf' Q fun ι2 a2 w2 g1 g2 g3 => hQ ι2 a2 w2 g1 (by rw [g2]; cases o.dst <;> rfl) ((hst.low hk').comp g3)
  | @skip k ops o l s r hw hd hk ih =>
    intro _ ι w a hk' hR hf Q hQ
    have hwant := wanted_rel (fun d _ => hf.rel d) hw
    unfold wpList
    rw [if_neg (by rw [hwant]; simp)]
    exact ih rfl ι w _ hk' hR (hf.put (v := .c .any) (u := undef) hd trivial s.m) Q fun ι2 a2 w2 g1 g2 g3 => hQ ι2 a2 w2 g1 (by rw [g2]; cases o.dst <;> rfl) g3
  | region h ih =>
    intro ι w a hk' hR hf Q hQ
    exact wp_region_list (ih rfl ι w a hk' hR hf Q hQ)
  | @draw k id ops s r n A W V N hm hok hA hW hV hS hk ihV ihk =>
    intro ι w a hk' hR hf Q hQ
    subst hA
    have hn : n ≤ ops.size := by
      simp only [Region.okAll, Bool.and_eq_true, decide_eq_true_eq] at hok
      exact hok.1.1.1.1
    exact draw_sound hm ⟨hn, rfl, hS⟩ hW ihV hok hf hR hk' fun ι' a' w' h1 h2 h3 => ihk rfl ι' w' a' h3.len h3.r h1 Q fun ι2 a2 w2 g1 g2 g3 => hQ ι2 a2 w2 g1 (g2.trans h2) (h3.comp g3)
  | @clean k c s s1 r keep hc h ih =>
    cases r with
    | val v m => trivial
    | out e s' =>
      intro ι w a hk' hR hf Q hQ
      obtain ⟨ι', h1, h2, h3⟩ := clean_sound hc hR hf
      exact ih ι' w a h3 h2.r h1 Q fun ι2 a2 w2 g1 g2 g3 => hQ ι2 a2 w2 g1 g2 (h2.comp g3)
  | @weak k c s s1 r hw h ih =>
    cases r with
    | val v m => trivial
    | out e s' =>
      intro ι w a hk' hR hf Q hQ
      obtain ⟨ι', h1, h2⟩ := hw ι w a hk' hR hf
      exact ih ι' w a h2.len h2.r h1 Q fun ι2 a2 w2 g1 g2 g3 => hQ ι2 a2 w2 g1 g2 (h2.comp g3)
  | sem h => exact h
  | semF h => exact h
  | @tidy k c s e s1 s2 keep h hc ih =>
    intro ι w a hk' hR hf Q hQ
    refine ih ι w a hk' hR hf Q fun ι2 a2 w2 g1 g2 g3 => ?_
    obtain ⟨ι', h1, h2, h3⟩ := clean_sound hc g3.r g1
    exact hQ ι' a2 w2 h1 g2 (g3.comp h2)
  | @ro o e m v N h ih =>
    intro O ι w ρ hO hR hρ
    rcases ih O ι w ρ hO (ro_R hR) hρ with ⟨u, w', ι', hr, hv, hs⟩ | ⟨f, args, hr, hc⟩
    · rw [roMem_length] at hs
      exact .inl ⟨u, w', ι', hr, hv, ro_step hR hs⟩
    · refine .inr ⟨f, args, hr, hc.mono fun e w' he => ?_⟩
      obtain ⟨u, ι', h1, h2, h3⟩ := he
      rw [roMem_length] at h3
      exact ⟨u, ι', h1, h2, ro_step hR h3⟩
  | @stores k id ops s A V hm hok hA hP hS =>
    subst hA
    intro ι w a hk' hR hf Q hQ
    exact stores_sound hm ⟨rfl, hP, hS⟩ hok hf hR hk' fun a' w' h1 h2 h3 => hQ ι a' w' h1 h2 h3
  | cskip => exact fun ι w a hk' hR hf Q hQ => wp_skip (hQ ι a w hf rfl (Step.refl hR hk'))
  | label => exact fun ι w a hk' hR hf Q hQ => wp_label (hQ ι a w hf rfl (Step.refl hR hk'))
  | @seq k a b s s1 r h1 h2 ih1 ih2 =>
    cases r with
    | val v m => trivial
    | out e s' =>
      intro ι w a' hk' hR hf Q hQ
      exact wp_seq (wpC_wp (ih1 ι w a' hk' hR hf _ fun ι2 a2 w2 g1 g2 g3 => wpC_wp (ih2 ι2 w2 a2 g3.len g3.r g1 Q fun ι3 a3 w3 k1 k2 k3 => hQ ι3 a3 w3 k1 (k2.trans g2) (g3.comp k3))))
  | @seqx k a b s s1 e h1 he ih =>
    intro ι w a' hk' hR hf Q hQ
    refine wp_seq (wpC_wp (ih ι w a' hk' hR hf _ fun ι2 a2 w2 g1 g2 g3 => ?_))
    have := hQ ι2 a2 w2 g1 g2 g3
    cases e with
    | normal => exact absurd rfl he
    | _ => exact this
  | @cond k c a b s r t hc h ih =>
    cases r with
    | val v m => trivial
    | out e s' =>
      intro ι w a' hk' hR hf Q hQ
      have hv := opnd_rel hf c
      rw [hc] at hv
      exact wp_cond hv (wpC_wp (ih ι w a' hk' hR hf Q hQ))
  | @block k id c s s1 e h ih =>
    intro ι w a' hk' hR hf Q hQ
    refine wp_block (wpC_wp (ih ι w a' hk' hR hf _ fun ι2 a2 w2 g1 g2 g3 => ?_))
    have := hQ ι2 a2 w2 g1 g2 g3
    cases e with
    | normal => exact this
    | ret => exact this
    | exit i =>
      simp only [Ex.block, Ex.out, Exit.inBlock] at this ⊢
      split
      · rename_i e; rw [if_pos e] at this; exact this
      · rename_i e; rw [if_neg e] at this; exact this
  | @loop k c s s1 r h1 h2 ih1 ih2 =>
    cases r with
    | val v m => trivial
    | out e s' =>
      intro ι w a' hk' hR hf Q hQ
      exact loopAt_next (wpC_wp (ih1 ι w a' hk' hR hf _ fun ι2 a2 w2 g1 g2 g3 => ih2 ι2 w2 a2 g3.len g3.r g1 Q fun ι3 a3 w3 k1 k2 k3 => hQ ι3 a3 w3 k1 (k2.trans g2) (g3.comp k3)))
  | @loopx k c s s1 e h1 he ih =>
    intro ι w a' hk' hR hf Q hQ
    refine loopAt_next (wpC_wp (ih ι w a' hk' hR hf _ fun ι2 a2 w2 g1 g2 g3 => ?_))
    have := hQ ι2 a2 w2 g1 g2 g3
    cases e with
    | normal => exact absurd rfl he
    | _ => exact this
  | exit => exact fun ι w a hk' hR hf Q hQ => wp_exit (hQ ι a w hf rfl (Step.refl hR hk'))
  | ret => exact fun ι w a hk' hR hf Q hQ => wp_ret (hQ ι a w hf rfl (Step.refl hR hk'))
  | @scope k c s s1 e h ih =>
    intro ι w a' hk' hR hf Q hQ
    refine wp_scope_straight (wpC_wp (ih ι w a' hk' hR hf _ fun ι2 a2 w2 g1 g2 g3 => ?_))
    have := hQ ι2 a2 w2 g1 g2 g3
    cases e <;> exact this
  | @view f args m args' m' v N ρ hρ ha h ih =>
    intro ι w cargs hR hargs
    refine (ih (viewEmb ρ ι) w cargs (view_R hρ hR) (ha.rel (fun j i hj => by unfold viewEmb; rw [hj]; rfl) hargs)).mono fun e' w' hq => ?_
    obtain ⟨u, ι1, rfl, hv, hs⟩ := hq
    obtain ⟨ι2, hsame, hst⟩ := view_step hρ hR hs
    exact ⟨u, ι2, rfl, AV.ren_rel hsame hv, hst⟩
  | @call f fn c args m e s' vs v m' ids hf hb hn h he hres hcan ih =>
    intro ι w cargs hR hargs
    obtain ⟨hok, hv, rfl⟩ := canon_spec hcan
    simp only [List.map_cons, List.map_nil, List.cons.injEq, and_true] at hv
    subst hv
    refine calls_of_wp hf hb (wpC_wp (ih ι w _ (Nat.le_refl _) hR (frel0 hargs hn m) _ fun ι2 a2 w2 g1 g2 g3 => ?_))
    obtain ⟨u, hu, hr⟩ := results_sound hres g3.r g1
    have hcs := canon_step hok g3.r
    have fin : a2.defers = [] ∧ ∃ v, (results fn a2.tmps).run P w2 = .ok v w2 ∧ ∃ u ι', Ending.returned v = .returned u ∧ ((resV vs).ren (canRen m.length ids)).rel ι' u ∧ Step m.length ι m w ι' (canMem m.length s'.m ids) w2 :=
      ⟨g2, u, hu, u, canEmb m.length ids ι2, rfl, AV.ren_rel (can_same _ _ _) hr, g3.comp hcs⟩
    rcases he with rfl | rfl
    · exact fin
    · exact fin
end Go.Proofs.Ytlnekohkbhidnaa
