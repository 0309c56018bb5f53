/- Abstract data: operations that find a value and leave memory as it is. -/
import Derived.Test.YtlnekohkbhidnaaAvOps
namespace Go.Proofs.Ytlnekohkbhidnaa
open Go.RowKit

def pureOf {α : Type} : Sem α → Option α
  | .pure a => some a
  | _ => none
theorem pureOf_run {α : Type} {s : Sem α} {a : α} (h : pureOf s = some a) (P : Program) (w : World) : s.run P w = .ok a w := by
  cases s <;> simp only [pureOf] at h <;> cases h
  rfl
@[simp] theorem pureOf_pure {α : Type} (a : α) : pureOf (Pure.pure a : Sem α) = some a := rfl
def intOf? : AV → Option Int
  | .c (.val (.int _ n)) => some n
  | _ => none
def bin (op : BinOp) (t : TypeId) (x y : Operand) (a b : Value) : Sem Value := do eqGuard op t x y a b; binOp op t a b
def isBoolT (P : Program) (t : TypeId) : Bool := match P.underlying t with | some .bool => true | _ => false
def isSliceT (P : Program) (t : TypeId) : Bool := match P.underlying t with | some (.slice _) => true | _ => false
def nilness : AV → Option Bool
  | .c .nsl => some true
  | .c (.sl _ _ len _ _) => if 0 < len then some false else none
  | _ => none
def evBin (P : Program) (op : BinOp) (t : TypeId) (x y : Operand) : AV → AV → Option AV
  | .c (.val a), .c (.val b) =>
    match op, a, b with
    | .eql, .bool p, .bool q => if isBoolT P t then some (.c (.val (.bool (p == q)))) else none
    | .neq, .bool p, .bool q => if isBoolT P t then some (.c (.val (.bool (!(p == q))))) else none
    | op, a, b => (pureOf (bin op t x y a b)).map fun v => .c (.val v)
  | a, .c .nsl =>
    match op, isSliceT P t, nilness a with
    | .eql, true, some r => some (.c (.val (.bool r)))
    | .neq, true, some r => some (.c (.val (.bool (!r))))
    | _, _, _ => none
  | _, _ => none
theorem run_equal_slice {P : Program} {t : TypeId} {e : TypeId} (hu : P.underlying t = some (.slice e)) (p : Option Addr) (n c : Nat) (w : World) : (Op.equal t (.slice p n c) (.slice none 0 0)).run P w = .ok p.isNone w := by
  unfold Op.equal Op.maxDepth Op.equalIn
  simp only [Sem.run_bind, run_underlying hu, Result.andThen_ok]
  cases p <;> rfl
theorem run_equal_bool {P : Program} {t : TypeId} (hu : P.underlying t = some .bool) (p q : Bool) (w : World) : (Op.equal t (.bool p) (.bool q)).run P w = .ok (p == q) w := by
  unfold Op.equal Op.maxDepth Op.equalIn
  simp only [Sem.run_bind, run_underlying hu, Result.andThen_ok]
  rfl
theorem evBin_sound {P : Program} {op : BinOp} {t : TypeId} {x y : Operand} {a b v : AV} (h : evBin P op t x y a b = some v) {ι : Emb} {p q : Value} (ha : a.rel ι p) (hb : b.rel ι q) (w : World) :
    ∃ u, (do eqGuard op t x y p q; binOp op t p q : Sem Value).run P w = .ok u w ∧ v.rel ι u := by
  unfold evBin at h
  split at h
  · rename_i a' b'
    obtain rfl : p = a' := ha
    obtain rfl : q = b' := hb
    split at h
    · rename_i hop
      split at h
      · rename_i hb'
        cases h
        unfold isBoolT at hb'
        split at hb'
        · rename_i hu
          refine ⟨_, ?_, rfl⟩
          first
            | (show (do pure (Value.bool (← Op.equal t (.bool _) (.bool _))) : Sem Value).run P w = _
               simp [run_equal_bool hu])
            | (show (do pure (Value.bool (!(← Op.equal t (.bool _) (.bool _)))) : Sem Value).run P w = _
               simp [run_equal_bool hu])
        · cases hb'
      · cases h
    · rename_i hop
      split at h
      · rename_i hb'
        cases h
        unfold isBoolT at hb'
        split at hb'
        · rename_i hu
          refine ⟨_, ?_, rfl⟩
          first
            | (show (do pure (Value.bool (← Op.equal t (.bool _) (.bool _))) : Sem Value).run P w = _
               simp [run_equal_bool hu])
            | (show (do pure (Value.bool (!(← Op.equal t (.bool _) (.bool _)))) : Sem Value).run P w = _
               simp [run_equal_bool hu])
        · cases hb'
      · cases h
    · obtain ⟨u, hu, rfl⟩ := Option.map_eq_some_iff.1 h
      exact ⟨u, pureOf_run hu P w, rfl⟩
  · obtain rfl : q = .slice none 0 0 := hb
    have main : ∀ r, nilness a = some r → ∃ pp n c, p = .slice pp n c ∧ pp.isNone = r := by
      intro r hr
      unfold nilness at hr
      split at hr
      · cases hr; exact ⟨none, 0, 0, ha, rfl⟩
      · split at hr
        · rename_i b o len cap sz hlen
          cases hr
          obtain ⟨pp, c, rfl, h1, h2, h3⟩ := ha
          rcases h3 with h3 | ⟨l, _, rfl, _⟩
          · omega
          · exact ⟨_, _, _, rfl, rfl⟩
        · cases hr
      · cases hr
    split at h
    · rename_i r hs hn
      cases h
      obtain ⟨pp, n, c, rfl, rfl⟩ := main _ hn
      unfold isSliceT at hs
      split at hs
      · rename_i e hu
        refine ⟨_, ?_, rfl⟩
        first
          | (show (do pure (Value.bool (← Op.equal t (.slice _ _ _) (.slice none 0 0))) : Sem Value).run P w = _
             simp [run_equal_slice hu])
          | (show (do pure (Value.bool (!(← Op.equal t (.slice _ _ _) (.slice none 0 0)))) : Sem Value).run P w = _
             simp [run_equal_slice hu])
      · cases hs
    · rename_i r hs hn
      cases h
      obtain ⟨pp, n, c, rfl, rfl⟩ := main _ hn
      unfold isSliceT at hs
      split at hs
      · rename_i e hu
        refine ⟨_, ?_, rfl⟩
        first
          | (show (do pure (Value.bool (← Op.equal t (.slice _ _ _) (.slice none 0 0))) : Sem Value).run P w = _
             simp [run_equal_slice hu])
          | (show (do pure (Value.bool (!(← Op.equal t (.slice _ _ _) (.slice none 0 0)))) : Sem Value).run P w = _
             simp [run_equal_slice hu])
      · cases hs
    · cases h
  · cases h
def evConv (P : Program) (s d : TypeId) : AV → Option AV
  | .c (.val (.int _ n)) => match P.underlying s, P.underlying d with
    | some _, some (.int k) => some (.c (.val (.int k (k.wrap n))))
    | _, _ => none
  | _ => none
def bnd (d : Int) : Option AV → Option Int
  | none => some d
  | some a => intOf? a
def evSlice (P : Program) (M : Mem) (t : TypeId) (x : AV) (lo hi : Option AV) : Option AV :=
  match x, P.underlying t with
  | .c (.ptr b o), some (.array n el) =>
    match szT P el, bnd 0 lo, bnd n hi, M[b]? with
    | some sz, some l, some h, some (.row _ y) => if 0 ≤ l ∧ l ≤ h ∧ h ≤ n ∧ o + n * sz ≤ y.size then some (.c (.sl b (o + l.toNat * sz) (h - l).toNat (n - l.toNat) sz)) else none
    | _, _, _, _ => none
  | .c (.sl b o len cap sz), some (.slice el) =>
    match (bnd 0 lo), (bnd len hi) with
    | some l, some h => if szT P el = some sz ∧ 0 ≤ l ∧ l ≤ h ∧ h ≤ max len cap then some (.c (.sl b (o + l.toNat * sz) (h - l).toNat (cap - l.toNat) sz)) else none
    | _, _ => none
  | .c .nsl, some (.slice el) =>
    match (bnd 0 lo), (bnd 0 hi) with
    | some l, some h => if (szT P el).isSome ∧ l = 0 ∧ h = 0 then some (.c .nsl) else none
    | _, _ => none
  | .c .esl, some (.slice el) =>
    match (bnd 0 lo), (bnd 0 hi) with
    | some l, some h => if (szT P el).isSome ∧ l = 0 ∧ h = 0 then some (.c .esl) else none
    | _, _ => none
  | _, _ => none
theorem intOf_rel {a : AV} {n : Int} (h : intOf? a = some n) {ι : Emb} {v : Value} (hr : a.rel ι v) : ∃ k, v = .int k n := by
  unfold intOf? at h; split at h
  · cases h; exact ⟨_, hr⟩
  · cases h
theorem run_sliceBound {P : Program} {w : World} (k : IntKind) (i : Int) (y : Nat) (c : BoundsCode) (h0 : 0 ≤ i) (h1 : i ≤ y) : (Instr.sliceBound (.int k i) y c).run P w = .ok i.toNat w := by
  simp [Instr.sliceBound, asIntOf, h0, h1]
theorem run_sliceBounds {P : Program} {w : World} (is : Bool) (len cap : Nat) (lo hi : Option Value) (l h : Nat) (hl : lo = none ∧ l = 0 ∨ ∃ k, lo = some (.int k l)) (hh : hi = none ∧ h = len ∨ ∃ k, hi = some (.int k h)) (h1 : l ≤ h) (h2 : h ≤ cap) :
    (Instr.sliceBounds is len cap lo hi none).run P w = .ok (l, h, cap) w := by
  rcases hl with ⟨rfl, rfl⟩ | ⟨k, rfl⟩ <;> rcases hh with ⟨rfl, rfl⟩ | ⟨k', rfl⟩
  · simp [Instr.sliceBounds]
  · simp [Instr.sliceBounds, run_sliceBound k' h cap _ (by omega) (by omega)]
  · simp [Instr.sliceBounds, run_sliceBound k l h .sliceB (by omega) (by omega)]
  · simp [Instr.sliceBounds, run_sliceBound k' h cap _ (by omega) (by omega), run_sliceBound k l h .sliceB (by omega) (by omega)]
def orel (ι : Emb) : Option AV → Option Value → Prop
  | none, none => True
  | some a, some v => a.rel ι v
  | _, _ => False
theorem bound_rel {ι : Emb} {a : Option AV} {v : Option Value} (hr : orel ι a v) {d l : Int} (h : bnd d a = some l) : v = none ∧ l = d ∨ ∃ k, v = some (.int k l) := by
  cases a <;> cases v <;> simp only [orel] at hr
  · simp only [bnd, Option.some.injEq] at h; exact .inl ⟨rfl, h.symm⟩
  · obtain ⟨k, rfl⟩ := intOf_rel h hr
    exact .inr ⟨k, rfl⟩
theorem evSlice_sound {P : Program} {M : Mem} {t : TypeId} {x v : AV} {lo hi : Option AV} (h : evSlice P M t x lo hi = some v) {ι : Emb} {w : World} (hR : R ι M w) {p : Value} {lo' hi' : Option Value} (hx : x.rel ι p) (hlo : orel ι lo lo') (hhi : orel ι hi hi') :
    ∃ u, (Instr.sliceAt t p lo' hi' none).run P w = .ok u w ∧ v.rel ι u := by
  unfold evSlice at h
  split at h
  · rename_i b o n el hu
    obtain ⟨loc, hb, rfl⟩ := hx
    split at h
    · rename_i sz l hh own y hsz hl hh' hm
      split at h
      · rename_i hc
        obtain ⟨c0, c1, c2, c3⟩ := hc
        cases h
        obtain ⟨cs, t', fr, hheap, hys, _, _⟩ := hR.rows b loc own y hb hm
        obtain ⟨ln, rfl⟩ := Int.eq_ofNat_of_zero_le c0
        obtain ⟨hn, rfl⟩ := Int.eq_ofNat_of_zero_le (Int.le_trans c0 c1)
        have hbl := bound_rel hlo hl
        have hbh := bound_rel hhi hh'
        have hrun := run_sliceBounds (P := P) (w := w) false n n lo' hi' ln hn (hbl.imp (fun h => ⟨h.1, by omega⟩) id) (hbh.imp (fun h => ⟨h.1, by omega⟩) id) (by omega) (by omega)
        refine ⟨.slice (some (if n = ln then ⟨loc.c, loc.off + o, none⟩ else (⟨loc.c, loc.off + o, none⟩ : Addr).add (ln * sz))) (hn - ln) (n - ln), ?_, ?_⟩
        · simp only [Instr.sliceAt, Sem.run_bind, run_underlying hu, Result.andThen_ok, Instr.sureAddr, Sem.run_pure, hrun, run_sizeT hsz]
        · refine ⟨_, n - ln, by rw [show ((hn : Int) - (ln : Int)).toNat = hn - ln by omega], by simp, by simp; omega, ?_⟩
          by_cases e : n = ln
          · exact .inl (by omega)
          · refine .inr ⟨loc, hb, ?_, ?_⟩
            · rw [if_neg e, addr_at]; simp [Nat.add_assoc]
            · have h7 : ln * sz + (n - ln) * sz = n * sz := by rw [← Nat.add_mul]; congr 1; omega
              rw [Int.toNat_natCast]
              omega
      · cases h
    · cases h
  · rename_i b o len cap sz el hu
    obtain ⟨pp, cap', rfl, hc1, hc2, hc3⟩ := hx
    split at h
    · rename_i l hh hl hh'
      split at h
      · rename_i hc
        obtain ⟨hsz, c0, c1, c2⟩ := hc
        cases h
        obtain ⟨ln, rfl⟩ := Int.eq_ofNat_of_zero_le c0
        obtain ⟨hn, rfl⟩ := Int.eq_ofNat_of_zero_le (Int.le_trans c0 c1)
        have hbl := bound_rel hlo hl
        have hbh := bound_rel hhi hh'
        have hmx : hn ≤ cap' := by omega
        have hrun := run_sliceBounds (P := P) (w := w) true len cap' lo' hi' ln hn (hbl.imp (fun h => ⟨h.1, by omega⟩) id) (hbh.imp (fun h => ⟨h.1, by omega⟩) id) (by omega) hmx
        refine ⟨.slice (if cap' = ln then pp else pp.map (·.add (ln * sz))) (hn - ln) (cap' - ln), ?_, ?_⟩
        · simp only [Instr.sliceAt, Instr.slice, Sem.run_bind, run_underlying hu, Result.andThen_ok, Sem.run_pure, hrun, run_sizeT hsz]
        · refine ⟨_, cap' - ln, by rw [show ((hn : Int) - (ln : Int)).toNat = hn - ln by omega], by rw [Int.toNat_natCast]; omega, by omega, ?_⟩
          by_cases e : cap' = ln
          · exact .inl (by omega)
          · rcases hc3 with hc3 | ⟨loc, hb, rfl, hle⟩
            · exact .inl (by omega)
            · refine .inr ⟨loc, hb, ?_, ?_⟩
              · rw [if_neg e]
                simp only [Option.map_some, Option.some.injEq]
                rw [addr_at]; simp [Nat.add_assoc]
              · have h7 : ln * sz + (cap' - ln) * sz = cap' * sz := by rw [← Nat.add_mul]; congr 1; omega
                rw [Int.toNat_natCast]
                omega
      · cases h
    · cases h
  · rename_i el hu
    obtain rfl : p = .slice none 0 0 := hx
    split at h
    · rename_i l hh hl hh'
      split at h
      · rename_i hc
        obtain ⟨hsz, rfl, rfl⟩ := hc
        cases h
        obtain ⟨sz, hsz⟩ := Option.isSome_iff_exists.1 hsz
        have hrun := run_sliceBounds (P := P) (w := w) true 0 0 lo' hi' 0 0 ((bound_rel hlo hl).imp (fun h => ⟨h.1, rfl⟩) id) ((bound_rel hhi hh').imp (fun h => ⟨h.1, rfl⟩) id) (by omega) (by omega)
        refine ⟨.slice none 0 0, ?_, rfl⟩
        simp [Instr.sliceAt, Instr.slice, run_underlying hu, hrun, run_sizeT hsz]
      · cases h
    · cases h
  · rename_i el hu
    obtain ⟨pp, rfl⟩ := hx
    split at h
    · rename_i l hh hl hh'
      split at h
      · rename_i hc
        obtain ⟨hsz, rfl, rfl⟩ := hc
        cases h
        obtain ⟨sz, hsz⟩ := Option.isSome_iff_exists.1 hsz
        have hrun := run_sliceBounds (P := P) (w := w) true 0 0 lo' hi' 0 0 ((bound_rel hlo hl).imp (fun h => ⟨h.1, rfl⟩) id) ((bound_rel hhi hh').imp (fun h => ⟨h.1, rfl⟩) id) (by omega) (by omega)
        refine ⟨.slice pp 0 0, ?_, ⟨pp, rfl⟩⟩
        simp [Instr.sliceAt, Instr.slice, run_underlying hu, hrun, run_sizeT hsz]
      · cases h
    · cases h
  · cases h
def evIndex (P : Program) (t : TypeId) (x i : AV) : Option AV :=
  match x, P.underlying t, intOf? i with
  | .c (.ptr b o), some (.array n el), some i => match szT P el with
    | some sz => if 0 ≤ i ∧ i < n then some (.c (.ptr b (o + i.toNat * sz))) else none
    | none => none
  | .c (.sl b o len _ sz), some (.slice el), some i => if szT P el = some sz ∧ 0 ≤ i ∧ i < len then some (.c (.ptr b (o + i.toNat * sz))) else none
  | _, _, _ => none
theorem evIndex_sound {P : Program} {t : TypeId} {x i v : AV} (h : evIndex P t x i = some v) {ι : Emb} (w : World) {p q : Value} (hx : x.rel ι p) (hi : i.rel ι q) :
    ∃ u, (Instr.indexAt t p q).run P w = .ok u w ∧ v.rel ι u := by
  unfold evIndex at h
  split at h
  · rename_i b o n el i' hu hi'
    obtain ⟨loc, hb, rfl⟩ := hx
    obtain ⟨k, rfl⟩ := intOf_rel hi' hi
    split at h
    · rename_i sz hsz
      split at h
      · rename_i hc
        cases h
        refine ⟨.pointer (some ((⟨loc.c, loc.off + o, none⟩ : Addr).add (i'.toNat * sz))), ?_, ⟨loc, hb, by rw [addr_at, Nat.add_assoc]⟩⟩
        simp [Instr.indexAt, asIntOf, run_underlying hu, Instr.sureAddr, hc, run_sizeT hsz]
      · cases h
    · cases h
  · rename_i b o len cap sz el i' hu hi'
    obtain ⟨pp, cap', rfl, hc1, hc2, hc3⟩ := hx
    obtain ⟨k, rfl⟩ := intOf_rel hi' hi
    split at h
    · rename_i hc
      obtain ⟨hsz, hc⟩ := hc
      cases h
      rcases hc3 with hc3 | ⟨loc, hb, rfl, hle⟩
      · omega
      · refine ⟨.pointer (some ((⟨loc.c, loc.off + o, none⟩ : Addr).add (i'.toNat * sz))), ?_, ⟨loc, hb, by rw [addr_at, Nat.add_assoc]⟩⟩
        simp [Instr.indexAt, asIntOf, run_underlying hu, hc, run_sizeT hsz]
    · cases h
  · cases h
end Go.Proofs.Ytlnekohkbhidnaa
