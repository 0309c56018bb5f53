/- 'RealBack' returns true, whatever the input, and leaves its arguments as they were; the card. -/
import Derived.Test.YtmbepikkgkcgkaaGreatDoorUB12
import Derived.Test.YtmbepikkgkcgkaaGreatDoorTie
import Derived.Test.YtmbepikkgkcgkaaGreatDoorCards
import Derived.SevenTiedAt
namespace Go.Proofs.YtmbepikkgkcgkaaGreatDoor.realBackDone
open Go.ChangeShapes Go.WideShapes Go.ChangeAt Go.RowKit
theorem own : ownKnob Tryz.prog.godebug = none := by kernel_rfl
theorem laidOut : laidOutB Tryz.prog = true := by kernel_rfl
theorem walk (w : World) (hL : laidMetH Tryz.prog vb w) (v0 : Value) (l0 : List Stp) (w0 : ye w 4 v0 (.al (stA l0))) (z0 : l0.length ≤ maxLen) (y0 : ∀ i, i < l0.length → Sg (CX l0 i).k ∧ Sg (CX l0 i).n ∧ ∀ x ∈ (CX l0 i).a, Sg x) (x0 : ∀ i, i < l0.length → (CX l0 i).a.length ≤ maxLen) (n1 : Int) (w1 : -9223372036854775808 ≤ n1 ∧ n1 ≤ 9223372036854775807) (n2 : Int) (w2 : -9223372036854775808 ≤ n2 ∧ n2 ≤ 9223372036854775807) (v3 : Value) (l3 : List Int) (z3 : l3.length ≤ maxLen) (y3 : ∀ x ∈ l3, Sg x) (w3 : ∀ ι : Emb, ι.tx = XS w → (Cell.is l3).rel ι v3) : Calls Tryz.prog 8 #[v0, .int .i64 n1, .int .i64 n2, v3] w fun e w' => e = .returned (.bool true) ∧ Below w.heap.size w w' :=
  zH (tG l0 (by have := z0; unfold maxLen at this; omega) y0 (fun i hi => by have := x0 i hi; unfold maxLen at this; omega) n1 w1 n2 w2 l3 (by have := z3; unfold maxLen at this; omega) y3) (ABy (us := [(v0, 4, .al (stA l0))]) (w := w) (base_of hL) (by intro p hp; simp at hp; subst hp; assumption)) ⟨open_row rfl w0 (by show (stA l0).length = _; rw [RP, Nat.mul_comm]) (by decide), rfl, rfl, w3 _ rfl, trivial⟩ (fun _ => yw)
set_option maxRecDepth 100000 in
theorem lifted (os : Os) (started : os.Started) (H : Type) (enc : TypeId × Value → H) :
    ReturnsInHanded {} Tryz.checked os 8 .any (fun w args => (Rows.realBackSpec.pre enc Tryz.prog Tryz.f8 [] false w args ∧ laidMetH Tryz.prog vb w) ∧ sizedMet enc Tryz.prog Tryz.f8 (OpenSpec.ofChange Rows.realBackSpec) false w args)
      (Rows.realBackSpec.post enc Tryz.prog Tryz.f8 false true false false) := by
  refine returnsInHanded_of_change_and (C := Tryz.checked) (X := fun w _ => laidMetH Tryz.prog vb w) (fun _ _ _ hh h => h.of_heap hh) own started (by kernel_rfl) Tryz.func8
    (ChangeSpec.witness_shaped (enc := enc) (C := Tryz.checked) (os := os) (X := fun w _ => laidMetH Tryz.prog vb w) false (World.doorLaid Tryz.prog 400 os) #[.slice none 0 0, .int .i64 0, .int .i64 0, .slice none 0 0] 8 rfl (World.shaped_of_RefB (by kernel_rfl) (by kernel_rfl)) (by kernel_rfl) (by kernel_rfl) (by kernel_rfl) (AA7 os _)) ?_
  intro W base args ds gs before hval0 hW _ _ hL _
  have hval : ∀ (j : Nat) t v, Tryz.f8.params[j]? = some t → args[j]? = some v → Value.okWide Tryz.prog W .any base t v := hval0
  have hW' := hW
  obtain ⟨p, q, hA0, hV, rfl, hfz, hnd⟩ := hW
  have hA : DataW.TrodAll enc Tryz.prog W 0 (fun _ => true) true Tryz.f8.params.toList args.toList ds p := hA0
  rw [Tryz.params8] at hA hval
  obtain ⟨v0, vs0, d0, ds0, p0, q0, hargs, rfl, rfl, h0, r0⟩ := trodAll_cons hA
  obtain ⟨v1, vs1, d1, ds1, p1, q1, rfl, rfl, rfl, h1, r1⟩ := trodAll_cons r0
  obtain ⟨v2, vs2, d2, ds2, p2, q2, rfl, rfl, rfl, h2, r2⟩ := trodAll_cons r1
  obtain ⟨v3, vs3, d3, ds3, p3, q3, rfl, rfl, rfl, h3, r3⟩ := trodAll_cons r2
  obtain ⟨rfl, rfl, rfl⟩ := trodAll_nil r3
  obtain rfl : args = #[v0, v1, v2, v3] := by cases args; simp_all
  obtain ⟨rfl, rfl⟩ := trodVars_none hV
  have k0 := h0
  have lt0 : ∀ x ∈ p0, x.block < W.heap.size := by obtain ⟨m, hm⟩ := k0; exact DataW.trod_lt m _ _ _ hm
  obtain ⟨l0, w0, z0, y0, x0⟩ := uQ Tryz.underlying48 Tryz.underlying91 Tryz.underlying3 Tryz.underlying3 Tryz.underlying41 Tryz.underlying3 Tryz.underlying4 (by kernel_rfl) (by kernel_rfl) (by kernel_rfl) (by kernel_rfl) (by kernel_rfl) (by kernel_rfl) rfl rfl rfl rfl (hval 0 48 v0 rfl rfl) h0
  have k1 := h1
  have lt1 : ∀ x ∈ p1, x.block < W.heap.size := by obtain ⟨m, hm⟩ := k1; exact DataW.trod_lt m _ _ _ hm
  obtain ⟨n1, rfl, w1⟩ := AAT Tryz.underlying3 (hval 1 3 v1 rfl rfl) h1
  simp only [Lit.wf, Bool.and_eq_true, decide_eq_true_eq] at w1
  rw [show IntKind.i64.min = -9223372036854775808 from rfl, show IntKind.i64.max = 9223372036854775807 from rfl] at w1
  have k2 := h2
  have lt2 : ∀ x ∈ p2, x.block < W.heap.size := by obtain ⟨m, hm⟩ := k2; exact DataW.trod_lt m _ _ _ hm
  obtain ⟨n2, rfl, w2⟩ := AAT Tryz.underlying3 (hval 2 3 v2 rfl rfl) h2
  simp only [Lit.wf, Bool.and_eq_true, decide_eq_true_eq] at w2
  rw [show IntKind.i64.min = -9223372036854775808 from rfl, show IntKind.i64.max = 9223372036854775807 from rfl] at w2
  have k3 := h3
  have lt3 : ∀ x ∈ p3, x.block < W.heap.size := by obtain ⟨m, hm⟩ := k3; exact DataW.trod_lt m _ _ _ hm
  obtain ⟨l3, z3, y3, w3⟩ := yl Tryz.underlying41 Tryz.underlying3 (by kernel_rfl) (hval 3 41 v3 rfl rfl) h3
  clear hA0 hval0
  refine (walk W hL v0 l0 w0 z0 y0 x0 n1 w1 n2 w2 v3 l3 z3 y3 w3).mono fun e W' ⟨he, bel⟩ => ?_
  subst he
  exact ⟨_, rfl, _, _, _, [], _, [], hW', trodAll_mk1 (shut_bool Tryz.underlying4 _), (trodAll_cons_mk (Below.trod laidOut (by kernel_rfl) (of_decide_eq_true (by kernel_rfl)) k0 bel lt0) (trodAll_cons_mk (Below.trod laidOut (by kernel_rfl) (of_decide_eq_true (by kernel_rfl)) k1 bel lt1) (trodAll_cons_mk (Below.trod laidOut (by kernel_rfl) (of_decide_eq_true (by kernel_rfl)) k2 bel lt2) (trodAll_cons_mk (Below.trod laidOut (by kernel_rfl) (of_decide_eq_true (by kernel_rfl)) k3 bel lt3) trodAll_mk0)))), rfl, bel.frame _, fun h => by cases h⟩
theorem over : Rows.RealBackSaid :=
  OpenClaim.holds_of_wide 8 Tryz.f8 rfl rfl rfl rfl rfl rfl rfl ⟨rfl, rfl, rfl, rfl, rfl⟩ rfl rfl rfl rfl rfl (by kernel_rfl) Tryz.func8 (by kernel_rfl)
    (of_decide_eq_true (by kernel_rfl)) (by unfold Func.isWrapper; first | (rw [if_pos (by decide +kernel)]; kernel_rfl) | (rw [if_neg (by decide +kernel)]; exact ⟨rfl, rfl⟩))
    (fun os started H enc _ => lifted os started H enc)
/-- The statement. -/
theorem proved : Rows.RealBackCardSaid :=
  Claim7.holds_tied_plain_at .later [] [.data, .data, .data] true (true, "f5ba73b92c82f20ae633c3d3275626f54160b228337a868e8977dc988158c5ae") false
    over (fun _ h => by cases h) (by kernel_rfl) (fun _ h => by cases h) realBack_row_tie rfl ⟨rfl, rfl⟩ (by kernel_rfl) rfl
    (fun f fn hf hfn => by
      obtain rfl : f = 8 := Option.some.inj ((show Tryz.prog.funcNamed "tryst/trystlaw12.RealBack" = some 8 by kernel_rfl).symm.trans hf) |>.symm
      obtain rfl : fn = Tryz.f8 := (Option.some.inj (Tryz.func8.symm.trans hfn)).symm
      exact ⟨by kernel_rfl, fun j t ht => by
        rw [Tryz.params8] at ht
        have hm : t ∈ [48, 3, 3, 41] := by simpa using Array.mem_of_getElem? ht
        have hall : ([48, 3, 3, 41].all fun u => !Tryz.prog.wantsStandIn u) = true := by kernel_rfl
        exact (show Tryz.prog.wantsStandIn t = false by simpa using List.all_eq_true.1 hall t hm)⟩)
    (by kernel_rfl)
end Go.Proofs.YtmbepikkgkcgkaaGreatDoor.realBackDone
