/- The texts TMk, TRev, TBen, USteps, RNum, RJoin, RRefJoin, RSplit, UJoin, AFull, SRot, CQuarter, CLow, merged into one. -/
import Derived.Test.YtmbepikkgkcgkaaGreatDoorUK4
namespace Go.Proofs.YtmbepikkgkcgkaaGreatDoor
open Go.RowKit
theorem c_cutK {P : Program} {k : Nat} {c : Code} {s : St} {Φ : Ex → St → Prop} (keep : List Nat) {σ : Type} (I : σ → St) (y : σ) (h1 : WC P k c s (roundK k keep I y)) (h2 : Φ .normal (I y)) : WC P k c s Φ := by
  obtain ⟨e, r, g1, g2⟩ := h1.h
  cases e with
  | normal => obtain ⟨x, g3, rfl⟩ := g2; exact ⟨⟨_, _, Ev.tidy keep g1 g3, h2⟩⟩
  | exit id => exact g2.elim
  | ret => exact g2.elim
set_option maxRecDepth 100000 in
set_option maxHeartbeats 4000000 in
theorem mkF_ev (L : List Nd) (N : Nat) (k n : Int) (a : List Int) (m cap : Nat) (hA : ArOk L) (hN : L.length = N) (hNl : N ≤ 1000000) (hm : a.length = m) (hml : m ≤ 1000) (hr : ∀ x ∈ k :: n :: a, -9223372036854775808 ≤ x ∧ x ≤ 9223372036854775807) (he : mkErr N k n a = 0) (i : Nat) (hf : findN L ⟨k, n, a⟩ = some i) : Ev Tryz.prog (.call 21 [.c (.ptr 0 0), .c (.val (.int .i64 k)), .c (.val (.int .i64 n)), .c (.sl 1 0 m cap 1)] [.row true (.ac [.sl 2 0 N N 3, .mp 3]), .row false (.ai a), .row true (.an L), .row true (.mp (arEnt L))]) (.val (.tup [.c (.val (.int .i64 ((i : Nat) : Int))), .c (.val (.int .i64 ((0 : Nat) : Int)))]) [.row true (.ac [.sl 2 0 N N 3, .mp 3]), .row false (.ai a), .row true (.an L), .row true (.mp (arEnt L))]) := by
  have hok := mkErr_ok he
  have c1 := hok.kind
  dsimp only at c1
  have c2 : ¬ (n < 0 ∨ (0 < n ∧ numb k = false)) := by
    have h3 := hok.num
    dsimp only at h3
    rintro (h | ⟨h, h2⟩)
    · omega
    · rw [h3.2 h] at h2; cases h2
  have c2n : ¬ n < 0 := fun h => c2 (.inl h)
  have c5 := hok.len
  dsimp only at c5
  have ml := mostK_le k
  have c7 : hasB N a = true := by
    cases hq : hasB N a with
    | true => rfl
    | false => revert he; unfold mkErr; rw [if_neg (by omega), if_neg c2, if_neg (by omega), if_pos hq]; intro h; cases h
  refine c_call Tryz.func21 rfl Tryz.ntmps21 rfl LEN_ ?_
  refine S_ ?_
  refine c_region ?_
  refine s_val (v_assignC rfl) rfl ?_
  refine s_val (v_assignC rfl) rfl ?_
  refine s_nil ?_
  refine S_ ?_
  refine c_cutK [0, 1, 2, 3, 10] (fun (q : Bool) => ⟨118, keepT [0, 1, 2, 3, 10] [.c (.ptr 0 0), .c (.val (.int .i64 k)), .c (.val (.int .i64 n)), .c (.sl 1 0 m cap 1), .c (.val (.bool q))], [.row true (.ac [.sl 2 0 N N 3, .mp 3]), .row false (.ai a), .row true (.an L), .row true (.mp (arEnt L))]⟩) (numb k) ?_ ?_
  · by_cases h1 : k = 1
    · refine S_ ?_
      refine c_region ?_
      first
        | refine s_val (v_moveC rfl) rfl ?_
        | refine s_val (v_moveA rfl) rfl ?_
        | refine s_val (v_moveT rfl) rfl ?_
      first
        | refine s_val (v_eqlN (b := 1) rfl rfl) rfl ?_
        | refine s_val (v_eqlD rfl rfl) rfl ?_
      first
        | refine s_val (v_moveC rfl) rfl ?_
        | refine s_val (v_moveA rfl) rfl ?_
        | refine s_val (v_moveT rfl) rfl ?_
      first
        | refine s_go GOG_ ?_
          first
            | refine s_val (v_moveC rfl) rfl ?_
            | refine s_val (v_moveA rfl) rfl ?_
            | refine s_val (v_moveT rfl) rfl ?_
        | refine s_no GOG_ rfl ?_
      first
        | refine s_go GOG_ ?_
          first
            | refine s_val (v_eqlN (b := 2) rfl rfl) rfl ?_
            | refine s_val (v_eqlD rfl rfl) rfl ?_
        | refine s_no GOG_ rfl ?_
      first
        | refine s_val (v_pickT rfl PK_ rfl) rfl ?_
        | refine s_val (v_pickF rfl PK_ rfl) rfl ?_
        | refine s_val (v_pickOr rfl rfl rfl) rfl ?_
        | refine s_val (v_pickAnd rfl rfl rfl) rfl ?_
      first
        | refine s_val (v_moveC rfl) rfl ?_
        | refine s_val (v_moveA rfl) rfl ?_
        | refine s_val (v_moveT rfl) rfl ?_
      first
        | refine s_go GOG_ ?_
          first
            | refine s_val (v_moveC rfl) rfl ?_
            | refine s_val (v_moveA rfl) rfl ?_
            | refine s_val (v_moveT rfl) rfl ?_
        | refine s_no GOG_ rfl ?_
      first
        | refine s_go GOG_ ?_
          first
            | refine s_val (v_eqlN (b := 4) rfl rfl) rfl ?_
            | refine s_val (v_eqlD rfl rfl) rfl ?_
        | refine s_no GOG_ rfl ?_
      first
        | refine s_val (v_pickT rfl PK_ rfl) rfl ?_
        | refine s_val (v_pickF rfl PK_ rfl) rfl ?_
        | refine s_val (v_pickOr rfl rfl rfl) rfl ?_
        | refine s_val (v_pickAnd rfl rfl rfl) rfl ?_
      first
        | refine s_val (v_assignC rfl) rfl ?_
        | refine s_val (v_assignA rfl) rfl ?_
        | refine s_val (v_assignT rfl) rfl ?_
      refine s_nil ?_
      exact ⟨true, by kernel_rfl, by simp [numb, h1]⟩
    · by_cases h2 : k = 2
      · refine S_ ?_
        refine c_region ?_
        first
          | refine s_val (v_moveC rfl) rfl ?_
          | refine s_val (v_moveA rfl) rfl ?_
          | refine s_val (v_moveT rfl) rfl ?_
        first
          | refine s_val (v_eqlN (b := 1) rfl rfl) rfl ?_
          | refine s_val (v_eqlD rfl rfl) rfl ?_
        first
          | refine s_val (v_moveC rfl) rfl ?_
          | refine s_val (v_moveA rfl) rfl ?_
          | refine s_val (v_moveT rfl) rfl ?_
        first
          | refine s_go GOG_ ?_
            first
              | refine s_val (v_moveC rfl) rfl ?_
              | refine s_val (v_moveA rfl) rfl ?_
              | refine s_val (v_moveT rfl) rfl ?_
          | refine s_no GOG_ rfl ?_
        first
          | refine s_go GOG_ ?_
            first
              | refine s_val (v_eqlN (b := 2) rfl rfl) rfl ?_
              | refine s_val (v_eqlD rfl rfl) rfl ?_
          | refine s_no GOG_ rfl ?_
        first
          | refine s_val (v_pickT rfl PK_ rfl) rfl ?_
          | refine s_val (v_pickF rfl PK_ rfl) rfl ?_
          | refine s_val (v_pickOr rfl rfl rfl) rfl ?_
          | refine s_val (v_pickAnd rfl rfl rfl) rfl ?_
        first
          | refine s_val (v_moveC rfl) rfl ?_
          | refine s_val (v_moveA rfl) rfl ?_
          | refine s_val (v_moveT rfl) rfl ?_
        first
          | refine s_go GOG_ ?_
            first
              | refine s_val (v_moveC rfl) rfl ?_
              | refine s_val (v_moveA rfl) rfl ?_
              | refine s_val (v_moveT rfl) rfl ?_
          | refine s_no GOG_ rfl ?_
        first
          | refine s_go GOG_ ?_
            first
              | refine s_val (v_eqlN (b := 4) rfl rfl) rfl ?_
              | refine s_val (v_eqlD rfl rfl) rfl ?_
          | refine s_no GOG_ rfl ?_
        first
          | refine s_val (v_pickT rfl PK_ rfl) rfl ?_
          | refine s_val (v_pickF rfl PK_ rfl) rfl ?_
          | refine s_val (v_pickOr rfl rfl rfl) rfl ?_
          | refine s_val (v_pickAnd rfl rfl rfl) rfl ?_
        first
          | refine s_val (v_assignC rfl) rfl ?_
          | refine s_val (v_assignA rfl) rfl ?_
          | refine s_val (v_assignT rfl) rfl ?_
        refine s_nil ?_
        exact ⟨true, by kernel_rfl, by simp [numb, h2]⟩
      · refine S_ ?_
        refine c_region ?_
        first
          | refine s_val (v_moveC rfl) rfl ?_
          | refine s_val (v_moveA rfl) rfl ?_
          | refine s_val (v_moveT rfl) rfl ?_
        first
          | refine s_val (v_eqlN (b := 1) rfl rfl) rfl ?_
          | refine s_val (v_eqlD rfl rfl) rfl ?_
        first
          | refine s_val (v_moveC rfl) rfl ?_
          | refine s_val (v_moveA rfl) rfl ?_
          | refine s_val (v_moveT rfl) rfl ?_
        first
          | refine s_go GOG_ ?_
            first
              | refine s_val (v_moveC rfl) rfl ?_
              | refine s_val (v_moveA rfl) rfl ?_
              | refine s_val (v_moveT rfl) rfl ?_
          | refine s_no GOG_ rfl ?_
        first
          | refine s_go GOG_ ?_
            first
              | refine s_val (v_eqlN (b := 2) rfl rfl) rfl ?_
              | refine s_val (v_eqlD rfl rfl) rfl ?_
          | refine s_no GOG_ rfl ?_
        first
          | refine s_val (v_pickT rfl PK_ rfl) rfl ?_
          | refine s_val (v_pickF rfl PK_ rfl) rfl ?_
          | refine s_val (v_pickOr rfl rfl rfl) rfl ?_
          | refine s_val (v_pickAnd rfl rfl rfl) rfl ?_
        first
          | refine s_val (v_moveC rfl) rfl ?_
          | refine s_val (v_moveA rfl) rfl ?_
          | refine s_val (v_moveT rfl) rfl ?_
        first
          | refine s_go GOG_ ?_
            first
              | refine s_val (v_moveC rfl) rfl ?_
              | refine s_val (v_moveA rfl) rfl ?_
              | refine s_val (v_moveT rfl) rfl ?_
          | refine s_no GOG_ rfl ?_
        first
          | refine s_go GOG_ ?_
            first
              | refine s_val (v_eqlN (b := 4) rfl rfl) rfl ?_
              | refine s_val (v_eqlD rfl rfl) rfl ?_
          | refine s_no GOG_ rfl ?_
        first
          | refine s_val (v_pickT rfl PK_ rfl) rfl ?_
          | refine s_val (v_pickF rfl PK_ rfl) rfl ?_
          | refine s_val (v_pickOr rfl rfl rfl) rfl ?_
          | refine s_val (v_pickAnd rfl rfl rfl) rfl ?_
        first
          | refine s_val (v_assignC rfl) rfl ?_
          | refine s_val (v_assignA rfl) rfl ?_
          | refine s_val (v_assignT rfl) rfl ?_
        refine s_nil ?_
        exact ⟨decide (k = 4), by kernel_rfl, by simp [numb, h1, h2]⟩
  refine S_ ?_
  refine c_region ?_
  first
    | refine s_val (v_moveC rfl) rfl ?_
    | refine s_val (v_moveA rfl) rfl ?_
    | refine s_val (v_moveT rfl) rfl ?_
  refine s_evN (e_callR (many_ev k) ok_40 rfl rfl rfl VAL_) APP_ rfl ?_
  first
    | refine s_val (v_moveC rfl) rfl ?_
    | refine s_val (v_moveA rfl) rfl ?_
    | refine s_val (v_moveT rfl) rfl ?_
  refine s_val (v_extract rfl rfl) rfl ?_
  refine s_val (v_extract rfl rfl) rfl ?_
  first
    | refine s_val (v_assignC rfl) rfl ?_
    | refine s_val (v_assignA rfl) rfl ?_
    | refine s_val (v_assignT rfl) rfl ?_
  first
    | refine s_val (v_assignC rfl) rfl ?_
    | refine s_val (v_assignA rfl) rfl ?_
    | refine s_val (v_assignT rfl) rfl ?_
  refine s_nil ?_
  refine S_ ?_
  refine c_region ?_
  first
    | refine s_val (v_moveC rfl) rfl ?_
    | refine s_val (v_moveA rfl) rfl ?_
    | refine s_val (v_moveT rfl) rfl ?_
  first
    | refine s_val (v_lssN (b := 1) rfl rfl) rfl ?_
    | refine s_val (v_lssI rfl rfl) rfl ?_
  first
    | refine s_val (v_moveC rfl) rfl ?_
    | refine s_val (v_moveA rfl) rfl ?_
    | refine s_val (v_moveT rfl) rfl ?_
  first
    | refine s_go GOG_ ?_
      first
        | refine s_val (v_moveC rfl) rfl ?_
        | refine s_val (v_moveA rfl) rfl ?_
        | refine s_val (v_moveT rfl) rfl ?_
    | refine s_no GOG_ rfl ?_
  first
    | refine s_go GOG_ ?_
      first
        | refine s_val (v_gtrN (b := 9) rfl rfl) rfl ?_
        | refine s_val (v_gtrI rfl rfl) rfl ?_
    | refine s_no GOG_ rfl ?_
  first
    | refine s_val (v_pickT rfl PK_ rfl) rfl ?_
    | refine s_val (v_pickF rfl PK_ rfl) rfl ?_
    | refine s_val (v_pickOr rfl rfl rfl) rfl ?_
    | refine s_val (v_pickAnd rfl rfl rfl) rfl ?_
  first
    | refine s_val (v_assignC rfl) rfl ?_
    | refine s_val (v_assignA rfl) rfl ?_
    | refine s_val (v_assignT rfl) rfl ?_
  refine s_nil ?_
  refine S_ ?_
  refine c_cutK [0, 1, 2, 3, 11, 12, 38] (fun (q : Bool) => ⟨118, keepT [0, 1, 2, 3, 11, 12, 38] [.c (.ptr 0 0), .c (.val (.int .i64 k)), .c (.val (.int .i64 n)), .c (.sl 1 0 m cap 1), .c (.val (.int .i64 ((leastK k : Nat) : Int))), .c (.val (.int .i64 ((mostK k : Nat) : Int))), .c (.val (.bool q))], [.row true (.ac [.sl 2 0 N N 3, .mp 3]), .row false (.ai a), .row true (.an L), .row true (.mp (arEnt L))]⟩) false ?_ ?_
  · by_cases c3 : 0 < n
    · have c4 : numb k = true := by cases hq : numb k with
        | true => rfl
        | false => exact absurd (Or.inr ⟨c3, hq⟩) c2
      refine S_ ?_
      refine c_region ?_
      first
        | refine s_val (v_moveC rfl) rfl ?_
        | refine s_val (v_moveA rfl) rfl ?_
        | refine s_val (v_moveT rfl) rfl ?_
      first
        | refine s_val (v_lssN (b := 0) rfl rfl) rfl ?_
        | refine s_val (v_lssI rfl rfl) rfl ?_
      first
        | refine s_val (v_moveC rfl) rfl ?_
        | refine s_val (v_moveA rfl) rfl ?_
        | refine s_val (v_moveT rfl) rfl ?_
      first
        | refine s_go GOG_ ?_
          first
            | refine s_val (v_moveC rfl) rfl ?_
            | refine s_val (v_moveA rfl) rfl ?_
            | refine s_val (v_moveT rfl) rfl ?_
        | refine s_no GOG_ rfl ?_
      first
        | refine s_go GOG_ ?_
          first
            | refine s_val (v_gtrN (b := 0) rfl rfl) rfl ?_
            | refine s_val (v_gtrI rfl rfl) rfl ?_
        | refine s_no GOG_ rfl ?_
      first
        | refine s_go GOG_ ?_
          first
            | refine s_val (v_moveC rfl) rfl ?_
            | refine s_val (v_moveA rfl) rfl ?_
            | refine s_val (v_moveT rfl) rfl ?_
        | refine s_no GOG_ rfl ?_
      first
        | refine s_go GOG_ ?_
          first
            | refine s_val (v_moveC rfl) rfl ?_
            | refine s_val (v_moveA rfl) rfl ?_
            | refine s_val (v_moveT rfl) rfl ?_
        | refine s_no GOG_ rfl ?_
      first
        | refine s_go GOG_ ?_
          refine s_val (v_unnotB rfl) rfl ?_
        | refine s_no GOG_ rfl ?_
      first
        | refine s_go GOG_ ?_
          first
            | refine s_val (v_pickT rfl PK_ rfl) rfl ?_
            | refine s_val (v_pickF rfl PK_ rfl) rfl ?_
            | refine s_val (v_pickOr rfl rfl rfl) rfl ?_
            | refine s_val (v_pickAnd rfl rfl rfl) rfl ?_
        | refine s_no GOG_ rfl ?_
      first
        | refine s_val (v_pickT rfl PK_ rfl) rfl ?_
        | refine s_val (v_pickF rfl PK_ rfl) rfl ?_
        | refine s_val (v_pickOr rfl rfl rfl) rfl ?_
        | refine s_val (v_pickAnd rfl rfl rfl) rfl ?_
      first
        | refine s_val (v_assignC rfl) rfl ?_
        | refine s_val (v_assignA rfl) rfl ?_
        | refine s_val (v_assignT rfl) rfl ?_
      refine s_nil ?_
      exact ⟨!(numb k), by kernel_rfl, by rw [c4]; rfl⟩
    · refine S_ ?_
      refine c_region ?_
      first
        | refine s_val (v_moveC rfl) rfl ?_
        | refine s_val (v_moveA rfl) rfl ?_
        | refine s_val (v_moveT rfl) rfl ?_
      first
        | refine s_val (v_lssN (b := 0) rfl rfl) rfl ?_
        | refine s_val (v_lssI rfl rfl) rfl ?_
      first
        | refine s_val (v_moveC rfl) rfl ?_
        | refine s_val (v_moveA rfl) rfl ?_
        | refine s_val (v_moveT rfl) rfl ?_
      first
        | refine s_go GOG_ ?_
          first
            | refine s_val (v_moveC rfl) rfl ?_
            | refine s_val (v_moveA rfl) rfl ?_
            | refine s_val (v_moveT rfl) rfl ?_
        | refine s_no GOG_ rfl ?_
      first
        | refine s_go GOG_ ?_
          first
            | refine s_val (v_gtrN (b := 0) rfl rfl) rfl ?_
            | refine s_val (v_gtrI rfl rfl) rfl ?_
        | refine s_no GOG_ rfl ?_
      first
        | refine s_go GOG_ ?_
          first
            | refine s_val (v_moveC rfl) rfl ?_
            | refine s_val (v_moveA rfl) rfl ?_
            | refine s_val (v_moveT rfl) rfl ?_
        | refine s_no GOG_ rfl ?_
      first
        | refine s_go GOG_ ?_
          first
            | refine s_val (v_moveC rfl) rfl ?_
            | refine s_val (v_moveA rfl) rfl ?_
            | refine s_val (v_moveT rfl) rfl ?_
        | refine s_no GOG_ rfl ?_
      first
        | refine s_go GOG_ ?_
          refine s_val (v_unnotB rfl) rfl ?_
        | refine s_no GOG_ rfl ?_
      first
        | refine s_go GOG_ ?_
          first
            | refine s_val (v_pickT rfl PK_ rfl) rfl ?_
            | refine s_val (v_pickF rfl PK_ rfl) rfl ?_
            | refine s_val (v_pickOr rfl rfl rfl) rfl ?_
            | refine s_val (v_pickAnd rfl rfl rfl) rfl ?_
        | refine s_no GOG_ rfl ?_
      first
        | refine s_val (v_pickT rfl PK_ rfl) rfl ?_
        | refine s_val (v_pickF rfl PK_ rfl) rfl ?_
        | refine s_val (v_pickOr rfl rfl rfl) rfl ?_
        | refine s_val (v_pickAnd rfl rfl rfl) rfl ?_
      first
        | refine s_val (v_assignC rfl) rfl ?_
        | refine s_val (v_assignA rfl) rfl ?_
        | refine s_val (v_assignT rfl) rfl ?_
      refine s_nil ?_
      exact ⟨false, by kernel_rfl, rfl⟩
  refine S_ ?_
  refine c_region ?_
  first
    | refine s_val (v_moveC rfl) rfl ?_
    | refine s_val (v_moveA rfl) rfl ?_
    | refine s_val (v_moveT rfl) rfl ?_
  first
    | refine s_val (v_lenS rfl Tryz.underlying41) rfl ?_
    | refine s_val (v_lenN rfl Tryz.underlying41) rfl ?_
    | refine s_val (v_lenE rfl Tryz.underlying41) rfl ?_
    | refine s_val (v_lenB rfl Tryz.underlying41 rfl) rfl ?_
    | refine s_val (v_lenZ rfl Tryz.underlying41 rfl) rfl ?_
  first
    | refine s_val (v_moveC rfl) rfl ?_
    | refine s_val (v_moveA rfl) rfl ?_
    | refine s_val (v_moveT rfl) rfl ?_
  first
    | refine s_val (v_lssN rfl rfl) rfl ?_
    | refine s_val (v_lssI rfl rfl) rfl ?_
  first
    | refine s_val (v_moveC rfl) rfl ?_
    | refine s_val (v_moveA rfl) rfl ?_
    | refine s_val (v_moveT rfl) rfl ?_
  first
    | refine s_go GOG_ ?_
      first
        | refine s_val (v_moveC rfl) rfl ?_
        | refine s_val (v_moveA rfl) rfl ?_
        | refine s_val (v_moveT rfl) rfl ?_
    | refine s_no GOG_ rfl ?_
  first
    | refine s_go GOG_ ?_
      first
        | refine s_val (v_lenS rfl Tryz.underlying41) rfl ?_
        | refine s_val (v_lenN rfl Tryz.underlying41) rfl ?_
        | refine s_val (v_lenE rfl Tryz.underlying41) rfl ?_
        | refine s_val (v_lenB rfl Tryz.underlying41 rfl) rfl ?_
        | refine s_val (v_lenZ rfl Tryz.underlying41 rfl) rfl ?_
    | refine s_no GOG_ rfl ?_
  first
    | refine s_go GOG_ ?_
      first
        | refine s_val (v_moveC rfl) rfl ?_
        | refine s_val (v_moveA rfl) rfl ?_
        | refine s_val (v_moveT rfl) rfl ?_
    | refine s_no GOG_ rfl ?_
  first
    | refine s_go GOG_ ?_
      first
        | refine s_val (v_gtrN rfl rfl) rfl ?_
        | refine s_val (v_gtrI rfl rfl) rfl ?_
    | refine s_no GOG_ rfl ?_
  first
    | refine s_val (v_pickT rfl PK_ rfl) rfl ?_
    | refine s_val (v_pickF rfl PK_ rfl) rfl ?_
    | refine s_val (v_pickOr rfl rfl rfl) rfl ?_
    | refine s_val (v_pickAnd rfl rfl rfl) rfl ?_
  first
    | refine s_val (v_assignC rfl) rfl ?_
    | refine s_val (v_assignA rfl) rfl ?_
    | refine s_val (v_assignT rfl) rfl ?_
  refine s_nil ?_
  refine S_ ?_
  refine c_region ?_
  first
    | refine s_val (v_moveC rfl) rfl ?_
    | refine s_val (v_moveA rfl) rfl ?_
    | refine s_val (v_moveT rfl) rfl ?_
  first
    | refine s_val (v_moveC rfl) rfl ?_
    | refine s_val (v_moveA rfl) rfl ?_
    | refine s_val (v_moveT rfl) rfl ?_
  refine s_evN (e_callR (has_ev L (arEnt L) N a m cap hN (by omega) hm (by omega)) ok_41 rfl rfl rfl VAL_) APP_ rfl ?_
  refine s_val (v_unnotB rfl) rfl ?_
  first
    | refine s_val (v_assignC rfl) rfl ?_
    | refine s_val (v_assignA rfl) rfl ?_
    | refine s_val (v_assignT rfl) rfl ?_
  refine s_nil ?_
  refine Q_ ?_
  refine c_condF rfl (by rw [c7]; rfl) ?_
  refine S_ ?_
  refine c_region ?_
  first
    | refine s_val (v_moveC rfl) rfl ?_
    | refine s_val (v_moveA rfl) rfl ?_
    | refine s_val (v_moveT rfl) rfl ?_
  first
    | refine s_val (v_moveC rfl) rfl ?_
    | refine s_val (v_moveA rfl) rfl ?_
    | refine s_val (v_moveT rfl) rfl ?_
  first
    | refine s_val (v_moveC rfl) rfl ?_
    | refine s_val (v_moveA rfl) rfl ?_
    | refine s_val (v_moveT rfl) rfl ?_
  refine s_evN (e_callR (key_ev k n a m cap hm hml hr) ok_42 rfl rfl rfl VAL_) APP_ rfl ?_
  first
    | refine s_val (v_assignC rfl) rfl ?_
    | refine s_val (v_assignA rfl) rfl ?_
    | refine s_val (v_assignT rfl) rfl ?_
  refine s_nil ?_
  refine S_ ?_
  refine c_region ?_
  first
    | refine s_val (v_moveC rfl) rfl ?_
    | refine s_val (v_moveA rfl) rfl ?_
    | refine s_val (v_moveT rfl) rfl ?_
  refine s_val (v_nilP rfl) rfl ?_
  refine s_val (v_fieldP rfl (fa_75_1 _ _)) rfl ?_
  refine s_val (v_load rfl rfl row_73 LT_ rfl) rfl ?_
  first
    | refine s_val (v_moveC rfl) rfl ?_
    | refine s_val (v_moveA rfl) rfl ?_
    | refine s_val (v_moveT rfl) rfl ?_
  refine s_ev (o_look1 (c := .val (.int .i64 (i : Int))) Tryz.underlying73 Tryz.underlying9 rfl rfl rfl hA.keyed (by have h := mem_arEnt (findN_some hf).1; rw [(findN_some hf).2] at h; exact h)) rfl ?_
  first
    | refine s_val (v_moveC rfl) rfl ?_
    | refine s_val (v_moveA rfl) rfl ?_
    | refine s_val (v_moveT rfl) rfl ?_
  refine s_val (v_extract rfl rfl) rfl ?_
  refine s_val (v_extract rfl rfl) rfl ?_
  first
    | refine s_val (v_assignC rfl) rfl ?_
    | refine s_val (v_assignA rfl) rfl ?_
    | refine s_val (v_assignT rfl) rfl ?_
  first
    | refine s_val (v_assignC rfl) rfl ?_
    | refine s_val (v_assignA rfl) rfl ?_
    | refine s_val (v_assignT rfl) rfl ?_
  refine s_nil ?_
  refine S_ ?_
  refine c_region ?_
  first
    | refine s_val (v_moveC rfl) rfl ?_
    | refine s_val (v_moveA rfl) rfl ?_
    | refine s_val (v_moveT rfl) rfl ?_
  first
    | refine s_val (v_assignC rfl) rfl ?_
    | refine s_val (v_assignA rfl) rfl ?_
    | refine s_val (v_assignT rfl) rfl ?_
  refine s_nil ?_
  refine S_ ?_
  refine c_region ?_
  first
    | refine s_val (v_moveC rfl) rfl ?_
    | refine s_val (v_moveA rfl) rfl ?_
    | refine s_val (v_moveT rfl) rfl ?_
  first
    | refine s_val (v_assignC rfl) rfl ?_
    | refine s_val (v_assignA rfl) rfl ?_
    | refine s_val (v_assignT rfl) rfl ?_
  refine s_val (v_assignC rfl) rfl ?_
  refine s_nil ?_
  refine S_ ?_
  exact k_2 (by first | exact r_tmpC rfl | exact r_tmpA rfl) (by first | exact r_tmpC rfl | exact r_tmpA rfl) (by first | kernel_rfl | rfl)
set_option maxRecDepth 100000 in
set_option maxHeartbeats 4000000 in
theorem mkN_ev (L : List Nd) (N : Nat) (k n : Int) (a : List Int) (m cap : Nat) (hA : ArOk L) (hN : L.length = N) (hNl : N ≤ 1000000) (hm : a.length = m) (hml : m ≤ 1000) (hr : ∀ x ∈ k :: n :: a, -9223372036854775808 ≤ x ∧ x ≤ 9223372036854775807) (he : mkErr N k n a = 0) (hf : findN L ⟨k, n, a⟩ = none) : Ev Tryz.prog (.call 21 [.c (.ptr 0 0), .c (.val (.int .i64 k)), .c (.val (.int .i64 n)), .c (.sl 1 0 m cap 1)] [.row true (.ac [.sl 2 0 N N 3, .mp 3]), .row false (.ai a), .row true (.an L), .row true (.mp (arEnt L))]) (.val (.tup [.c (.val (.int .i64 ((N : Nat) : Int))), .c (.val (.int .i64 ((0 : Nat) : Int)))]) [.row true (.ac [.sl 4 0 (N + 1) (N + 1) 3, .mp 3]), .row false (.ai a), .dead, .row true (.mp (arEnt (L ++ [⟨k, n, a⟩]))), .row true (.an (L ++ [⟨k, n, a⟩]))]) := by
  have hok := mkErr_ok he
  have c1 := hok.kind
  dsimp only at c1
  have c2 : ¬ (n < 0 ∨ (0 < n ∧ numb k = false)) := by
    have h3 := hok.num
    dsimp only at h3
    rintro (h | ⟨h, h2⟩)
    · omega
    · rw [h3.2 h] at h2; cases h2
  have c2n : ¬ n < 0 := fun h => c2 (.inl h)
  have c5 := hok.len
  dsimp only at c5
  have ml := mostK_le k
  have c7 : hasB N a = true := by
    cases hq : hasB N a with
    | true => rfl
    | false => revert he; unfold mkErr; rw [if_neg (by omega), if_neg c2, if_neg (by omega), if_pos hq]; intro h; cases h
  refine c_call Tryz.func21 rfl Tryz.ntmps21 rfl LEN_ ?_
  refine S_ ?_
  refine c_region ?_
  refine s_val (v_assignC rfl) rfl ?_
  refine s_val (v_assignC rfl) rfl ?_
  refine s_nil ?_
  refine S_ ?_
  refine c_cutK [0, 1, 2, 3, 10] (fun (q : Bool) => ⟨118, keepT [0, 1, 2, 3, 10] [.c (.ptr 0 0), .c (.val (.int .i64 k)), .c (.val (.int .i64 n)), .c (.sl 1 0 m cap 1), .c (.val (.bool q))], [.row true (.ac [.sl 2 0 N N 3, .mp 3]), .row false (.ai a), .row true (.an L), .row true (.mp (arEnt L))]⟩) (numb k) ?_ ?_
  · by_cases h1 : k = 1
    · refine S_ ?_
      refine c_region ?_
      first
        | refine s_val (v_moveC rfl) rfl ?_
        | refine s_val (v_moveA rfl) rfl ?_
        | refine s_val (v_moveT rfl) rfl ?_
      first
        | refine s_val (v_eqlN (b := 1) rfl rfl) rfl ?_
        | refine s_val (v_eqlD rfl rfl) rfl ?_
      first
        | refine s_val (v_moveC rfl) rfl ?_
        | refine s_val (v_moveA rfl) rfl ?_
        | refine s_val (v_moveT rfl) rfl ?_
      first
        | refine s_go GOG_ ?_
          first
            | refine s_val (v_moveC rfl) rfl ?_
            | refine s_val (v_moveA rfl) rfl ?_
            | refine s_val (v_moveT rfl) rfl ?_
        | refine s_no GOG_ rfl ?_
      first
        | refine s_go GOG_ ?_
          first
            | refine s_val (v_eqlN (b := 2) rfl rfl) rfl ?_
            | refine s_val (v_eqlD rfl rfl) rfl ?_
        | refine s_no GOG_ rfl ?_
      first
        | refine s_val (v_pickT rfl PK_ rfl) rfl ?_
        | refine s_val (v_pickF rfl PK_ rfl) rfl ?_
        | refine s_val (v_pickOr rfl rfl rfl) rfl ?_
        | refine s_val (v_pickAnd rfl rfl rfl) rfl ?_
      first
        | refine s_val (v_moveC rfl) rfl ?_
        | refine s_val (v_moveA rfl) rfl ?_
        | refine s_val (v_moveT rfl) rfl ?_
      first
        | refine s_go GOG_ ?_
          first
            | refine s_val (v_moveC rfl) rfl ?_
            | refine s_val (v_moveA rfl) rfl ?_
            | refine s_val (v_moveT rfl) rfl ?_
        | refine s_no GOG_ rfl ?_
      first
        | refine s_go GOG_ ?_
          first
            | refine s_val (v_eqlN (b := 4) rfl rfl) rfl ?_
            | refine s_val (v_eqlD rfl rfl) rfl ?_
        | refine s_no GOG_ rfl ?_
      first
        | refine s_val (v_pickT rfl PK_ rfl) rfl ?_
        | refine s_val (v_pickF rfl PK_ rfl) rfl ?_
        | refine s_val (v_pickOr rfl rfl rfl) rfl ?_
        | refine s_val (v_pickAnd rfl rfl rfl) rfl ?_
      first
        | refine s_val (v_assignC rfl) rfl ?_
        | refine s_val (v_assignA rfl) rfl ?_
        | refine s_val (v_assignT rfl) rfl ?_
      refine s_nil ?_
      exact ⟨true, by kernel_rfl, by simp [numb, h1]⟩
    · by_cases h2 : k = 2
      · refine S_ ?_
        refine c_region ?_
        first
          | refine s_val (v_moveC rfl) rfl ?_
          | refine s_val (v_moveA rfl) rfl ?_
          | refine s_val (v_moveT rfl) rfl ?_
        first
          | refine s_val (v_eqlN (b := 1) rfl rfl) rfl ?_
          | refine s_val (v_eqlD rfl rfl) rfl ?_
        first
          | refine s_val (v_moveC rfl) rfl ?_
          | refine s_val (v_moveA rfl) rfl ?_
          | refine s_val (v_moveT rfl) rfl ?_
        first
          | refine s_go GOG_ ?_
            first
              | refine s_val (v_moveC rfl) rfl ?_
              | refine s_val (v_moveA rfl) rfl ?_
              | refine s_val (v_moveT rfl) rfl ?_
          | refine s_no GOG_ rfl ?_
        first
          | refine s_go GOG_ ?_
            first
              | refine s_val (v_eqlN (b := 2) rfl rfl) rfl ?_
              | refine s_val (v_eqlD rfl rfl) rfl ?_
          | refine s_no GOG_ rfl ?_
        first
          | refine s_val (v_pickT rfl PK_ rfl) rfl ?_
          | refine s_val (v_pickF rfl PK_ rfl) rfl ?_
          | refine s_val (v_pickOr rfl rfl rfl) rfl ?_
          | refine s_val (v_pickAnd rfl rfl rfl) rfl ?_
        first
          | refine s_val (v_moveC rfl) rfl ?_
          | refine s_val (v_moveA rfl) rfl ?_
          | refine s_val (v_moveT rfl) rfl ?_
        first
          | refine s_go GOG_ ?_
            first
              | refine s_val (v_moveC rfl) rfl ?_
              | refine s_val (v_moveA rfl) rfl ?_
              | refine s_val (v_moveT rfl) rfl ?_
          | refine s_no GOG_ rfl ?_
        first
          | refine s_go GOG_ ?_
            first
              | refine s_val (v_eqlN (b := 4) rfl rfl) rfl ?_
              | refine s_val (v_eqlD rfl rfl) rfl ?_
          | refine s_no GOG_ rfl ?_
        first
          | refine s_val (v_pickT rfl PK_ rfl) rfl ?_
          | refine s_val (v_pickF rfl PK_ rfl) rfl ?_
          | refine s_val (v_pickOr rfl rfl rfl) rfl ?_
          | refine s_val (v_pickAnd rfl rfl rfl) rfl ?_
        first
          | refine s_val (v_assignC rfl) rfl ?_
          | refine s_val (v_assignA rfl) rfl ?_
          | refine s_val (v_assignT rfl) rfl ?_
        refine s_nil ?_
        exact ⟨true, by kernel_rfl, by simp [numb, h2]⟩
      · refine S_ ?_
        refine c_region ?_
        first
          | refine s_val (v_moveC rfl) rfl ?_
          | refine s_val (v_moveA rfl) rfl ?_
          | refine s_val (v_moveT rfl) rfl ?_
        first
          | refine s_val (v_eqlN (b := 1) rfl rfl) rfl ?_
          | refine s_val (v_eqlD rfl rfl) rfl ?_
        first
          | refine s_val (v_moveC rfl) rfl ?_
          | refine s_val (v_moveA rfl) rfl ?_
          | refine s_val (v_moveT rfl) rfl ?_
        first
          | refine s_go GOG_ ?_
            first
              | refine s_val (v_moveC rfl) rfl ?_
              | refine s_val (v_moveA rfl) rfl ?_
              | refine s_val (v_moveT rfl) rfl ?_
          | refine s_no GOG_ rfl ?_
        first
          | refine s_go GOG_ ?_
            first
              | refine s_val (v_eqlN (b := 2) rfl rfl) rfl ?_
              | refine s_val (v_eqlD rfl rfl) rfl ?_
          | refine s_no GOG_ rfl ?_
        first
          | refine s_val (v_pickT rfl PK_ rfl) rfl ?_
          | refine s_val (v_pickF rfl PK_ rfl) rfl ?_
          | refine s_val (v_pickOr rfl rfl rfl) rfl ?_
          | refine s_val (v_pickAnd rfl rfl rfl) rfl ?_
        first
          | refine s_val (v_moveC rfl) rfl ?_
          | refine s_val (v_moveA rfl) rfl ?_
          | refine s_val (v_moveT rfl) rfl ?_
        first
          | refine s_go GOG_ ?_
            first
              | refine s_val (v_moveC rfl) rfl ?_
              | refine s_val (v_moveA rfl) rfl ?_
              | refine s_val (v_moveT rfl) rfl ?_
          | refine s_no GOG_ rfl ?_
        first
          | refine s_go GOG_ ?_
            first
              | refine s_val (v_eqlN (b := 4) rfl rfl) rfl ?_
              | refine s_val (v_eqlD rfl rfl) rfl ?_
          | refine s_no GOG_ rfl ?_
        first
          | refine s_val (v_pickT rfl PK_ rfl) rfl ?_
          | refine s_val (v_pickF rfl PK_ rfl) rfl ?_
          | refine s_val (v_pickOr rfl rfl rfl) rfl ?_
          | refine s_val (v_pickAnd rfl rfl rfl) rfl ?_
        first
          | refine s_val (v_assignC rfl) rfl ?_
          | refine s_val (v_assignA rfl) rfl ?_
          | refine s_val (v_assignT rfl) rfl ?_
        refine s_nil ?_
        exact ⟨decide (k = 4), by kernel_rfl, by simp [numb, h1, h2]⟩
  refine S_ ?_
  refine c_region ?_
  first
    | refine s_val (v_moveC rfl) rfl ?_
    | refine s_val (v_moveA rfl) rfl ?_
    | refine s_val (v_moveT rfl) rfl ?_
  refine s_evN (e_callR (many_ev k) ok_40 rfl rfl rfl VAL_) APP_ rfl ?_
  first
    | refine s_val (v_moveC rfl) rfl ?_
    | refine s_val (v_moveA rfl) rfl ?_
    | refine s_val (v_moveT rfl) rfl ?_
  refine s_val (v_extract rfl rfl) rfl ?_
  refine s_val (v_extract rfl rfl) rfl ?_
  first
    | refine s_val (v_assignC rfl) rfl ?_
    | refine s_val (v_assignA rfl) rfl ?_
    | refine s_val (v_assignT rfl) rfl ?_
  first
    | refine s_val (v_assignC rfl) rfl ?_
    | refine s_val (v_assignA rfl) rfl ?_
    | refine s_val (v_assignT rfl) rfl ?_
  refine s_nil ?_
  refine S_ ?_
  refine c_region ?_
  first
    | refine s_val (v_moveC rfl) rfl ?_
    | refine s_val (v_moveA rfl) rfl ?_
    | refine s_val (v_moveT rfl) rfl ?_
  first
    | refine s_val (v_lssN (b := 1) rfl rfl) rfl ?_
    | refine s_val (v_lssI rfl rfl) rfl ?_
  first
    | refine s_val (v_moveC rfl) rfl ?_
    | refine s_val (v_moveA rfl) rfl ?_
    | refine s_val (v_moveT rfl) rfl ?_
  first
    | refine s_go GOG_ ?_
      first
        | refine s_val (v_moveC rfl) rfl ?_
        | refine s_val (v_moveA rfl) rfl ?_
        | refine s_val (v_moveT rfl) rfl ?_
    | refine s_no GOG_ rfl ?_
  first
    | refine s_go GOG_ ?_
      first
        | refine s_val (v_gtrN (b := 9) rfl rfl) rfl ?_
        | refine s_val (v_gtrI rfl rfl) rfl ?_
    | refine s_no GOG_ rfl ?_
  first
    | refine s_val (v_pickT rfl PK_ rfl) rfl ?_
    | refine s_val (v_pickF rfl PK_ rfl) rfl ?_
    | refine s_val (v_pickOr rfl rfl rfl) rfl ?_
    | refine s_val (v_pickAnd rfl rfl rfl) rfl ?_
  first
    | refine s_val (v_assignC rfl) rfl ?_
    | refine s_val (v_assignA rfl) rfl ?_
    | refine s_val (v_assignT rfl) rfl ?_
  refine s_nil ?_
  refine S_ ?_
  refine c_cutK [0, 1, 2, 3, 11, 12, 38] (fun (q : Bool) => ⟨118, keepT [0, 1, 2, 3, 11, 12, 38] [.c (.ptr 0 0), .c (.val (.int .i64 k)), .c (.val (.int .i64 n)), .c (.sl 1 0 m cap 1), .c (.val (.int .i64 ((leastK k : Nat) : Int))), .c (.val (.int .i64 ((mostK k : Nat) : Int))), .c (.val (.bool q))], [.row true (.ac [.sl 2 0 N N 3, .mp 3]), .row false (.ai a), .row true (.an L), .row true (.mp (arEnt L))]⟩) false ?_ ?_
  · by_cases c3 : 0 < n
    · have c4 : numb k = true := by cases hq : numb k with
        | true => rfl
        | false => exact absurd (Or.inr ⟨c3, hq⟩) c2
      refine S_ ?_
      refine c_region ?_
      first
        | refine s_val (v_moveC rfl) rfl ?_
        | refine s_val (v_moveA rfl) rfl ?_
        | refine s_val (v_moveT rfl) rfl ?_
      first
        | refine s_val (v_lssN (b := 0) rfl rfl) rfl ?_
        | refine s_val (v_lssI rfl rfl) rfl ?_
      first
        | refine s_val (v_moveC rfl) rfl ?_
        | refine s_val (v_moveA rfl) rfl ?_
        | refine s_val (v_moveT rfl) rfl ?_
      first
        | refine s_go GOG_ ?_
          first
            | refine s_val (v_moveC rfl) rfl ?_
            | refine s_val (v_moveA rfl) rfl ?_
            | refine s_val (v_moveT rfl) rfl ?_
        | refine s_no GOG_ rfl ?_
      first
        | refine s_go GOG_ ?_
          first
            | refine s_val (v_gtrN (b := 0) rfl rfl) rfl ?_
            | refine s_val (v_gtrI rfl rfl) rfl ?_
        | refine s_no GOG_ rfl ?_
      first
        | refine s_go GOG_ ?_
          first
            | refine s_val (v_moveC rfl) rfl ?_
            | refine s_val (v_moveA rfl) rfl ?_
            | refine s_val (v_moveT rfl) rfl ?_
        | refine s_no GOG_ rfl ?_
      first
        | refine s_go GOG_ ?_
          first
            | refine s_val (v_moveC rfl) rfl ?_
            | refine s_val (v_moveA rfl) rfl ?_
            | refine s_val (v_moveT rfl) rfl ?_
        | refine s_no GOG_ rfl ?_
      first
        | refine s_go GOG_ ?_
          refine s_val (v_unnotB rfl) rfl ?_
        | refine s_no GOG_ rfl ?_
      first
        | refine s_go GOG_ ?_
          first
            | refine s_val (v_pickT rfl PK_ rfl) rfl ?_
            | refine s_val (v_pickF rfl PK_ rfl) rfl ?_
            | refine s_val (v_pickOr rfl rfl rfl) rfl ?_
            | refine s_val (v_pickAnd rfl rfl rfl) rfl ?_
        | refine s_no GOG_ rfl ?_
      first
        | refine s_val (v_pickT rfl PK_ rfl) rfl ?_
        | refine s_val (v_pickF rfl PK_ rfl) rfl ?_
        | refine s_val (v_pickOr rfl rfl rfl) rfl ?_
        | refine s_val (v_pickAnd rfl rfl rfl) rfl ?_
      first
        | refine s_val (v_assignC rfl) rfl ?_
        | refine s_val (v_assignA rfl) rfl ?_
        | refine s_val (v_assignT rfl) rfl ?_
      refine s_nil ?_
      exact ⟨!(numb k), by kernel_rfl, by rw [c4]; rfl⟩
    · refine S_ ?_
      refine c_region ?_
      first
        | refine s_val (v_moveC rfl) rfl ?_
        | refine s_val (v_moveA rfl) rfl ?_
        | refine s_val (v_moveT rfl) rfl ?_
      first
        | refine s_val (v_lssN (b := 0) rfl rfl) rfl ?_
        | refine s_val (v_lssI rfl rfl) rfl ?_
      first
        | refine s_val (v_moveC rfl) rfl ?_
        | refine s_val (v_moveA rfl) rfl ?_
        | refine s_val (v_moveT rfl) rfl ?_
      first
        | refine s_go GOG_ ?_
          first
            | refine s_val (v_moveC rfl) rfl ?_
            | refine s_val (v_moveA rfl) rfl ?_
            | refine s_val (v_moveT rfl) rfl ?_
        | refine s_no GOG_ rfl ?_
      first
        | refine s_go GOG_ ?_
          first
            | refine s_val (v_gtrN (b := 0) rfl rfl) rfl ?_
            | refine s_val (v_gtrI rfl rfl) rfl ?_
        | refine s_no GOG_ rfl ?_
      first
        | refine s_go GOG_ ?_
          first
            | refine s_val (v_moveC rfl) rfl ?_
            | refine s_val (v_moveA rfl) rfl ?_
            | refine s_val (v_moveT rfl) rfl ?_
        | refine s_no GOG_ rfl ?_
      first
        | refine s_go GOG_ ?_
          first
            | refine s_val (v_moveC rfl) rfl ?_
            | refine s_val (v_moveA rfl) rfl ?_
            | refine s_val (v_moveT rfl) rfl ?_
        | refine s_no GOG_ rfl ?_
      first
        | refine s_go GOG_ ?_
          refine s_val (v_unnotB rfl) rfl ?_
        | refine s_no GOG_ rfl ?_
      first
        | refine s_go GOG_ ?_
          first
            | refine s_val (v_pickT rfl PK_ rfl) rfl ?_
            | refine s_val (v_pickF rfl PK_ rfl) rfl ?_
            | refine s_val (v_pickOr rfl rfl rfl) rfl ?_
            | refine s_val (v_pickAnd rfl rfl rfl) rfl ?_
        | refine s_no GOG_ rfl ?_
      first
        | refine s_val (v_pickT rfl PK_ rfl) rfl ?_
        | refine s_val (v_pickF rfl PK_ rfl) rfl ?_
        | refine s_val (v_pickOr rfl rfl rfl) rfl ?_
        | refine s_val (v_pickAnd rfl rfl rfl) rfl ?_
      first
        | refine s_val (v_assignC rfl) rfl ?_
        | refine s_val (v_assignA rfl) rfl ?_
        | refine s_val (v_assignT rfl) rfl ?_
      refine s_nil ?_
      exact ⟨false, by kernel_rfl, rfl⟩
  refine S_ ?_
  refine c_region ?_
  first
    | refine s_val (v_moveC rfl) rfl ?_
    | refine s_val (v_moveA rfl) rfl ?_
    | refine s_val (v_moveT rfl) rfl ?_
  first
    | refine s_val (v_lenS rfl Tryz.underlying41) rfl ?_
    | refine s_val (v_lenN rfl Tryz.underlying41) rfl ?_
    | refine s_val (v_lenE rfl Tryz.underlying41) rfl ?_
    | refine s_val (v_lenB rfl Tryz.underlying41 rfl) rfl ?_
    | refine s_val (v_lenZ rfl Tryz.underlying41 rfl) rfl ?_
  first
    | refine s_val (v_moveC rfl) rfl ?_
    | refine s_val (v_moveA rfl) rfl ?_
    | refine s_val (v_moveT rfl) rfl ?_
  first
    | refine s_val (v_lssN rfl rfl) rfl ?_
    | refine s_val (v_lssI rfl rfl) rfl ?_
  first
    | refine s_val (v_moveC rfl) rfl ?_
    | refine s_val (v_moveA rfl) rfl ?_
    | refine s_val (v_moveT rfl) rfl ?_
  first
    | refine s_go GOG_ ?_
      first
        | refine s_val (v_moveC rfl) rfl ?_
        | refine s_val (v_moveA rfl) rfl ?_
        | refine s_val (v_moveT rfl) rfl ?_
    | refine s_no GOG_ rfl ?_
  first
    | refine s_go GOG_ ?_
      first
        | refine s_val (v_lenS rfl Tryz.underlying41) rfl ?_
        | refine s_val (v_lenN rfl Tryz.underlying41) rfl ?_
        | refine s_val (v_lenE rfl Tryz.underlying41) rfl ?_
        | refine s_val (v_lenB rfl Tryz.underlying41 rfl) rfl ?_
        | refine s_val (v_lenZ rfl Tryz.underlying41 rfl) rfl ?_
    | refine s_no GOG_ rfl ?_
  first
    | refine s_go GOG_ ?_
      first
        | refine s_val (v_moveC rfl) rfl ?_
        | refine s_val (v_moveA rfl) rfl ?_
        | refine s_val (v_moveT rfl) rfl ?_
    | refine s_no GOG_ rfl ?_
  first
    | refine s_go GOG_ ?_
      first
        | refine s_val (v_gtrN rfl rfl) rfl ?_
        | refine s_val (v_gtrI rfl rfl) rfl ?_
    | refine s_no GOG_ rfl ?_
  first
    | refine s_val (v_pickT rfl PK_ rfl) rfl ?_
    | refine s_val (v_pickF rfl PK_ rfl) rfl ?_
    | refine s_val (v_pickOr rfl rfl rfl) rfl ?_
    | refine s_val (v_pickAnd rfl rfl rfl) rfl ?_
  first
    | refine s_val (v_assignC rfl) rfl ?_
    | refine s_val (v_assignA rfl) rfl ?_
    | refine s_val (v_assignT rfl) rfl ?_
  refine s_nil ?_
  refine S_ ?_
  refine c_region ?_
  first
    | refine s_val (v_moveC rfl) rfl ?_
    | refine s_val (v_moveA rfl) rfl ?_
    | refine s_val (v_moveT rfl) rfl ?_
  first
    | refine s_val (v_moveC rfl) rfl ?_
    | refine s_val (v_moveA rfl) rfl ?_
    | refine s_val (v_moveT rfl) rfl ?_
  refine s_evN (e_callR (has_ev L (arEnt L) N a m cap hN (by omega) hm (by omega)) ok_41 rfl rfl rfl VAL_) APP_ rfl ?_
  refine s_val (v_unnotB rfl) rfl ?_
  first
    | refine s_val (v_assignC rfl) rfl ?_
    | refine s_val (v_assignA rfl) rfl ?_
    | refine s_val (v_assignT rfl) rfl ?_
  refine s_nil ?_
  refine Q_ ?_
  refine c_condF rfl (by rw [c7]; rfl) ?_
  refine S_ ?_
  refine c_region ?_
  first
    | refine s_val (v_moveC rfl) rfl ?_
    | refine s_val (v_moveA rfl) rfl ?_
    | refine s_val (v_moveT rfl) rfl ?_
  first
    | refine s_val (v_moveC rfl) rfl ?_
    | refine s_val (v_moveA rfl) rfl ?_
    | refine s_val (v_moveT rfl) rfl ?_
  first
    | refine s_val (v_moveC rfl) rfl ?_
    | refine s_val (v_moveA rfl) rfl ?_
    | refine s_val (v_moveT rfl) rfl ?_
  refine s_evN (e_callR (key_ev k n a m cap hm hml hr) ok_42 rfl rfl rfl VAL_) APP_ rfl ?_
  first
    | refine s_val (v_assignC rfl) rfl ?_
    | refine s_val (v_assignA rfl) rfl ?_
    | refine s_val (v_assignT rfl) rfl ?_
  refine s_nil ?_
  refine S_ ?_
  refine c_region ?_
  first
    | refine s_val (v_moveC rfl) rfl ?_
    | refine s_val (v_moveA rfl) rfl ?_
    | refine s_val (v_moveT rfl) rfl ?_
  refine s_val (v_nilP rfl) rfl ?_
  refine s_val (v_fieldP rfl (fa_75_1 _ _)) rfl ?_
  refine s_val (v_load rfl rfl row_73 LT_ rfl) rfl ?_
  first
    | refine s_val (v_moveC rfl) rfl ?_
    | refine s_val (v_moveA rfl) rfl ?_
    | refine s_val (v_moveT rfl) rfl ?_
  refine s_ev (o_look0 (i := Tryz.t3) (c := .val (.int .i64 0)) Tryz.underlying73 Tryz.underlying9 (by kernel_rfl) (by kernel_rfl) (fun _ => rfl) rfl rfl rfl hA.keyed trivial (not_arEnt hf)) rfl ?_
  first
    | refine s_val (v_moveC rfl) rfl ?_
    | refine s_val (v_moveA rfl) rfl ?_
    | refine s_val (v_moveT rfl) rfl ?_
  refine s_val (v_extract rfl rfl) rfl ?_
  refine s_val (v_extract rfl rfl) rfl ?_
  first
    | refine s_val (v_assignC rfl) rfl ?_
    | refine s_val (v_assignA rfl) rfl ?_
    | refine s_val (v_assignT rfl) rfl ?_
  first
    | refine s_val (v_assignC rfl) rfl ?_
    | refine s_val (v_assignA rfl) rfl ?_
    | refine s_val (v_assignT rfl) rfl ?_
  refine s_nil ?_
  refine S_ ?_
  refine c_region ?_
  first
    | refine s_val (v_moveC rfl) rfl ?_
    | refine s_val (v_moveA rfl) rfl ?_
    | refine s_val (v_moveT rfl) rfl ?_
  first
    | refine s_val (v_assignC rfl) rfl ?_
    | refine s_val (v_assignA rfl) rfl ?_
    | refine s_val (v_assignT rfl) rfl ?_
  refine s_nil ?_
  refine S_ ?_
  refine c_region ?_
  first
    | refine s_val (v_moveC rfl) rfl ?_
    | refine s_val (v_moveA rfl) rfl ?_
    | refine s_val (v_moveT rfl) rfl ?_
  refine s_val (v_nilP rfl) rfl ?_
  refine s_val (v_fieldP rfl (fa_75_0 _ _)) rfl ?_
  refine s_val (v_load rfl rfl row_53 LT_ rfl) rfl ?_
  first
    | refine s_val (v_lenS rfl Tryz.underlying53) rfl ?_
    | refine s_val (v_lenN rfl Tryz.underlying53) rfl ?_
    | refine s_val (v_lenE rfl Tryz.underlying53) rfl ?_
    | refine s_val (v_lenB rfl Tryz.underlying53 rfl) rfl ?_
    | refine s_val (v_lenZ rfl Tryz.underlying53 rfl) rfl ?_
  first
    | refine s_val (v_geqN (b := 1048576) rfl rfl) rfl ?_
    | refine s_val (v_geqI rfl rfl) rfl ?_
  first
    | refine s_val (v_assignC rfl) rfl ?_
    | refine s_val (v_assignA rfl) rfl ?_
    | refine s_val (v_assignT rfl) rfl ?_
  refine s_nil ?_
  refine S_ ?_
  refine c_draw 10 mixed (by kernel_rfl) rfl rfl rfl ?_
  first
    | refine h_val (v_moveC rfl) rfl ?_
    | refine h_val (v_moveA rfl) rfl ?_
    | refine h_val (v_moveT rfl) rfl ?_
  refine h_val (v_nilP rfl) rfl ?_
  refine h_val (v_fieldP rfl (fa_75_1 _ _)) rfl ?_
  refine h_val (v_load rfl rfl row_73 LT_ rfl) rfl ?_
  first
    | refine h_val (v_moveC rfl) rfl ?_
    | refine h_val (v_moveA rfl) rfl ?_
    | refine h_val (v_moveT rfl) rfl ?_
  first
    | refine h_val (v_moveC rfl) rfl ?_
    | refine h_val (v_moveA rfl) rfl ?_
    | refine h_val (v_moveT rfl) rfl ?_
  refine h_val (v_nilP rfl) rfl ?_
  refine h_val (v_fieldP rfl (fa_75_0 _ _)) rfl ?_
  refine h_val (v_load rfl rfl row_53 LT_ rfl) rfl ?_
  first
    | refine h_val (v_lenS rfl Tryz.underlying53) rfl ?_
    | refine h_val (v_lenN rfl Tryz.underlying53) rfl ?_
    | refine h_val (v_lenE rfl Tryz.underlying53) rfl ?_
    | refine h_val (v_lenB rfl Tryz.underlying53 rfl) rfl ?_
    | refine h_val (v_lenZ rfl Tryz.underlying53 rfl) rfl ?_
  refine h_nil ?_
  refine s_ev0 (o_mapNew (c := .val (.int .i64 (N : Int))) Tryz.underlying73 Tryz.underlying9 rfl rfl rfl rfl hA.keyed trivial (not_arEnt hf) SET_) ?_
  refine s_nil ?_
  refine S_ ?_
  refine c_chain [(10, []), (11, [2]), (14, [0])] [0,2] 2 mixed (by kernel_rfl) (by kernel_rfl) ?_
  first
    | refine y_val (v_moveC rfl) rfl ?_
    | refine y_val (v_moveA rfl) rfl ?_
    | refine y_val (v_moveT rfl) rfl ?_
  first
    | refine y_val (v_moveC rfl) rfl ?_
    | refine y_val (v_moveA rfl) rfl ?_
    | refine y_val (v_moveT rfl) rfl ?_
  refine y_val (v_nilP rfl) rfl ?_
  refine y_val (v_fieldP rfl (fa_75_0 _ _)) rfl ?_
  refine y_early [] (by kernel_rfl) (v_load rfl rfl row_53 LT_ rfl) rfl ?_
  first
    | refine y_val (v_moveC rfl) rfl ?_
    | refine y_val (v_moveA rfl) rfl ?_
    | refine y_val (v_moveT rfl) rfl ?_
  first
    | refine y_val (v_moveC rfl) rfl ?_
    | refine y_val (v_moveA rfl) rfl ?_
    | refine y_val (v_moveT rfl) rfl ?_
  first
    | refine y_val (v_moveC rfl) rfl ?_
    | refine y_val (v_moveA rfl) rfl ?_
    | refine y_val (v_moveT rfl) rfl ?_
  refine y_ev (o_nn (e_callR (clone_ev a m cap hm hml) ok_43 rfl rfl rfl rfl)) (fun _ => rfl) rfl ?_
  refine y_val (v_bldNd rfl rfl rfl) rfl ?_
  refine y_chain (Ev.mem (m_bsNd rfl rfl)) rfl AG_ ?_
  refine y_chain (o_appND rfl rfl rfl rfl Tryz.underlying53 Tryz.underlying53 el_58 hN (by omega) LEN_ KILL_) rfl AG_ ?_
  refine y_val (v_nilP rfl) rfl ?_
  refine y_val (v_fieldP rfl (fa_75_0 _ _)) rfl ?_
  refine y_chain0 (o_store (w := .ac [.sl 5 0 (N + 1) (N + 1) 3, .mp 3]) rfl rfl rfl rfl sz_53 (by show 0 < 2; decide) rfl SET_) rfl AG_ ?_
  refine y_nil ?_
  refine S_ ?_
  refine c_region ?_
  first
    | refine s_val (v_moveC rfl) rfl ?_
    | refine s_val (v_moveA rfl) rfl ?_
    | refine s_val (v_moveT rfl) rfl ?_
  refine s_val (v_nilP rfl) rfl ?_
  refine s_val (v_fieldP rfl (fa_75_0 _ _)) rfl ?_
  refine s_val (v_load rfl rfl row_53 LT_ rfl) rfl ?_
  first
    | refine s_val (v_lenS rfl Tryz.underlying53) rfl ?_
    | refine s_val (v_lenN rfl Tryz.underlying53) rfl ?_
    | refine s_val (v_lenE rfl Tryz.underlying53) rfl ?_
    | refine s_val (v_lenB rfl Tryz.underlying53 rfl) rfl ?_
    | refine s_val (v_lenZ rfl Tryz.underlying53 rfl) rfl ?_
  first
    | refine s_val (v_subN (b := 1) rfl rfl (by omega) (by omega)) rfl ?_
    | refine s_val (v_subI rfl rfl (by omega)) rfl ?_
  first
    | refine s_val (v_assignC rfl) rfl ?_
    | refine s_val (v_assignA rfl) rfl ?_
    | refine s_val (v_assignT rfl) rfl ?_
  refine s_val (v_assignC rfl) rfl ?_
  refine s_nil ?_
  refine S_ ?_
  rw [arEnt_app, hN]
  exact k_2 (by first | exact r_tmpC rfl | exact r_tmpA rfl) (by first | exact r_tmpC rfl | exact r_tmpA rfl) (by first | kernel_rfl | rfl)
end Go.Proofs.YtmbepikkgkcgkaaGreatDoor
namespace Go.Proofs.YtmbepikkgkcgkaaGreatDoor
open Go.RowKit
def swp (l : List Int) (i j : Nat) : List Int := (l.set i (geti l j)).set j (geti l i)
def revJ (l : List Int) : Nat → List Int
  | 0 => l
  | j + 1 => swp (revJ l j) j (l.length - 1 - j)
@[simp] theorem swp_length (l : List Int) (i j : Nat) : (swp l i j).length = l.length := by simp [swp]
@[simp] theorem revJ_length (l : List Int) : ∀ j, (revJ l j).length = l.length
  | 0 => rfl
  | j + 1 => by simp [revJ, revJ_length l j]
theorem revJ_get (l : List Int) (j : Nat) (hj : 2 * j ≤ l.length) (i : Nat) (hi : i < l.length) : geti (revJ l j) i = if i < j ∨ l.length - 1 - i < j then geti l (l.length - 1 - i) else geti l i := by
  induction j generalizing i with
  | zero => rw [if_neg (by omega)]; rfl
  | succ j ih =>
    have h1 := ih (by omega)
    simp only [revJ, swp]
    simp only [geti, List.getD_eq_getElem?_getD, List.getElem?_set, List.length_set, revJ_length] at h1 ⊢
    by_cases e1 : l.length - 1 - j = i
    · subst e1
      rw [if_pos rfl, if_pos (by omega), Option.getD_some, h1 j (by omega), if_neg (by omega), if_pos (by omega)]
      congr 2
      omega
    · rw [if_neg e1]
      by_cases e2 : j = i
      · subst e2
        rw [if_pos rfl, if_pos (by omega), Option.getD_some, h1 _ (by omega), if_neg (by omega), if_pos (by omega)]
      · rw [if_neg e2, h1 i hi]
        by_cases e3 : i < j ∨ l.length - 1 - i < j
        · rw [if_pos e3, if_pos (by omega)]
        · rw [if_neg e3, if_neg (by omega)]
theorem revJ_all (l : List Int) (j : Nat) (hj : j = l.length / 2) : revJ l j = l.reverse := by
  apply List.ext_getElem (by simp)
  intro i h1 h2
  simp only [revJ_length] at h1
  have h3 := revJ_get l j (by omega) i h1
  simp only [geti, List.getD_eq_getElem?_getD] at h3
  rw [List.getElem?_eq_getElem (by simpa using h1), Option.getD_some] at h3
  rw [h3, List.getElem_reverse]
  by_cases e : i < j ∨ l.length - 1 - i < j
  · rw [if_pos e, List.getElem?_eq_getElem (by omega), Option.getD_some]
  · rw [if_neg e, List.getElem?_eq_getElem (by omega), Option.getD_some]
    congr 1
    omega
section
variable {P : Program} {S : List Nat} {i : Nat} {M0 : Mem} {ops : Array Oper} {K : St → Prop} {l : List Oper} {N : Nat} {T : Nat → AV} {M M' : Mem} {ty pos af}
theorem x_storeI {t : TypeId} {a v : Operand} {b o : Nat} {x : List Int} {w : Int} (hb : S.contains b = true) (ha : opnd T a = .c (.ptr b o)) (hv : opnd T v = .c (.val (.int .i64 w))) (hm : M[b]? = some (.row true (.ai x))) (hs : szT P t = some 1) (ho : o < x.length) (hM : M.set b (.row true (.ai (puti x o w))) = M')
    (hk : XO P S M0 ops (i + 1) l ⟨N, T, M'⟩ K) : XO P S M0 ops i (⟨none, .store t a v, ty, pos, af, none⟩ :: l) ⟨N, T, M⟩ K := x_store hb ha hv hm rfl hs ho (seti x o w) hM hk
end
set_option maxRecDepth 100000 in
set_option maxHeartbeats 2000000 in
theorem rev_ev (l : List Int) (n cap : Nat) (hl : l.length = n) (hn : n ≤ 2000000) : Ev Tryz.prog (.call 68 [.c (.sl 0 0 n cap 1)] [.row true (.ai l)]) (.val (.tup []) [.row true (.ai l.reverse)]) := by
  refine c_call Tryz.func68 rfl Tryz.ntmps68 rfl LEN_ ?_
  refine S_ ?_
  refine c_region ?_
  first
    | refine s_val (v_moveC rfl) rfl ?_
    | refine s_val (v_moveA rfl) rfl ?_
    | refine s_val (v_moveT rfl) rfl ?_
  first
    | refine s_val (v_lenS rfl Tryz.underlying41) rfl ?_
    | refine s_val (v_lenN rfl Tryz.underlying41) rfl ?_
    | refine s_val (v_lenE rfl Tryz.underlying41) rfl ?_
    | refine s_val (v_lenB rfl Tryz.underlying41 rfl) rfl ?_
    | refine s_val (v_lenZ rfl Tryz.underlying41 rfl) rfl ?_
  first
    | refine s_val (v_subN (b := 1) rfl rfl (by omega) (by omega)) rfl ?_
    | refine s_val (v_subI rfl rfl (by omega)) rfl ?_
  refine s_val (v_assignC rfl) rfl ?_
  first
    | refine s_val (v_assignC rfl) rfl ?_
    | refine s_val (v_assignA rfl) rfl ?_
    | refine s_val (v_assignT rfl) rfl ?_
  refine s_nil ?_
  refine S_ ?_
  refine c_while [0, 2, 3] (fun (zz : Nat × Int × List Int) => ⟨28, keepT [0, 2, 3] [.c (.sl 0 0 n cap 1), .c (.val (.int .i64 (zz.1 : Int))), .c (.val (.int .i64 zz.2.1))], [.row true (.ai zz.2.2)]⟩) (fun zz => n - zz.1) (fun zz => (zz.2.1 = (n : Int) - 1 - (zz.1 : Int) ∧ 2 * zz.1 ≤ n) ∧ zz.2.2 = revJ l zz.1) (0, (n : Int) - 1, l) (by kernel_rfl) ⟨⟨by simp, by simp⟩, rfl⟩ ?_
  rintro ⟨j, x, q⟩ ⟨⟨hx, hj⟩, hq⟩
  dsimp only at hx hj hq ⊢
  by_cases h1 : (j : Int) < x
  · obtain ⟨k, rfl⟩ : ∃ k : Nat, x = (k : Int) := ⟨x.toNat, by omega⟩
    have hqn : q.length = n := by rw [hq]; simp [hl]
    have hs : revJ l (j + 1) = swp q j k := by rw [hq]; simp only [revJ]; congr 1; omega
    clear hq
    refine S_ ?_
    refine c_region ?_
    first
      | refine s_val (v_moveC rfl) rfl ?_
      | refine s_val (v_moveA rfl) rfl ?_
      | refine s_val (v_moveT rfl) rfl ?_
    first
      | refine s_val (v_moveC rfl) rfl ?_
      | refine s_val (v_moveA rfl) rfl ?_
      | refine s_val (v_moveT rfl) rfl ?_
    first
      | refine s_val (v_lssN rfl rfl) rfl ?_
      | refine s_val (v_lssI rfl rfl) rfl ?_
    refine s_nil ?_
    refine S_ ?_
    refine c_stores2 [0] mixed (by kernel_rfl) ?_
    first
      | refine x_val (v_moveC rfl) rfl ?_
      | refine x_val (v_moveA rfl) rfl ?_
      | refine x_val (v_moveT rfl) rfl ?_
    first
      | refine x_val (v_moveC rfl) rfl ?_
      | refine x_val (v_moveA rfl) rfl ?_
      | refine x_val (v_moveT rfl) rfl ?_
    first
      | refine x_val (v_moveC rfl) rfl ?_
      | refine x_val (v_moveA rfl) rfl ?_
      | refine x_val (v_moveT rfl) rfl ?_
    first
      | refine x_val (v_moveC rfl) rfl ?_
      | refine x_val (v_moveA rfl) rfl ?_
      | refine x_val (v_moveT rfl) rfl ?_
    first
      | refine x_val (v_moveC rfl) rfl ?_
      | refine x_val (v_moveA rfl) rfl ?_
      | refine x_val (v_moveT rfl) rfl ?_
    first
      | refine x_val (v_moveC rfl) rfl ?_
      | refine x_val (v_moveA rfl) rfl ?_
      | refine x_val (v_moveT rfl) rfl ?_
    first
      | refine x_val (v_idxS1 rfl rfl Tryz.underlying41 sz_3 (by omega)) rfl ?_
      | refine x_val (v_idxSo rfl rfl Tryz.underlying41 sz_3 (by omega)) rfl ?_
      | refine x_val (v_idxS rfl rfl Tryz.underlying41 sz_3 (by omega)) rfl ?_
      | refine x_val (v_idxZ rfl rfl Tryz.underlying41 sz_3 LT_) rfl ?_
    first | first
      | refine x_val (v_loadN rfl rfl row_3 LT_) rfl ?_
      | refine x_val (v_loadI rfl rfl row_3 LT_) rfl ?_
      | refine x_val (v_loadZ rfl row_3 LT_) rfl ?_
      | refine x_val (v_ndK rfl rfl rfl row_3 LT_) rfl ?_
      | refine x_val (v_load rfl rfl row_3 LT_ rfl) rfl ?_ | first
      | refine x_early (by kernel_rfl) (v_loadN rfl rfl row_3 LT_) rfl ?_
      | refine x_early (by kernel_rfl) (v_loadI rfl rfl row_3 LT_) rfl ?_
      | refine x_early (by kernel_rfl) (v_loadZ rfl row_3 LT_) rfl ?_
      | refine x_early (by kernel_rfl) (v_ndK rfl rfl rfl row_3 LT_) rfl ?_
      | refine x_early (by kernel_rfl) (v_load rfl rfl row_3 LT_ rfl) rfl ?_
    first
      | refine x_val (v_moveC rfl) rfl ?_
      | refine x_val (v_moveA rfl) rfl ?_
      | refine x_val (v_moveT rfl) rfl ?_
    first
      | refine x_val (v_moveC rfl) rfl ?_
      | refine x_val (v_moveA rfl) rfl ?_
      | refine x_val (v_moveT rfl) rfl ?_
    first
      | refine x_val (v_idxS1 rfl rfl Tryz.underlying41 sz_3 (by omega)) rfl ?_
      | refine x_val (v_idxSo rfl rfl Tryz.underlying41 sz_3 (by omega)) rfl ?_
      | refine x_val (v_idxS rfl rfl Tryz.underlying41 sz_3 (by omega)) rfl ?_
      | refine x_val (v_idxZ rfl rfl Tryz.underlying41 sz_3 LT_) rfl ?_
    first | first
      | refine x_val (v_loadN rfl rfl row_3 LT_) rfl ?_
      | refine x_val (v_loadI rfl rfl row_3 LT_) rfl ?_
      | refine x_val (v_loadZ rfl row_3 LT_) rfl ?_
      | refine x_val (v_ndK rfl rfl rfl row_3 LT_) rfl ?_
      | refine x_val (v_load rfl rfl row_3 LT_ rfl) rfl ?_ | first
      | refine x_early (by kernel_rfl) (v_loadN rfl rfl row_3 LT_) rfl ?_
      | refine x_early (by kernel_rfl) (v_loadI rfl rfl row_3 LT_) rfl ?_
      | refine x_early (by kernel_rfl) (v_loadZ rfl row_3 LT_) rfl ?_
      | refine x_early (by kernel_rfl) (v_ndK rfl rfl rfl row_3 LT_) rfl ?_
      | refine x_early (by kernel_rfl) (v_load rfl rfl row_3 LT_ rfl) rfl ?_
    first
      | refine x_val (v_idxS1 rfl rfl Tryz.underlying41 sz_3 (by omega)) rfl ?_
      | refine x_val (v_idxSo rfl rfl Tryz.underlying41 sz_3 (by omega)) rfl ?_
      | refine x_val (v_idxS rfl rfl Tryz.underlying41 sz_3 (by omega)) rfl ?_
      | refine x_val (v_idxZ rfl rfl Tryz.underlying41 sz_3 LT_) rfl ?_
    first
      | refine x_storeN rfl rfl rfl rfl sz_3 LT_ SET_ ?_
      | refine x_storeI rfl rfl rfl rfl sz_3 LT_ SET_ ?_
    first
      | refine x_val (v_idxS1 rfl rfl Tryz.underlying41 sz_3 (by omega)) rfl ?_
      | refine x_val (v_idxSo rfl rfl Tryz.underlying41 sz_3 (by omega)) rfl ?_
      | refine x_val (v_idxS rfl rfl Tryz.underlying41 sz_3 (by omega)) rfl ?_
      | refine x_val (v_idxZ rfl rfl Tryz.underlying41 sz_3 LT_) rfl ?_
    first
      | refine x_storeN rfl rfl rfl rfl sz_3 LT_ SET_ ?_
      | refine x_storeI rfl rfl rfl rfl sz_3 LT_ SET_ ?_
    refine x_nil ?_
    refine S_ ?_
    refine c_region ?_
    first
      | refine s_val (v_moveC rfl) rfl ?_
      | refine s_val (v_moveA rfl) rfl ?_
      | refine s_val (v_moveT rfl) rfl ?_
    first
      | refine s_val (v_addN (b := 1) rfl rfl (by omega)) rfl ?_
      | refine s_val (v_addI rfl rfl (by omega)) rfl ?_
    first
      | refine s_val (v_moveC rfl) rfl ?_
      | refine s_val (v_moveA rfl) rfl ?_
      | refine s_val (v_moveT rfl) rfl ?_
    first
      | refine s_val (v_subN (b := 1) rfl rfl (by omega) (by omega)) rfl ?_
      | refine s_val (v_subI rfl rfl (by omega)) rfl ?_
    first
      | refine s_val (v_assignC rfl) rfl ?_
      | refine s_val (v_assignA rfl) rfl ?_
      | refine s_val (v_assignT rfl) rfl ?_
    first
      | refine s_val (v_assignC rfl) rfl ?_
      | refine s_val (v_assignA rfl) rfl ?_
      | refine s_val (v_assignT rfl) rfl ?_
    refine s_nil ?_
    refine ⟨(j + 1, ((k - 1 : Nat) : Int), swp q j k), by kernel_rfl, ?_, ⟨?_, ?_⟩, hs.symm⟩
    · dsimp only; omega
    · dsimp only; omega
    · dsimp only; omega
  · rw [← revJ_all l j (by omega), ← hq]
    refine S_ ?_
    refine c_region ?_
    first
      | refine s_val (v_moveC rfl) rfl ?_
      | refine s_val (v_moveA rfl) rfl ?_
      | refine s_val (v_moveT rfl) rfl ?_
    first
      | refine s_val (v_moveC rfl) rfl ?_
      | refine s_val (v_moveA rfl) rfl ?_
      | refine s_val (v_moveT rfl) rfl ?_
    first
      | refine s_val (v_lssN rfl rfl) rfl ?_
      | refine s_val (v_lssI rfl rfl) rfl ?_
    refine s_nil ?_
    refine S_ ?_
    exact k_0e (by first | exact .inl rfl | exact .inr rfl) (by first | kernel_rfl | rfl)
end Go.Proofs.YtmbepikkgkcgkaaGreatDoor
namespace Go.Proofs.YtmbepikkgkcgkaaGreatDoor
open Go.RowKit
def ndA (x : Nd) : AV := .agg (.ac [.val (.int .i64 x.k), .val (.int .i64 x.n), .is x.a])
theorem rep_4 (n : Nat) : repArr Tryz.prog 4 n = some (.ac (List.replicate n (.val (.bool false)))) := by kernel_rfl
def mark (c : List Bool) (a : List Int) : List Bool := a.foldl (fun c x => c.set x.toNat true) c
def ben (L : List Nd) : Nat → List Bool → List Int
  | 0, _ => []
  | k + 1, c => if gett c k then (k : Int) :: ben L k (mark c (getn L k).a) else ben L k c
def beneath (L : List Nd) (i : Nat) : List Int := (ben L (i + 1) ((List.replicate (i + 1) false).set i true)).reverse
theorem mark_length (a : List Int) : ∀ c : List Bool, (mark c a).length = c.length := by
  induction a with
  | nil => intro c; rfl
  | cons x a ih => intro c; exact (ih _).trans (by simp)
theorem mark_take (c : List Bool) (a : List Int) (j : Nat) (hj : j < a.length) : mark c (a.take (j + 1)) = (mark c (a.take j)).set (geti a j).toNat true := by
  rw [List.take_succ_eq_append_getElem hj]
  simp only [mark, List.foldl_append, List.foldl_cons, List.foldl_nil, geti, List.getD_eq_getElem?_getD, List.getElem?_eq_getElem hj, Option.getD_some]
theorem ben_length (L : List Nd) : ∀ k c, (ben L k c).length ≤ k
  | 0, _ => Nat.le_refl _
  | k + 1, c => by
    unfold ben
    split
    · exact Nat.succ_le_succ (ben_length L k _)
    · exact Nat.le_succ_of_le (ben_length L k _)
theorem beneath_length (L : List Nd) (i : Nat) : (beneath L i).length ≤ i + 1 := by
  unfold beneath
  rw [List.length_reverse]
  exact ben_length L _ _
set_option maxRecDepth 100000 in
set_option maxHeartbeats 2000000 in
theorem at_ev (L : List Nd) (es : List (Value × Leaf)) (N : Nat) (i : Nat) (hN : L.length = N) (hi : i < N) : Ev Tryz.prog (.call 46 [.c (.ptr 0 0), .c (.val (.int .i64 (i : Int)))] [.row false (.ac [.sl 1 0 N N 3, .mp 2]), .row false (.an L), .row false (.mp es)]) (.val (ndA (getn L i)) [.row false (.ac [.sl 1 0 N N 3, .mp 2]), .row false (.an L), .row false (.mp es)]) := by
  unfold ndA
  refine c_call Tryz.func46 rfl Tryz.ntmps46 rfl LEN_ ?_
  refine S_ ?_
  refine c_region ?_
  refine s_memN (m_alloc al_58 LEN_) APP_ rfl ?_
  refine s_nil ?_
  refine S_ ?_
  refine c_region ?_
  first
    | refine s_val (v_moveC rfl) rfl ?_
    | refine s_val (v_moveA rfl) rfl ?_
    | refine s_val (v_moveT rfl) rfl ?_
  refine s_val (v_nilP rfl) rfl ?_
  refine s_val (v_fieldP rfl (fa_75_0 _ _)) rfl ?_
  refine s_val (v_load rfl rfl row_53 LT_ rfl) rfl ?_
  first
    | refine s_val (v_moveC rfl) rfl ?_
    | refine s_val (v_moveA rfl) rfl ?_
    | refine s_val (v_moveT rfl) rfl ?_
  refine s_val (v_idxS rfl rfl Tryz.underlying53 sz_58 (by omega)) rfl ?_
  refine s_ev (o_loadNd (j := i) rfl (by omega) rfl row_58 sz_58 (by omega)) rfl ?_
  refine s_storeR rfl rfl rfl rfl sz_58 EQ_ EQ_ SET_ ?_
  refine s_nil ?_
  refine S_ ?_
  exact k_1 (r_row rfl rfl row_58 sz_58 EQ_ (by decide)) (by first | kernel_rfl | rfl)
set_option maxRecDepth 100000 in
set_option maxHeartbeats 2000000 in
theorem ben_ev (L : List Nd) (es : List (Value × Leaf)) (N : Nat) (i : Nat) (hN : L.length = N) (hNl : N ≤ 1048576) (hi : i < N) (hA : ArOk L) : Ev Tryz.prog (.call 44 [.c (.ptr 0 0), .c (.val (.int .i64 (i : Int)))] [.row false (.ac [.sl 1 0 N N 3, .mp 2]), .row false (.an L), .row false (.mp es)]) (.val (.tup [.c (.is (beneath L i)), .c (.val (.int .i64 ((0 : Nat) : Int)))]) [.row false (.ac [.sl 1 0 N N 3, .mp 2]), .row false (.an L), .row false (.mp es)]) := by
  have hh : hasB N [(i : Int)] = true := by simp [hasB]; omega
  refine c_call Tryz.func44 rfl Tryz.ntmps44 rfl LEN_ ?_
  refine S_ ?_
  refine c_region ?_
  refine s_val (v_assignC rfl) rfl ?_
  refine s_val (v_assignC rfl) rfl ?_
  refine s_nil ?_
  refine S_ ?_
  refine c_region ?_
  first
    | refine s_val (v_moveC rfl) rfl ?_
    | refine s_val (v_moveA rfl) rfl ?_
    | refine s_val (v_moveT rfl) rfl ?_
  first
    | refine s_val (v_moveC rfl) rfl ?_
    | refine s_val (v_moveA rfl) rfl ?_
    | refine s_val (v_moveT rfl) rfl ?_
  refine s_memN (m_bsI (l := [_]) Tryz.underlying41 el_3 rfl rfl (by decide) (by decide) LEN_) APP_ rfl ?_
  refine s_evN (e_callR (has_ev L es N [(i : Int)] 1 1 hN (by omega) rfl (by omega)) ok_41 rfl rfl rfl VAL_) APP_ rfl ?_
  refine s_val (v_unnotB rfl) rfl ?_
  refine s_nil ?_
  rw [hh]
  refine S_ ?_
  refine c_region ?_
  first
    | refine s_val (v_moveC rfl) rfl ?_
    | refine s_val (v_moveA rfl) rfl ?_
    | refine s_val (v_moveT rfl) rfl ?_
  first
    | refine s_val (v_addN (b := 1) rfl rfl (by omega)) rfl ?_
    | refine s_val (v_addI rfl rfl (by omega)) rfl ?_
  refine s_ev (o_makeT (n := i + 1) (m := 4) Tryz.underlying116 rfl rfl el_4 rep_4 (by omega) (by omega) rfl) rfl ?_
  first
    | refine s_val (v_assignC rfl) rfl ?_
    | refine s_val (v_assignA rfl) rfl ?_
    | refine s_val (v_assignT rfl) rfl ?_
  refine s_nil ?_
  refine S_ ?_
  refine c_region ?_
  first
    | refine s_val (v_moveC rfl) rfl ?_
    | refine s_val (v_moveA rfl) rfl ?_
    | refine s_val (v_moveT rfl) rfl ?_
  first
    | refine s_val (v_moveC rfl) rfl ?_
    | refine s_val (v_moveA rfl) rfl ?_
    | refine s_val (v_moveT rfl) rfl ?_
  first
    | refine s_val (v_idxS1 rfl rfl Tryz.underlying116 sz_4 (by omega)) rfl ?_
    | refine s_val (v_idxSo rfl rfl Tryz.underlying116 sz_4 (by omega)) rfl ?_
    | refine s_val (v_idxS rfl rfl Tryz.underlying116 sz_4 (by omega)) rfl ?_
  refine s_storeT (q := true) rfl rfl rfl sz_4 (by rw [List.length_replicate]; omega) SET_ ?_
  refine s_nil ?_
  refine S_ ?_
  refine c_region ?_
  refine s_val (v_assignC rfl) rfl ?_
  refine s_nil ?_
  refine S_ ?_
  refine c_region ?_
  first
    | refine s_val (v_moveC rfl) rfl ?_
    | refine s_val (v_moveA rfl) rfl ?_
    | refine s_val (v_moveT rfl) rfl ?_
  first
    | refine s_val (v_assignC rfl) rfl ?_
    | refine s_val (v_assignA rfl) rfl ?_
    | refine s_val (v_assignT rfl) rfl ?_
  refine s_nil ?_
  refine S_ ?_
  refine c_nil 7 1 (.ai []) rfl rfl LEN_ rfl ?_
  refine S_ ?_
  refine c_while [0, 1, 6, 7, 8] (fun (zz : Nat × Int × List Bool × Nat × List Int) => ⟨56, keepT [0, 1, 6, 7, 8] [.c (.ptr 0 0), .c (.val (.int .i64 (i : Int))), .c (.sl 3 0 (i + 1) (i + 1) 1), .c (.sl 4 0 zz.2.2.2.1 zz.2.2.2.1 1), .c (.val (.int .i64 zz.2.1))], [.row false (.ac [.sl 1 0 N N 3, .mp 2]), .row false (.an L), .row false (.mp es), .row true (.bl zz.2.2.1), .row true (.ai zz.2.2.2.2)]⟩) (fun zz => zz.1) (fun zz => (zz.2.1 = (zz.1 : Int) - 1 ∧ zz.1 ≤ i + 1 ∧ zz.2.2.1.length = i + 1) ∧ (zz.2.2.2.2.length = zz.2.2.2.1 ∧ zz.1 + zz.2.2.2.1 ≤ i + 1) ∧ beneath L i = (zz.2.2.2.2 ++ ben L zz.1 zz.2.2.1).reverse) (i + 1, (i : Int), (List.replicate (i + 1) false).set i true, 0, []) (by kernel_rfl) ⟨⟨by simp, Nat.le_refl _, by simp⟩, ⟨rfl, by simp⟩, rfl⟩ ?_
  rintro ⟨k, x, c, on, out⟩ ⟨⟨hx, hk, hc⟩, ⟨hol, hon⟩, hB⟩
  dsimp only at hx hk hc hol hon hB ⊢
  cases k with
  | zero =>
    subst hx
    rw [hB, show ben L 0 c = [] by rfl, List.append_nil]
    refine S_ ?_
    refine c_region ?_
    first
      | refine s_val (v_moveC rfl) rfl ?_
      | refine s_val (v_moveA rfl) rfl ?_
      | refine s_val (v_moveT rfl) rfl ?_
    first
      | refine s_val (v_geqN (b := 0) rfl rfl) rfl ?_
      | refine s_val (v_geqI rfl rfl) rfl ?_
    refine s_nil ?_
    refine S_ ?_
    refine c_region ?_
    first
      | refine s_val (v_moveC rfl) rfl ?_
      | refine s_val (v_moveA rfl) rfl ?_
      | refine s_val (v_moveT rfl) rfl ?_
    refine s_ev (e_callK (rev_ev out on on hol (by omega)) ok_68 rfl rfl rfl VAL_ APP_) rfl ?_
    refine s_nil ?_
    refine S_ ?_
    refine c_region ?_
    first
      | refine s_val (v_moveC rfl) rfl ?_
      | refine s_val (v_moveA rfl) rfl ?_
      | refine s_val (v_moveT rfl) rfl ?_
    first
      | refine s_val (v_assignC rfl) rfl ?_
      | refine s_val (v_assignA rfl) rfl ?_
      | refine s_val (v_assignT rfl) rfl ?_
    refine s_val (v_assignC rfl) rfl ?_
    refine s_nil ?_
    refine Q_ ?_
    refine c_hideI 4 rfl rfl (by simp [hol]) KILL_ ?_
    refine S_ ?_
    exact k_2 (by first | exact r_tmpC rfl | exact r_tmpA rfl) (by first | exact r_tmpC rfl | exact r_tmpA rfl) (by first | kernel_rfl | rfl)
  | succ k =>
    obtain rfl : x = (k : Int) := by omega
    clear hx
    rw [ben.eq_2] at hB
    generalize hq : gett c k = q at *
    cases q with
    | false =>
      rw [if_neg (by simp)] at hB
      refine S_ ?_
      refine c_region ?_
      first
        | refine s_val (v_moveC rfl) rfl ?_
        | refine s_val (v_moveA rfl) rfl ?_
        | refine s_val (v_moveT rfl) rfl ?_
      first
        | refine s_val (v_geqN (b := 0) rfl rfl) rfl ?_
        | refine s_val (v_geqI rfl rfl) rfl ?_
      refine s_nil ?_
      refine S_ ?_
      refine c_region ?_
      first
        | refine s_val (v_moveC rfl) rfl ?_
        | refine s_val (v_moveA rfl) rfl ?_
        | refine s_val (v_moveT rfl) rfl ?_
      first
        | refine s_val (v_moveC rfl) rfl ?_
        | refine s_val (v_moveA rfl) rfl ?_
        | refine s_val (v_moveT rfl) rfl ?_
      first
        | refine s_val (v_idxS1 rfl rfl Tryz.underlying116 sz_4 (by omega)) rfl ?_
        | refine s_val (v_idxSo rfl rfl Tryz.underlying116 sz_4 (by omega)) rfl ?_
        | refine s_val (v_idxS rfl rfl Tryz.underlying116 sz_4 (by omega)) rfl ?_
      first
        | refine s_val (v_loadT rfl rfl row_4 LT_) rfl ?_
        | refine s_val (v_load rfl rfl row_4 LT_ rfl) rfl ?_
      refine s_val (v_unnotB rfl) rfl ?_
      refine s_nil ?_
      refine Q_ ?_
      refine c_condT rfl (by rw [hq]; rfl) ?_
      refine S_ ?_
      refine c_region ?_
      first
        | refine s_val (v_moveC rfl) rfl ?_
        | refine s_val (v_moveA rfl) rfl ?_
        | refine s_val (v_moveT rfl) rfl ?_
      first
        | refine s_val (v_subN (b := 1) rfl rfl (by omega) (by omega)) rfl ?_
        | refine s_val (v_subI rfl rfl (by omega)) rfl ?_
      first
        | refine s_val (v_assignC rfl) rfl ?_
        | refine s_val (v_assignA rfl) rfl ?_
        | refine s_val (v_assignT rfl) rfl ?_
      refine s_nil ?_
      refine ⟨(k, (k : Int) - 1, c, on, out), by kernel_rfl, ?_, ⟨rfl, ?_, hc⟩, ⟨hol, ?_⟩, hB⟩
      · dsimp only; omega
      · dsimp only; omega
      · dsimp only; omega
    | true =>
      rw [if_pos rfl] at hB
      refine S_ ?_
      refine c_region ?_
      first
        | refine s_val (v_moveC rfl) rfl ?_
        | refine s_val (v_moveA rfl) rfl ?_
        | refine s_val (v_moveT rfl) rfl ?_
      first
        | refine s_val (v_geqN (b := 0) rfl rfl) rfl ?_
        | refine s_val (v_geqI rfl rfl) rfl ?_
      refine s_nil ?_
      refine S_ ?_
      refine c_region ?_
      first
        | refine s_val (v_moveC rfl) rfl ?_
        | refine s_val (v_moveA rfl) rfl ?_
        | refine s_val (v_moveT rfl) rfl ?_
      first
        | refine s_val (v_moveC rfl) rfl ?_
        | refine s_val (v_moveA rfl) rfl ?_
        | refine s_val (v_moveT rfl) rfl ?_
      first
        | refine s_val (v_idxS1 rfl rfl Tryz.underlying116 sz_4 (by omega)) rfl ?_
        | refine s_val (v_idxSo rfl rfl Tryz.underlying116 sz_4 (by omega)) rfl ?_
        | refine s_val (v_idxS rfl rfl Tryz.underlying116 sz_4 (by omega)) rfl ?_
      first
        | refine s_val (v_loadT rfl rfl row_4 LT_) rfl ?_
        | refine s_val (v_load rfl rfl row_4 LT_ rfl) rfl ?_
      refine s_val (v_unnotB rfl) rfl ?_
      refine s_nil ?_
      refine Q_ ?_
      refine c_condF rfl (by rw [hq]; rfl) ?_
      refine S_ ?_
      refine c_region ?_
      first
        | refine s_val (v_moveC rfl) rfl ?_
        | refine s_val (v_moveA rfl) rfl ?_
        | refine s_val (v_moveT rfl) rfl ?_
      first
        | refine s_val (v_moveC rfl) rfl ?_
        | refine s_val (v_moveA rfl) rfl ?_
        | refine s_val (v_moveT rfl) rfl ?_
      refine s_memN (m_bsI (l := [_]) Tryz.underlying41 el_3 rfl rfl (by decide) (by decide) LEN_) APP_ rfl ?_
      first
        | refine s_memN (m_appEI rfl rfl rfl Tryz.underlying41 Tryz.underlying41 el_3 EQL_ (by omega) LEN_) APP_ rfl ?_
        | refine s_memN (m_appNI rfl rfl rfl Tryz.underlying41 Tryz.underlying41 el_3 EQL_ (by omega) LEN_) APP_ rfl ?_
        | refine s_appI rfl rfl rfl rfl Tryz.underlying41 Tryz.underlying41 el_3 EQL_ EQL_ (by omega) LEN_ KILL_ rfl ?_
        | refine s_memN (m_appEIc rfl rfl rfl Tryz.underlying41 Tryz.underlying41 el_3 LE_ (by omega) LEN_) APP_ rfl ?_
        | refine s_memN (m_appNIc rfl rfl rfl Tryz.underlying41 Tryz.underlying41 el_3 LE_ (by omega) LEN_) APP_ rfl ?_
        | refine s_appIc rfl rfl rfl rfl Tryz.underlying41 Tryz.underlying41 el_3 EQL_ LE_ (by omega) LEN_ KILL_ rfl ?_
        | refine s_memN (m_appZ rfl rfl Tryz.underlying41 Tryz.underlying41 el_3 rfl) APP_ rfl ?_
        | refine s_memN (m_appZe rfl rfl Tryz.underlying41 Tryz.underlying41 el_3 rfl) APP_ rfl ?_
        | refine s_memN (m_appNZ rfl rfl Tryz.underlying41 Tryz.underlying41 el_3 EQL_ (by omega) LEN_) APP_ rfl ?_
        | refine s_memN (m_appEZ rfl rfl Tryz.underlying41 Tryz.underlying41 el_3 EQL_ (by omega) LEN_) APP_ rfl ?_
        | refine s_appZ rfl rfl rfl Tryz.underlying41 Tryz.underlying41 el_3 EQL_ EQL_ (by omega) LEN_ KILL_ rfl ?_
      first
        | refine s_val (v_assignC rfl) rfl ?_
        | refine s_val (v_assignA rfl) rfl ?_
        | refine s_val (v_assignT rfl) rfl ?_
      refine s_nil ?_
      refine S_ ?_
      refine c_region ?_
      first
        | refine s_val (v_moveC rfl) rfl ?_
        | refine s_val (v_moveA rfl) rfl ?_
        | refine s_val (v_moveT rfl) rfl ?_
      refine s_val (v_nilP rfl) rfl ?_
      refine s_val (v_fieldP rfl (fa_75_0 _ _)) rfl ?_
      refine s_val (v_load rfl rfl row_53 LT_ rfl) rfl ?_
      first
        | refine s_val (v_moveC rfl) rfl ?_
        | refine s_val (v_moveA rfl) rfl ?_
        | refine s_val (v_moveT rfl) rfl ?_
      refine s_val (v_idxS rfl rfl Tryz.underlying53 sz_58 (by omega)) rfl ?_
      refine s_val (v_fieldP rfl (fa_58_2 _ _)) rfl ?_
      refine s_ev (Ev.val (v_ndA (j := k) rfl (by omega) rfl row_41 (by omega))) rfl ?_
      first
        | refine s_val (v_lenS rfl Tryz.underlying41) rfl ?_
        | refine s_val (v_lenN rfl Tryz.underlying41) rfl ?_
        | refine s_val (v_lenE rfl Tryz.underlying41) rfl ?_
        | refine s_val (v_lenB rfl Tryz.underlying41 rfl) rfl ?_
        | refine s_val (v_lenZ rfl Tryz.underlying41 rfl) rfl ?_
      refine s_val (v_moveC rfl) rfl ?_
      refine s_nil ?_
      have hnd := hA.nd (i := k) (by omega)
      have hargs := hnd.args
      have hlen := hnd.len.2
      have hml := mostK_le (getn L k).k
      have hmc : (mark c (getn L k).a).length = i + 1 := by rw [mark_length]; exact hc
      clear hnd
      generalize (getn L k).a = a at *
      generalize hm : a.length = m at *
      refine S_ ?_
      refine c_loopC [0, 1, 6, 7, 8, 43, 44, 45] (fun (zz : Nat × List Bool) => ⟨56, keepT [0, 1, 6, 7, 8, 43, 44, 45] [.c (.ptr 0 0), .c (.val (.int .i64 ((i : Int)))), .c (.sl 3 0 (i + 1) (i + 1) 1), .c (.sl 4 0 (on + 1) (on + 1) 1), .c (.val (.int .i64 ((k : Int)))), .c (.is a), .c (.val (.int .i64 ((m : Int)))), .c (.val (.int .i64 ((zz.1 : Int))))], [.row false (.ac [.sl 1 0 N N 3, .mp 2]), .row false (.an L), .row false (.mp es), .row true (.bl zz.2), .row true (.ai (out ++ [(k : Int)]))]⟩) (fun j => (j, mark c (a.take j))) (m) (by kernel_rfl) ?_ ?_
      · intro j hj
        dsimp only
        have h1 := hargs (geti a j) (by simp [geti, show j < a.length by omega])
        have h2 : (mark c (a.take j)).length = i + 1 := by rw [mark_length]; exact hc
        rw [mark_take c a j (by omega)]
        generalize mark c (a.take j) = c' at *
        obtain ⟨y, hy⟩ : ∃ y : Nat, geti a j = (y : Int) := ⟨(geti a j).toNat, by omega⟩
        refine S_ ?_
        refine c_region ?_
        first
          | refine s_val (v_lssN rfl rfl) rfl ?_
          | refine s_val (v_lssI rfl rfl) rfl ?_
        refine s_nil ?_
        refine S_ ?_
        refine c_region ?_
        first
          | refine s_val (v_idxS1 rfl rfl Tryz.underlying41 sz_3 (by omega)) rfl ?_
          | refine s_val (v_idxSo rfl rfl Tryz.underlying41 sz_3 (by omega)) rfl ?_
          | refine s_val (v_idxS rfl rfl Tryz.underlying41 sz_3 (by omega)) rfl ?_
          | refine s_val (v_idxZ rfl rfl Tryz.underlying41 sz_3 LT_) rfl ?_
        first
          | refine s_val (v_loadN rfl rfl row_3 LT_) rfl ?_
          | refine s_val (v_loadI rfl rfl row_3 LT_) rfl ?_
          | refine s_val (v_loadZ rfl row_3 LT_) rfl ?_
          | refine s_val (v_ndK rfl rfl rfl row_3 LT_) rfl ?_
          | refine s_val (v_load rfl rfl row_3 LT_ rfl) rfl ?_
        first
          | refine s_val (v_assignC rfl) rfl ?_
          | refine s_val (v_assignA rfl) rfl ?_
          | refine s_val (v_assignT rfl) rfl ?_
        refine s_nil ?_
        rw [hy] at h1 ⊢
        rw [Int.toNat_natCast]
        refine S_ ?_
        refine c_region ?_
        first
          | refine s_val (v_moveC rfl) rfl ?_
          | refine s_val (v_moveA rfl) rfl ?_
          | refine s_val (v_moveT rfl) rfl ?_
        first
          | refine s_val (v_moveC rfl) rfl ?_
          | refine s_val (v_moveA rfl) rfl ?_
          | refine s_val (v_moveT rfl) rfl ?_
        first
          | refine s_val (v_idxS1 rfl rfl Tryz.underlying116 sz_4 (by omega)) rfl ?_
          | refine s_val (v_idxSo rfl rfl Tryz.underlying116 sz_4 (by omega)) rfl ?_
          | refine s_val (v_idxS rfl rfl Tryz.underlying116 sz_4 (by omega)) rfl ?_
        first
          | refine s_storeT (q := true) rfl rfl rfl sz_4 LT_ SET_ ?_
          | refine s_store rfl rfl rfl rfl sz_4 LT_ WR_ SET_ ?_
        refine s_nil ?_
        refine S_ ?_
        refine c_region ?_
        first
          | refine s_val (v_addN (b := 1) rfl rfl (by omega)) rfl ?_
          | refine s_val (v_addI rfl rfl (by omega)) rfl ?_
        first
          | refine s_val (v_moveC rfl) rfl ?_
          | refine s_val (v_moveA rfl) rfl ?_
          | refine s_val (v_moveT rfl) rfl ?_
        refine s_nil ?_
        exact ⟨(j + 1, _), by kernel_rfl, rfl⟩
      · dsimp only
        rw [show a.take m = a by rw [← hm, List.take_length]]
        refine S_ ?_
        refine c_region ?_
        first
          | refine s_val (v_lssN rfl rfl) rfl ?_
          | refine s_val (v_lssI rfl rfl) rfl ?_
        refine s_nil ?_
        refine S_ ?_
        refine c_region ?_
        first
          | refine s_val (v_moveC rfl) rfl ?_
          | refine s_val (v_moveA rfl) rfl ?_
          | refine s_val (v_moveT rfl) rfl ?_
        first
          | refine s_val (v_subN (b := 1) rfl rfl (by omega) (by omega)) rfl ?_
          | refine s_val (v_subI rfl rfl (by omega)) rfl ?_
        first
          | refine s_val (v_assignC rfl) rfl ?_
          | refine s_val (v_assignA rfl) rfl ?_
          | refine s_val (v_assignT rfl) rfl ?_
        refine s_nil ?_
        refine ⟨(k, (k : Int) - 1, mark c a, on + 1, out ++ [(k : Int)]), by kernel_rfl, ?_, ⟨rfl, ?_, hmc⟩, ⟨by simp [hol], ?_⟩, by rw [hB]; simp⟩
        · dsimp only; omega
        · dsimp only; omega
        · dsimp only; omega
end Go.Proofs.YtmbepikkgkcgkaaGreatDoor
namespace Go.Proofs.YtmbepikkgkcgkaaGreatDoor
open Go.RowKit
section
variable {P : Program} {T : Nat → AV} {M M' : Mem} {t t' el : TypeId} {s x : Operand}
theorem v_slZ {lo hi : Option Operand} {y : List Int} {l h : Nat} (hx : opnd T x = .c (.is y)) (hu : P.underlying t = some (.slice el)) (hs : szT P el = some 1) (hl : bnd 0 (lo.map (opnd T)) = some (l : Int)) (hh : bnd y.length (hi.map (opnd T)) = some (h : Int)) (h1 : l ≤ h) (h2 : h ≤ y.length) : evVal P (opnd T) M (.slice t x lo hi none) = some (.c (.is (cut y l (h - l)))) := by
  show evSlice P M t (opnd T x) (lo.map (opnd T)) (hi.map (opnd T)) = _
  rw [hx]
  simp only [evSlice, hu, hl, hh]
  rw [if_pos ⟨hs, by omega, by omega, by omega⟩]
  congr 4
  omega
theorem v_slZd {lo : Operand} {y : List Int} {l : Nat} {kd : IntKind} (hx : opnd T x = .c (.is y)) (hl : opnd T lo = .c (.val (.int kd (l : Int)))) (hu : P.underlying t = some (.slice el)) (hs : szT P el = some 1) (h2 : l ≤ y.length) : evVal P (opnd T) M (.slice t x (some lo) none none) = some (.c (.is (y.drop l))) := by
  rw [v_slZ (l := l) (h := y.length) hx hu hs (by simp [bnd, intOf?, hl]) rfl h2 (Nat.le_refl _)]
  congr 3
  unfold cut
  rw [List.take_of_length_le (by simp)]
theorem o_appL8 {l y : List (BitVec 8)} {n c b by' : Nat} {own : Bool} (hs : opnd T s = .c (.lb l)) (hx : opnd T x = .c (.sl b 0 n c 1)) (hm : M[b]? = some (.row own (.a8 y))) (hn : y.length = n) (hu : P.underlying t = some (.slice el)) (hu2 : P.underlying t' = some (.slice el)) (he : elemOk P el = some (1, by')) (hb : (l.length + n) * by' ≤ 140737488355328 ∧ l.length + n ≤ 9223372036854775807) :
    Ev P (.op (.call { callee := .builtin .append, args := #[s, x], argTypes := #[t, t'] }) (opnd T) M) (.val (.c (.bs (l ++ y))) M) :=
  o_appL hs (by subst hn; rw [hx]; simp [srcOf, hm, winA, Arr.size]) hu hu2 he hb
theorem o_appLB {l y : List (BitVec 8)} {by' : Nat} (hs : opnd T s = .c (.lb l)) (hx : opnd T x = .c (.bs y)) (hu : P.underlying t = some (.slice el)) (hu2 : P.underlying t' = some (.slice el)) (he : elemOk P el = some (1, by')) (hb : (l.length + y.length) * by' ≤ 140737488355328 ∧ l.length + y.length ≤ 9223372036854775807) :
    Ev P (.op (.call { callee := .builtin .append, args := #[s, x], argTypes := #[t, t'] }) (opnd T) M) (.val (.c (.bs (l ++ y))) M) :=
  o_appL hs (by rw [hx]; simp [srcOf]) hu hu2 he hb
end
section
variable {P : Program} {ops : Array Oper} {l : List Oper} {N d : Nat} {T : Nat → AV} {M M' : Mem} {K : St → Prop} {ty : TypeId} {pos : String} {af : Array Edge}
theorem h_evQ {op : Op} {v : AV} (h : Ev P (.op op (opnd T) (roMem M)) (.val v (roMem M))) (hd : decide (d < N) = true) (hk : HO P ops l ⟨N, upd T d v, M⟩ K) : HO P ops (⟨some d, op, ty, pos, af, none⟩ :: l) ⟨N, T, M⟩ K :=
  h_evN (news := []) (by rw [List.append_nil]; exact h) (List.append_nil _) hd hk
end
end Go.Proofs.YtmbepikkgkcgkaaGreatDoor
namespace Go.Proofs.YtmbepikkgkcgkaaGreatDoor
open Go.RowKit
def rlNum4_L3_S (x : Nat) (X1 : List (BitVec 8)) (j3 : Nat) : List (BitVec 8) := X1 ++ [((BitVec.ofNat 64 x) >>> (8 * j3)).setWidth 8]
def rlNum4_L3 (x : Nat) : Nat → List (BitVec 8)
  | 0 => []
  | j3 + 1 => rlNum4_L3_S x (rlNum4_L3 x j3) j3
@[simp] theorem rlNum4_L3_len (x : Nat) (j3 : Nat) : (rlNum4_L3 x j3).length = j3 := by
  induction j3 with
  | zero => first | (simp [rlNum4_L3, *]; done) | (simp [rlNum4_L3, *]; omega)
  | succ j3 ih => rw [rlNum4_L3.eq_2, rlNum4_L3_S]; first | (simp [ih]; done) | (simp [ih]; omega) | (simp [*]; done) | (simp [*]; omega) | (split <;> first | (simp [ih]; done) | (simp [ih]; omega) | (simp [*]; done))
def rlNum4 (x : Nat) : List (BitVec 8) := (rlNum4_L3 x 4)
set_option maxRecDepth 100000 in
set_option maxHeartbeats 2000000 in
theorem rlNum4_ev (x : Nat) (_hx : x ≤ 9223372036854775807) : Ev Tryz.prog (.call 35 [.c (.val (.int .i64 ((x : Nat) : Int))), .c (.val (.int .i64 ((4 : Nat) : Int)))] []) (.val (.c (.sl 0 0 4 4 1)) [.row true (.a8 (rlNum4 x))]) := by
  have hP : Hid (rlNum4 x = (rlNum4_L3 x 4)) := ⟨rfl⟩
  refine c_call Tryz.func35 rfl Tryz.ntmps35 rfl LEN_ ?_
  refine S_ ?_
  refine c_region ?_
  refine s_val (v_assignC rfl) rfl ?_
  refine s_nil ?_
  refine S_ ?_
  refine c_region ?_
  refine s_val (v_assignC rfl) rfl ?_
  refine s_nil ?_
  refine S_ ?_
  refine c_region ?_
  refine s_val (v_moveC rfl) rfl ?_
  refine s_val (v_moveC rfl) rfl ?_
  refine s_nil ?_
  refine S_ ?_
  refine c_nil 5 1 (.a8 ([])) rfl rfl LEN_ rfl ?_
  refine S_ ?_
  refine c_loopC [0, 5, 7, 8] (fun (zz : Nat × List (BitVec 8)) => ⟨22, keepT [0, 5, 7, 8] [.c (.val (.int .i64 (((x : Nat) : Int)))), .c (.sl 0 0 zz.1 zz.1 1), .c (.val (.int .i64 (((4 : Nat) : Int)))), .c (.val (.int .i64 (((zz.1 : Nat) : Int))))], [.row true (.a8 (zz.2))]⟩) (fun j3 => (j3, rlNum4_L3 x j3)) (4) (by kernel_rfl) ?_ ?_
  · intro j3 hj3
    try dsimp only
    have hX1 : (rlNum4_L3 x j3).length = j3 := by rw [rlNum4_L3_len x _]; try omega
    rw [rlNum4_L3.eq_2, rlNum4_L3_S]
    generalize rlNum4_L3 x j3 = X1 at *
    refine S_ ?_
    refine c_region ?_
    refine s_val (v_lssN (b := 4) rfl rfl) rfl ?_
    refine s_nil ?_
    refine S_ ?_
    refine c_region ?_
    refine s_val (v_moveC rfl) rfl ?_
    refine s_val (v_assignC rfl) rfl ?_
    refine s_nil ?_
    refine S_ ?_
    refine c_region ?_
    refine s_val (v_moveC rfl) rfl ?_
    refine s_val (v_moveC rfl) rfl ?_
    refine s_val (v_conv rfl Tryz.underlying3 Tryz.underlying70 (wi_64 _)) rfl ?_
    refine s_val (v_moveC rfl) rfl ?_
    refine s_val (v_mulN (a := 8) rfl rfl (by omega)) rfl ?_
    refine s_val (v_shr64n rfl rfl) rfl ?_
    refine s_val (v_conv rfl Tryz.underlying70 Tryz.underlying5 (w64_8 _)) rfl ?_
    refine s_memN (m_bs8 (l := [_]) Tryz.underlying23 el_5 rfl rfl (by decide) (by decide) LEN_) APP_ rfl ?_
    refine s_app8 rfl rfl rfl rfl Tryz.underlying23 Tryz.underlying23 el_5 EQL_ EQL_ (by omega) LEN_ KILL_ rfl ?_
    refine s_val (v_assignC rfl) rfl ?_
    refine s_nil ?_
    refine S_ ?_
    refine c_region ?_
    refine s_val (v_addN (b := 1) rfl rfl (by omega)) rfl ?_
    refine s_val (v_moveC rfl) rfl ?_
    refine s_nil ?_
    exact ⟨(j3 + 1, _), by kernel_rfl, rfl⟩
  · try dsimp only
    have hY2 : (rlNum4_L3 x 4).length = 4 := by rw [rlNum4_L3_len x _]; try omega
    generalize rlNum4_L3 x 4 = Y2 at *
    refine S_ ?_
    refine c_region ?_
    refine s_val (v_lssN (a := 4) (b := 4) rfl rfl) rfl ?_
    refine s_nil ?_
    refine S_ ?_
    refine c_region ?_
    refine s_val (v_moveC rfl) rfl ?_
    refine s_val (v_assignC rfl) rfl ?_
    refine s_nil ?_
    refine S_ ?_
    rw [hP.out]
    exact k_1 (by first | exact r_tmpC rfl | exact r_tmpA rfl) (by first | kernel_rfl | rfl)
@[simp] theorem rlNum4_len (x : Nat) : (rlNum4 x).length = 4 := by
  unfold rlNum4
  first | (simp [rlNum4_L3_len, *]; done) | (simp [rlNum4_L3_len, *]; omega)
attribute [irreducible] rlNum4
def rlNum8_L3_S (x : Nat) (X1 : List (BitVec 8)) (j3 : Nat) : List (BitVec 8) := X1 ++ [((BitVec.ofNat 64 x) >>> (8 * j3)).setWidth 8]
def rlNum8_L3 (x : Nat) : Nat → List (BitVec 8)
  | 0 => []
  | j3 + 1 => rlNum8_L3_S x (rlNum8_L3 x j3) j3
@[simp] theorem rlNum8_L3_len (x : Nat) (j3 : Nat) : (rlNum8_L3 x j3).length = j3 := by
  induction j3 with
  | zero => first | (simp [rlNum8_L3, *]; done) | (simp [rlNum8_L3, *]; omega)
  | succ j3 ih => rw [rlNum8_L3.eq_2, rlNum8_L3_S]; first | (simp [ih]; done) | (simp [ih]; omega) | (simp [*]; done) | (simp [*]; omega) | (split <;> first | (simp [ih]; done) | (simp [ih]; omega) | (simp [*]; done))
def rlNum8 (x : Nat) : List (BitVec 8) := (rlNum8_L3 x 8)
set_option maxRecDepth 100000 in
set_option maxHeartbeats 2000000 in
theorem rlNum8_ev (x : Nat) (_hx : x ≤ 9223372036854775807) : Ev Tryz.prog (.call 35 [.c (.val (.int .i64 ((x : Nat) : Int))), .c (.val (.int .i64 ((8 : Nat) : Int)))] []) (.val (.c (.sl 0 0 8 8 1)) [.row true (.a8 (rlNum8 x))]) := by
  have hP : Hid (rlNum8 x = (rlNum8_L3 x 8)) := ⟨rfl⟩
  refine c_call Tryz.func35 rfl Tryz.ntmps35 rfl LEN_ ?_
  refine S_ ?_
  refine c_region ?_
  refine s_val (v_assignC rfl) rfl ?_
  refine s_nil ?_
  refine S_ ?_
  refine c_region ?_
  refine s_val (v_assignC rfl) rfl ?_
  refine s_nil ?_
  refine S_ ?_
  refine c_region ?_
  refine s_val (v_moveC rfl) rfl ?_
  refine s_val (v_moveC rfl) rfl ?_
  refine s_nil ?_
  refine S_ ?_
  refine c_nil 5 1 (.a8 ([])) rfl rfl LEN_ rfl ?_
  refine S_ ?_
  refine c_loopC [0, 5, 7, 8] (fun (zz : Nat × List (BitVec 8)) => ⟨22, keepT [0, 5, 7, 8] [.c (.val (.int .i64 (((x : Nat) : Int)))), .c (.sl 0 0 zz.1 zz.1 1), .c (.val (.int .i64 (((8 : Nat) : Int)))), .c (.val (.int .i64 (((zz.1 : Nat) : Int))))], [.row true (.a8 (zz.2))]⟩) (fun j3 => (j3, rlNum8_L3 x j3)) (8) (by kernel_rfl) ?_ ?_
  · intro j3 hj3
    try dsimp only
    have hX1 : (rlNum8_L3 x j3).length = j3 := by rw [rlNum8_L3_len x _]; try omega
    rw [rlNum8_L3.eq_2, rlNum8_L3_S]
    generalize rlNum8_L3 x j3 = X1 at *
    refine S_ ?_
    refine c_region ?_
    refine s_val (v_lssN (b := 8) rfl rfl) rfl ?_
    refine s_nil ?_
    refine S_ ?_
    refine c_region ?_
    refine s_val (v_moveC rfl) rfl ?_
    refine s_val (v_assignC rfl) rfl ?_
    refine s_nil ?_
    refine S_ ?_
    refine c_region ?_
    refine s_val (v_moveC rfl) rfl ?_
    refine s_val (v_moveC rfl) rfl ?_
    refine s_val (v_conv rfl Tryz.underlying3 Tryz.underlying70 (wi_64 _)) rfl ?_
    refine s_val (v_moveC rfl) rfl ?_
    refine s_val (v_mulN (a := 8) rfl rfl (by omega)) rfl ?_
    refine s_val (v_shr64n rfl rfl) rfl ?_
    refine s_val (v_conv rfl Tryz.underlying70 Tryz.underlying5 (w64_8 _)) rfl ?_
    refine s_memN (m_bs8 (l := [_]) Tryz.underlying23 el_5 rfl rfl (by decide) (by decide) LEN_) APP_ rfl ?_
    refine s_app8 rfl rfl rfl rfl Tryz.underlying23 Tryz.underlying23 el_5 EQL_ EQL_ (by omega) LEN_ KILL_ rfl ?_
    refine s_val (v_assignC rfl) rfl ?_
    refine s_nil ?_
    refine S_ ?_
    refine c_region ?_
    refine s_val (v_addN (b := 1) rfl rfl (by omega)) rfl ?_
    refine s_val (v_moveC rfl) rfl ?_
    refine s_nil ?_
    exact ⟨(j3 + 1, _), by kernel_rfl, rfl⟩
  · try dsimp only
    have hY2 : (rlNum8_L3 x 8).length = 8 := by rw [rlNum8_L3_len x _]; try omega
    generalize rlNum8_L3 x 8 = Y2 at *
    refine S_ ?_
    refine c_region ?_
    refine s_val (v_lssN (a := 8) (b := 8) rfl rfl) rfl ?_
    refine s_nil ?_
    refine S_ ?_
    refine c_region ?_
    refine s_val (v_moveC rfl) rfl ?_
    refine s_val (v_assignC rfl) rfl ?_
    refine s_nil ?_
    refine S_ ?_
    rw [hP.out]
    exact k_1 (by first | exact r_tmpC rfl | exact r_tmpA rfl) (by first | kernel_rfl | rfl)
@[simp] theorem rlNum8_len (x : Nat) : (rlNum8 x).length = 8 := by
  unfold rlNum8
  first | (simp [rlNum8_L3_len, *]; done) | (simp [rlNum8_L3_len, *]; omega)
attribute [irreducible] rlNum8
def rfLe4_L3_S (x : BitVec 64) (X1 : List (BitVec 8)) (j3 : Nat) : List (BitVec 8) := X1 ++ [(x >>> (BitVec.ofNat 64 (8 * j3)).toNat).setWidth 8]
def rfLe4_L3 (x : BitVec 64) : Nat → List (BitVec 8)
  | 0 => []
  | j3 + 1 => rfLe4_L3_S x (rfLe4_L3 x j3) j3
@[simp] theorem rfLe4_L3_len (x : BitVec 64) (j3 : Nat) : (rfLe4_L3 x j3).length = j3 := by
  induction j3 with
  | zero => first | (simp [rfLe4_L3, *]; done) | (simp [rfLe4_L3, *]; omega)
  | succ j3 ih => rw [rfLe4_L3.eq_2, rfLe4_L3_S]; first | (simp [ih]; done) | (simp [ih]; omega) | (simp [*]; done) | (simp [*]; omega) | (split <;> first | (simp [ih]; done) | (simp [ih]; omega) | (simp [*]; done))
def rfLe4 (x : BitVec 64) : List (BitVec 8) := (rfLe4_L3 x 4)
@[simp] theorem rfLe4_len (x : BitVec 64) : (rfLe4 x).length = 4 := by
  unfold rfLe4
  first | (simp [rfLe4_L3_len, *]; done) | (simp [rfLe4_L3_len, *]; omega)
attribute [irreducible] rfLe4
def rfLe8_L3_S (x : BitVec 64) (X1 : List (BitVec 8)) (j3 : Nat) : List (BitVec 8) := X1 ++ [(x >>> (BitVec.ofNat 64 (8 * j3)).toNat).setWidth 8]
def rfLe8_L3 (x : BitVec 64) : Nat → List (BitVec 8)
  | 0 => []
  | j3 + 1 => rfLe8_L3_S x (rfLe8_L3 x j3) j3
@[simp] theorem rfLe8_L3_len (x : BitVec 64) (j3 : Nat) : (rfLe8_L3 x j3).length = j3 := by
  induction j3 with
  | zero => first | (simp [rfLe8_L3, *]; done) | (simp [rfLe8_L3, *]; omega)
  | succ j3 ih => rw [rfLe8_L3.eq_2, rfLe8_L3_S]; first | (simp [ih]; done) | (simp [ih]; omega) | (simp [*]; done) | (simp [*]; omega) | (split <;> first | (simp [ih]; done) | (simp [ih]; omega) | (simp [*]; done))
def rfLe8 (x : BitVec 64) : List (BitVec 8) := (rfLe8_L3 x 8)
@[simp] theorem rfLe8_len (x : BitVec 64) : (rfLe8 x).length = 8 := by
  unfold rfLe8
  first | (simp [rfLe8_L3_len, *]; done) | (simp [rfLe8_L3_len, *]; omega)
attribute [irreducible] rfLe8
end Go.Proofs.YtmbepikkgkcgkaaGreatDoor
namespace Go.Proofs.YtmbepikkgkcgkaaGreatDoor
open Go.RowKit
def jpl (l : List (List (BitVec 8))) : Nat → Nat
  | 0 => 0
  | j + 1 => jpl l j + (4 + (getb l j).length)
def jpb (l : List (List (BitVec 8))) : Nat → List (BitVec 8)
  | 0 => []
  | j + 1 => (jpb l j ++ rlNum4 (getb l j).length) ++ getb l j
@[simp] theorem jpb_len (l : List (List (BitVec 8))) (j : Nat) : (jpb l j).length = jpl l j := by
  induction j with
  | zero => rfl
  | succ j ih => simp only [jpb, jpl, List.length_append, rlNum4_len, ih]; omega
theorem jpl_mono (l : List (List (BitVec 8))) {i j : Nat} (h : i ≤ j) : jpl l i ≤ jpl l j := by
  induction j with
  | zero => obtain rfl : i = 0 := by omega
            exact Nat.le_refl _
  | succ j ih =>
    rcases Nat.lt_or_ge j i with h1 | h1
    · obtain rfl : i = j + 1 := by omega
      exact Nat.le_refl _
    · have := ih h1
      rw [jpl.eq_2]; omega
def jn (l : List (List (BitVec 8))) : List (BitVec 8) := jpb l l.length
def jl (l : List (List (BitVec 8))) : Nat := jpl l l.length
theorem jn_len (l : List (List (BitVec 8))) : (jn l).length = jl l := jpb_len l _
set_option maxRecDepth 100000 in
set_option maxHeartbeats 2000000 in
theorem rlJoin_ev (l : List (List (BitVec 8))) (n cap : Nat) (hl : l.length = n) (hn : n ≤ 1099511627776) (hs : jl l ≤ 65536) : Ev Tryz.prog (.call 11 [.c (.sl 0 0 n cap 1)] [.row false (.ab l)]) (.val (.tup [.c (.bs (jn l)), .c (.val (.int .i64 ((0 : Nat) : Int)))]) [.row false (.ab l)]) := by
  have hP : Hid (jn l = jpb l n) := ⟨by rw [jn, hl]⟩
  have hs : jpl l n ≤ 65536 := by rw [jl, hl] at hs; exact hs
  have hl : l.length = n := hl
  refine c_call Tryz.func11 rfl Tryz.ntmps11 rfl LEN_ ?_
  refine S_ ?_
  refine c_region ?_
  refine s_val (v_assignC rfl) rfl ?_
  refine s_val (v_assignC rfl) rfl ?_
  refine s_nil ?_
  refine S_ ?_
  refine c_region ?_
  refine s_val (v_assignC rfl) rfl ?_
  refine s_nil ?_
  refine S_ ?_
  refine c_region ?_
  first
    | refine s_val (v_moveC rfl) rfl ?_
    | refine s_val (v_moveA rfl) rfl ?_
    | refine s_val (v_moveT rfl) rfl ?_
  first
    | refine s_val (v_lenS rfl Tryz.underlying22) rfl ?_
    | refine s_val (v_lenN rfl Tryz.underlying22) rfl ?_
    | refine s_val (v_lenE rfl Tryz.underlying22) rfl ?_
    | refine s_val (v_lenB rfl Tryz.underlying22 rfl) rfl ?_
    | refine s_val (v_lenZ rfl Tryz.underlying22 rfl) rfl ?_
  refine s_val (v_moveC rfl) rfl ?_
  refine s_nil ?_
  refine S_ ?_
  refine c_loopC [0, 4, 10, 11, 12] (fun (zz : Nat × Nat) => ⟨39, keepT [0, 4, 10, 11, 12] [.c (.sl 0 0 n cap 1), .c (.val (.int .i64 (((zz.2 : Nat) : Int)))), .c (.sl 0 0 n cap 1), .c (.val (.int .i64 (((n : Nat) : Int)))), .c (.val (.int .i64 (((zz.1 : Nat) : Int))))], [.row false (.ab l)]⟩) (fun j => (j, jpl l j)) (n) (by kernel_rfl) ?_ ?_
  · intro j hj
    have h1 : jpl l (j + 1) ≤ 65536 := Nat.le_trans (jpl_mono l hj) hs
    try dsimp only
    rw [jpl.eq_2] at *
    generalize jpl l j = X at *
    refine S_ ?_
    refine c_region ?_
    first
      | refine s_val (v_lssN rfl rfl) rfl ?_
      | refine s_val (v_lssI rfl rfl) rfl ?_
    refine s_nil ?_
    refine S_ ?_
    refine c_region ?_
    first
      | refine s_val (v_idxS1 rfl rfl Tryz.underlying22 sz_23 (by omega)) rfl ?_
      | refine s_val (v_idxSo rfl rfl Tryz.underlying22 sz_23 (by omega)) rfl ?_
      | refine s_val (v_idxS rfl rfl Tryz.underlying22 sz_23 (by omega)) rfl ?_
    first
      | refine s_val (v_loadB rfl rfl row_23 LT_) rfl ?_
      | refine s_val (v_load rfl rfl row_23 LT_ rfl) rfl ?_
    first
      | refine s_val (v_assignC rfl) rfl ?_
      | refine s_val (v_assignA rfl) rfl ?_
      | refine s_val (v_assignT rfl) rfl ?_
    refine s_nil ?_
    refine S_ ?_
    refine c_region ?_
    first
      | refine s_val (v_moveC rfl) rfl ?_
      | refine s_val (v_moveA rfl) rfl ?_
      | refine s_val (v_moveT rfl) rfl ?_
    first
      | refine s_val (v_moveC rfl) rfl ?_
      | refine s_val (v_moveA rfl) rfl ?_
      | refine s_val (v_moveT rfl) rfl ?_
    first
      | refine s_val (v_lenS rfl Tryz.underlying23) rfl ?_
      | refine s_val (v_lenN rfl Tryz.underlying23) rfl ?_
      | refine s_val (v_lenE rfl Tryz.underlying23) rfl ?_
      | refine s_val (v_lenB rfl Tryz.underlying23 rfl) rfl ?_
      | refine s_val (v_lenZ rfl Tryz.underlying23 rfl) rfl ?_
    first
      | refine s_val (v_addN (a := 4) rfl rfl (by omega)) rfl ?_
      | refine s_val (v_addI rfl rfl (by omega)) rfl ?_
    first
      | refine s_val (v_addN rfl rfl (by omega)) rfl ?_
      | refine s_val (v_addI rfl rfl (by omega)) rfl ?_
    first
      | refine s_val (v_assignC rfl) rfl ?_
      | refine s_val (v_assignA rfl) rfl ?_
      | refine s_val (v_assignT rfl) rfl ?_
    refine s_nil ?_
    refine S_ ?_
    refine c_region ?_
    first
      | refine s_val (v_moveC rfl) rfl ?_
      | refine s_val (v_moveA rfl) rfl ?_
      | refine s_val (v_moveT rfl) rfl ?_
    first
      | refine s_val (v_gtrN (b := 65536) rfl rfl) rfl ?_
      | refine s_val (v_gtrI rfl rfl) rfl ?_
    refine s_nil ?_
    refine S_ ?_
    refine c_region ?_
    first
      | refine s_val (v_addN (b := 1) rfl rfl (by omega)) rfl ?_
      | refine s_val (v_addI rfl rfl (by omega)) rfl ?_
    first
      | refine s_val (v_moveC rfl) rfl ?_
      | refine s_val (v_moveA rfl) rfl ?_
      | refine s_val (v_moveT rfl) rfl ?_
    refine s_nil ?_
    exact ⟨(j + 1, _), by kernel_rfl, rfl⟩
  · try dsimp only
    refine S_ ?_
    refine c_region ?_
    first
      | refine s_val (v_lssN rfl rfl) rfl ?_
      | refine s_val (v_lssI rfl rfl) rfl ?_
    refine s_nil ?_
    refine S_ ?_
    refine c_region ?_
    refine s_val (v_assignC rfl) rfl ?_
    refine s_nil ?_
    refine S_ ?_
    refine c_region ?_
    first
      | refine s_val (v_moveC rfl) rfl ?_
      | refine s_val (v_moveA rfl) rfl ?_
      | refine s_val (v_moveT rfl) rfl ?_
    first
      | refine s_val (v_lenS rfl Tryz.underlying22) rfl ?_
      | refine s_val (v_lenN rfl Tryz.underlying22) rfl ?_
      | refine s_val (v_lenE rfl Tryz.underlying22) rfl ?_
      | refine s_val (v_lenB rfl Tryz.underlying22 rfl) rfl ?_
      | refine s_val (v_lenZ rfl Tryz.underlying22 rfl) rfl ?_
    refine s_val (v_moveC rfl) rfl ?_
    refine s_nil ?_
    refine S_ ?_
    refine c_nil 7 1 (.a8 []) rfl rfl LEN_ rfl ?_
    refine S_ ?_
    refine c_loopC [7, 24, 25, 26] (fun (zz : Nat × Nat × List (BitVec 8)) => ⟨39, keepT [7, 24, 25, 26] [.c (.sl 1 0 zz.2.1 zz.2.1 1), .c (.sl 0 0 n cap 1), .c (.val (.int .i64 (((n : Nat) : Int)))), .c (.val (.int .i64 (((zz.1 : Nat) : Int))))], [.row false (.ab l), .row true (.a8 (zz.2.2))]⟩) (fun j => (j, jpl l j, jpb l j)) (n) (by kernel_rfl) ?_ ?_
    · intro j hj
      have h1 : jpl l (j + 1) ≤ 65536 := Nat.le_trans (jpl_mono l hj) hs
      have hX : (jpb l j).length = jpl l j := jpb_len l j
      try dsimp only
      rw [jpl.eq_2] at *
      rw [jpb.eq_2]
      generalize jpl l j = Y at *
      generalize jpb l j = X at *
      refine S_ ?_
      refine c_region ?_
      first
        | refine s_val (v_lssN rfl rfl) rfl ?_
        | refine s_val (v_lssI rfl rfl) rfl ?_
      refine s_nil ?_
      refine S_ ?_
      refine c_region ?_
      first
        | refine s_val (v_idxS1 rfl rfl Tryz.underlying22 sz_23 (by omega)) rfl ?_
        | refine s_val (v_idxSo rfl rfl Tryz.underlying22 sz_23 (by omega)) rfl ?_
        | refine s_val (v_idxS rfl rfl Tryz.underlying22 sz_23 (by omega)) rfl ?_
      first
        | refine s_val (v_loadB rfl rfl row_23 LT_) rfl ?_
        | refine s_val (v_load rfl rfl row_23 LT_ rfl) rfl ?_
      first
        | refine s_val (v_assignC rfl) rfl ?_
        | refine s_val (v_assignA rfl) rfl ?_
        | refine s_val (v_assignT rfl) rfl ?_
      refine s_nil ?_
      have h2 : (X ++ rlNum4 (getb l j).length).length = Y + 4 := by simp [hX]
      refine S_ ?_
      refine c_region ?_
      first
        | refine s_val (v_moveC rfl) rfl ?_
        | refine s_val (v_moveA rfl) rfl ?_
        | refine s_val (v_moveT rfl) rfl ?_
      first
        | refine s_val (v_moveC rfl) rfl ?_
        | refine s_val (v_moveA rfl) rfl ?_
        | refine s_val (v_moveT rfl) rfl ?_
      first
        | refine s_val (v_lenS rfl Tryz.underlying23) rfl ?_
        | refine s_val (v_lenN rfl Tryz.underlying23) rfl ?_
        | refine s_val (v_lenE rfl Tryz.underlying23) rfl ?_
        | refine s_val (v_lenB rfl Tryz.underlying23 rfl) rfl ?_
        | refine s_val (v_lenZ rfl Tryz.underlying23 rfl) rfl ?_
      refine s_evN (e_callR (rlNum4_ev (getb l j).length (by omega)) ok_35 rfl rfl rfl VAL_) APP_ rfl ?_
      first
        | refine s_memN (m_appE8 rfl rfl rfl Tryz.underlying23 Tryz.underlying23 el_5 EQL_ (by omega) LEN_) APP_ rfl ?_
        | refine s_memN (m_appN8 rfl rfl rfl Tryz.underlying23 Tryz.underlying23 el_5 EQL_ (by omega) LEN_) APP_ rfl ?_
        | refine s_app8 rfl rfl rfl rfl Tryz.underlying23 Tryz.underlying23 el_5 EQL_ EQL_ (by omega) LEN_ KILL_ rfl ?_
        | refine s_memN (m_appE8c rfl rfl rfl Tryz.underlying23 Tryz.underlying23 el_5 LE_ (by omega) LEN_) APP_ rfl ?_
        | refine s_memN (m_appN8c rfl rfl rfl Tryz.underlying23 Tryz.underlying23 el_5 LE_ (by omega) LEN_) APP_ rfl ?_
        | refine s_app8c rfl rfl rfl rfl Tryz.underlying23 Tryz.underlying23 el_5 EQL_ LE_ (by omega) LEN_ KILL_ rfl ?_
        | refine s_memN (m_appZ rfl rfl Tryz.underlying23 Tryz.underlying23 el_5 rfl) APP_ rfl ?_
        | refine s_memN (m_appZe rfl rfl Tryz.underlying23 Tryz.underlying23 el_5 rfl) APP_ rfl ?_
        | refine s_memN (m_appNB rfl rfl Tryz.underlying23 Tryz.underlying23 el_5 EQL_ (by omega) LEN_) APP_ rfl ?_
        | refine s_memN (m_appEB rfl rfl Tryz.underlying23 Tryz.underlying23 el_5 EQL_ (by omega) LEN_) APP_ rfl ?_
        | refine s_appB rfl rfl rfl Tryz.underlying23 Tryz.underlying23 el_5 EQL_ EQL_ (by omega) LEN_ KILL_ rfl ?_
      first
        | refine s_val (v_moveC rfl) rfl ?_
        | refine s_val (v_moveA rfl) rfl ?_
        | refine s_val (v_moveT rfl) rfl ?_
      first
        | refine s_memN (m_appE8 rfl rfl rfl Tryz.underlying23 Tryz.underlying23 el_5 EQL_ (by omega) LEN_) APP_ rfl ?_
        | refine s_memN (m_appN8 rfl rfl rfl Tryz.underlying23 Tryz.underlying23 el_5 EQL_ (by omega) LEN_) APP_ rfl ?_
        | refine s_app8 rfl rfl rfl rfl Tryz.underlying23 Tryz.underlying23 el_5 EQL_ EQL_ (by omega) LEN_ KILL_ rfl ?_
        | refine s_memN (m_appE8c rfl rfl rfl Tryz.underlying23 Tryz.underlying23 el_5 LE_ (by omega) LEN_) APP_ rfl ?_
        | refine s_memN (m_appN8c rfl rfl rfl Tryz.underlying23 Tryz.underlying23 el_5 LE_ (by omega) LEN_) APP_ rfl ?_
        | refine s_app8c rfl rfl rfl rfl Tryz.underlying23 Tryz.underlying23 el_5 EQL_ LE_ (by omega) LEN_ KILL_ rfl ?_
        | refine s_memN (m_appZ rfl rfl Tryz.underlying23 Tryz.underlying23 el_5 rfl) APP_ rfl ?_
        | refine s_memN (m_appZe rfl rfl Tryz.underlying23 Tryz.underlying23 el_5 rfl) APP_ rfl ?_
        | refine s_memN (m_appNB rfl rfl Tryz.underlying23 Tryz.underlying23 el_5 EQL_ (by omega) LEN_) APP_ rfl ?_
        | refine s_memN (m_appEB rfl rfl Tryz.underlying23 Tryz.underlying23 el_5 EQL_ (by omega) LEN_) APP_ rfl ?_
        | refine s_appB rfl rfl rfl Tryz.underlying23 Tryz.underlying23 el_5 EQL_ EQL_ (by omega) LEN_ KILL_ rfl ?_
      first
        | refine s_val (v_assignC rfl) rfl ?_
        | refine s_val (v_assignA rfl) rfl ?_
        | refine s_val (v_assignT rfl) rfl ?_
      refine s_nil ?_
      refine S_ ?_
      refine c_region ?_
      first
        | refine s_val (v_addN (b := 1) rfl rfl (by omega)) rfl ?_
        | refine s_val (v_addI rfl rfl (by omega)) rfl ?_
      first
        | refine s_val (v_moveC rfl) rfl ?_
        | refine s_val (v_moveA rfl) rfl ?_
        | refine s_val (v_moveT rfl) rfl ?_
      refine s_nil ?_
      rw [show Y + (4 + (getb l j).length) = Y + 4 + (getb l j).length by omega]
      exact ⟨(j + 1, _, _), by kernel_rfl, rfl⟩
    · try dsimp only
      have hX : (jpb l n).length = jpl l n := jpb_len l n
      rw [hP.out]
      generalize jpl l n = Y at *
      generalize jpb l n = X at *
      refine S_ ?_
      refine c_region ?_
      first
        | refine s_val (v_lssN rfl rfl) rfl ?_
        | refine s_val (v_lssI rfl rfl) rfl ?_
      refine s_nil ?_
      refine S_ ?_
      refine c_hide8 7 rfl rfl hX rfl ?_
      refine S_ ?_
      refine c_region ?_
      first
        | refine s_val (v_moveC rfl) rfl ?_
        | refine s_val (v_moveA rfl) rfl ?_
        | refine s_val (v_moveT rfl) rfl ?_
      first
        | refine s_val (v_assignC rfl) rfl ?_
        | refine s_val (v_assignA rfl) rfl ?_
        | refine s_val (v_assignT rfl) rfl ?_
      refine s_val (v_assignC rfl) rfl ?_
      refine s_nil ?_
      refine S_ ?_
      exact k_2 (by first | exact r_tmpC rfl | exact r_tmpA rfl) (by first | exact r_tmpC rfl | exact r_tmpA rfl) (by first | kernel_rfl | rfl)
theorem jpl_first (l : List (List (BitVec 8))) (n : Nat) (h : 65536 < jpl l n) : ∃ q, q < n ∧ jpl l q ≤ 65536 ∧ 65536 < jpl l (q + 1) := by
  induction n with
  | zero => simp [jpl] at h
  | succ n ih =>
    by_cases h1 : 65536 < jpl l n
    · obtain ⟨q, h2, h3⟩ := ih h1
      exact ⟨q, by omega, h3⟩
    · exact ⟨n, by omega, by omega, h⟩
set_option maxRecDepth 100000 in
set_option maxHeartbeats 2000000 in
theorem rlJoinE_ev (l : List (List (BitVec 8))) (n cap : Nat) (hl : l.length = n) (hn : n ≤ 1099511627776) (hb : ∀ j, (getb l j).length ≤ 1099511627776) (hs : 65536 < jl l) : Ev Tryz.prog (.call 11 [.c (.sl 0 0 n cap 1)] [.row false (.ab l)]) (.val (.tup [.c (.bs []), .c (.val (.int .i64 ((2 : Nat) : Int)))]) [.row false (.ab l)]) := by
  have hs : 65536 < jpl l n := by rw [jl, hl] at hs; exact hs
  obtain ⟨q, hq, h1, h2⟩ := jpl_first l n hs
  refine c_call Tryz.func11 rfl Tryz.ntmps11 rfl LEN_ ?_
  refine S_ ?_
  refine c_region ?_
  refine s_val (v_assignC rfl) rfl ?_
  refine s_val (v_assignC rfl) rfl ?_
  refine s_nil ?_
  refine S_ ?_
  refine c_region ?_
  refine s_val (v_assignC rfl) rfl ?_
  refine s_nil ?_
  refine S_ ?_
  refine c_region ?_
  first
    | refine s_val (v_moveC rfl) rfl ?_
    | refine s_val (v_moveA rfl) rfl ?_
    | refine s_val (v_moveT rfl) rfl ?_
  first
    | refine s_val (v_lenS rfl Tryz.underlying22) rfl ?_
    | refine s_val (v_lenN rfl Tryz.underlying22) rfl ?_
    | refine s_val (v_lenE rfl Tryz.underlying22) rfl ?_
    | refine s_val (v_lenB rfl Tryz.underlying22 rfl) rfl ?_
    | refine s_val (v_lenZ rfl Tryz.underlying22 rfl) rfl ?_
  refine s_val (v_moveC rfl) rfl ?_
  refine s_nil ?_
  refine S_ ?_
  refine c_loopC [0, 4, 10, 11, 12] (fun (zz : Nat × Nat) => ⟨39, keepT [0, 4, 10, 11, 12] [.c (.sl 0 0 n cap 1), .c (.val (.int .i64 (((zz.2 : Nat) : Int)))), .c (.sl 0 0 n cap 1), .c (.val (.int .i64 (((n : Nat) : Int)))), .c (.val (.int .i64 (((zz.1 : Nat) : Int))))], [.row false (.ab l)]⟩) (fun j => (j, jpl l j)) (q) (by kernel_rfl) ?_ ?_
  · intro j hj
    have h3 : jpl l (j + 1) ≤ 65536 := Nat.le_trans (jpl_mono l hj) h1
    clear h2
    try dsimp only
    rw [jpl.eq_2] at *
    generalize jpl l j = X at *
    refine S_ ?_
    refine c_region ?_
    first
      | refine s_val (v_lssN rfl rfl) rfl ?_
      | refine s_val (v_lssI rfl rfl) rfl ?_
    refine s_nil ?_
    refine S_ ?_
    refine c_region ?_
    first
      | refine s_val (v_idxS1 rfl rfl Tryz.underlying22 sz_23 (by omega)) rfl ?_
      | refine s_val (v_idxSo rfl rfl Tryz.underlying22 sz_23 (by omega)) rfl ?_
      | refine s_val (v_idxS rfl rfl Tryz.underlying22 sz_23 (by omega)) rfl ?_
    first
      | refine s_val (v_loadB rfl rfl row_23 LT_) rfl ?_
      | refine s_val (v_load rfl rfl row_23 LT_ rfl) rfl ?_
    first
      | refine s_val (v_assignC rfl) rfl ?_
      | refine s_val (v_assignA rfl) rfl ?_
      | refine s_val (v_assignT rfl) rfl ?_
    refine s_nil ?_
    refine S_ ?_
    refine c_region ?_
    first
      | refine s_val (v_moveC rfl) rfl ?_
      | refine s_val (v_moveA rfl) rfl ?_
      | refine s_val (v_moveT rfl) rfl ?_
    first
      | refine s_val (v_moveC rfl) rfl ?_
      | refine s_val (v_moveA rfl) rfl ?_
      | refine s_val (v_moveT rfl) rfl ?_
    first
      | refine s_val (v_lenS rfl Tryz.underlying23) rfl ?_
      | refine s_val (v_lenN rfl Tryz.underlying23) rfl ?_
      | refine s_val (v_lenE rfl Tryz.underlying23) rfl ?_
      | refine s_val (v_lenB rfl Tryz.underlying23 rfl) rfl ?_
      | refine s_val (v_lenZ rfl Tryz.underlying23 rfl) rfl ?_
    first
      | refine s_val (v_addN (a := 4) rfl rfl (by omega)) rfl ?_
      | refine s_val (v_addI rfl rfl (by omega)) rfl ?_
    first
      | refine s_val (v_addN rfl rfl (by omega)) rfl ?_
      | refine s_val (v_addI rfl rfl (by omega)) rfl ?_
    first
      | refine s_val (v_assignC rfl) rfl ?_
      | refine s_val (v_assignA rfl) rfl ?_
      | refine s_val (v_assignT rfl) rfl ?_
    refine s_nil ?_
    refine S_ ?_
    refine c_region ?_
    first
      | refine s_val (v_moveC rfl) rfl ?_
      | refine s_val (v_moveA rfl) rfl ?_
      | refine s_val (v_moveT rfl) rfl ?_
    first
      | refine s_val (v_gtrN (b := 65536) rfl rfl) rfl ?_
      | refine s_val (v_gtrI rfl rfl) rfl ?_
    refine s_nil ?_
    refine S_ ?_
    refine c_region ?_
    first
      | refine s_val (v_addN (b := 1) rfl rfl (by omega)) rfl ?_
      | refine s_val (v_addI rfl rfl (by omega)) rfl ?_
    first
      | refine s_val (v_moveC rfl) rfl ?_
      | refine s_val (v_moveA rfl) rfl ?_
      | refine s_val (v_moveT rfl) rfl ?_
    refine s_nil ?_
    exact ⟨(j + 1, _), by kernel_rfl, rfl⟩
  · try dsimp only
    have h3 := hb q
    rw [jpl.eq_2] at h2
    generalize jpl l q = X at *
    refine S_ ?_
    refine c_region ?_
    first
      | refine s_val (v_lssN rfl rfl) rfl ?_
      | refine s_val (v_lssI rfl rfl) rfl ?_
    refine s_nil ?_
    refine S_ ?_
    refine c_region ?_
    first
      | refine s_val (v_idxS1 rfl rfl Tryz.underlying22 sz_23 (by omega)) rfl ?_
      | refine s_val (v_idxSo rfl rfl Tryz.underlying22 sz_23 (by omega)) rfl ?_
      | refine s_val (v_idxS rfl rfl Tryz.underlying22 sz_23 (by omega)) rfl ?_
    first
      | refine s_val (v_loadB rfl rfl row_23 LT_) rfl ?_
      | refine s_val (v_load rfl rfl row_23 LT_ rfl) rfl ?_
    first
      | refine s_val (v_assignC rfl) rfl ?_
      | refine s_val (v_assignA rfl) rfl ?_
      | refine s_val (v_assignT rfl) rfl ?_
    refine s_nil ?_
    refine S_ ?_
    refine c_region ?_
    first
      | refine s_val (v_moveC rfl) rfl ?_
      | refine s_val (v_moveA rfl) rfl ?_
      | refine s_val (v_moveT rfl) rfl ?_
    first
      | refine s_val (v_moveC rfl) rfl ?_
      | refine s_val (v_moveA rfl) rfl ?_
      | refine s_val (v_moveT rfl) rfl ?_
    first
      | refine s_val (v_lenS rfl Tryz.underlying23) rfl ?_
      | refine s_val (v_lenN rfl Tryz.underlying23) rfl ?_
      | refine s_val (v_lenE rfl Tryz.underlying23) rfl ?_
      | refine s_val (v_lenB rfl Tryz.underlying23 rfl) rfl ?_
      | refine s_val (v_lenZ rfl Tryz.underlying23 rfl) rfl ?_
    first
      | refine s_val (v_addN (a := 4) rfl rfl (by omega)) rfl ?_
      | refine s_val (v_addI rfl rfl (by omega)) rfl ?_
    first
      | refine s_val (v_addN rfl rfl (by omega)) rfl ?_
      | refine s_val (v_addI rfl rfl (by omega)) rfl ?_
    first
      | refine s_val (v_assignC rfl) rfl ?_
      | refine s_val (v_assignA rfl) rfl ?_
      | refine s_val (v_assignT rfl) rfl ?_
    refine s_nil ?_
    refine S_ ?_
    refine c_region ?_
    first
      | refine s_val (v_moveC rfl) rfl ?_
      | refine s_val (v_moveA rfl) rfl ?_
      | refine s_val (v_moveT rfl) rfl ?_
    first
      | refine s_val (v_gtrN (b := 65536) rfl rfl) rfl ?_
      | refine s_val (v_gtrI rfl rfl) rfl ?_
    refine s_nil ?_
    refine S_ ?_
    refine c_region ?_
    refine s_ev (o_nilB (Ev.val (v_assignC rfl))) rfl ?_
    refine s_val (v_assignC rfl) rfl ?_
    refine s_nil ?_
    refine S_ ?_
    exact k_2 (by first | exact r_tmpC rfl | exact r_tmpA rfl) (by first | exact r_tmpC rfl | exact r_tmpA rfl) (by first | kernel_rfl | rfl)
end Go.Proofs.YtmbepikkgkcgkaaGreatDoor
namespace Go.Proofs.YtmbepikkgkcgkaaGreatDoor
open Go.RowKit
end Go.Proofs.YtmbepikkgkcgkaaGreatDoor
namespace Go.Proofs.YtmbepikkgkcgkaaGreatDoor
open Go.RowKit
def rdN (b : List (BitVec 8)) : Nat → Nat
  | 0 => 0
  | k + 1 => rdN b k ||| (nth b k).toNat * 2 ^ (8 * k)
theorem shl_small (x : BitVec 8) {k : Nat} (hk : k < 4) : x.toNat * 2 ^ (8 * k) < 4294967296 := by
  have := x.isLt
  rcases (by omega : k = 0 ∨ k = 1 ∨ k = 2 ∨ k = 3) with rfl | rfl | rfl | rfl <;> omega
theorem rdN_lt (b : List (BitVec 8)) : ∀ k, k ≤ 4 → rdN b k < 4294967296
  | 0, _ => by simp [rdN]
  | k + 1, h => Nat.or_lt_two_pow (n := 32) (rdN_lt b k (by omega)) (shl_small _ (by omega))
def spL (b : List (BitVec 8)) : Option (List (List (BitVec 8))) :=
  if b.length = 0 then some []
  else if _h : b.length < 4 then none
  else if (b.drop 4).length < rdN b 4 then none
  else (spL ((b.drop 4).drop (rdN b 4))).map ((b.drop 4).take (rdN b 4) :: ·)
termination_by b.length
decreasing_by simp only [List.length_drop]; omega
def spR (b : List (BitVec 8)) : List (List (BitVec 8)) × Nat :=
  if 65536 < b.length then ([], 2) else match spL b with | some l => (l, 0) | none => ([], 2)
theorem spR_some {b : List (BitVec 8)} {l : List (List (BitVec 8))} (h : b.length ≤ 65536) (hl : spL b = some l) : spR b = (l, 0) := by
  unfold spR
  rw [if_neg (by omega), hl]
theorem spR_none {b : List (BitVec 8)} (h : 65536 < b.length ∨ spL b = none) : spR b = ([], 2) := by
  unfold spR
  split
  · rfl
  · rcases h with h | h
    · omega
    · rw [h]
theorem app_map (out : List (List (BitVec 8))) (x : List (BitVec 8)) (o : Option (List (List (BitVec 8)))) : (o.map (x :: ·)).map (out ++ ·) = o.map ((out ++ [x]) ++ ·) := by
  cases o <;> simp
set_option maxRecDepth 100000 in
set_option maxHeartbeats 2000000 in
theorem rlSplit_ev (b : List (BitVec 8)) (hb : b.length ≤ 1099511627776) : Ev Tryz.prog (.call 15 [.c (.bs b)] []) (.val (.tup [.c (.sl 0 0 (spR b).1.length (spR b).1.length 1), .c (.val (.int .i64 ((spR b).2 : Int)))]) [.row true (.ab (spR b).1)]) := by
  refine c_call Tryz.func15 rfl Tryz.ntmps15 rfl LEN_ ?_
  refine S_ ?_
  refine c_region ?_
  refine s_val (v_assignC rfl) rfl ?_
  refine s_val (v_assignC rfl) rfl ?_
  refine s_nil ?_
  by_cases h0 : 65536 < b.length
  · rw [spR_none (.inl h0)]
    refine S_ ?_
    refine c_region ?_
    first
      | refine s_val (v_moveC rfl) rfl ?_
      | refine s_val (v_moveA rfl) rfl ?_
      | refine s_val (v_moveT rfl) rfl ?_
    first
      | refine s_val (v_lenS rfl Tryz.underlying23) rfl ?_
      | refine s_val (v_lenN rfl Tryz.underlying23) rfl ?_
      | refine s_val (v_lenE rfl Tryz.underlying23) rfl ?_
      | refine s_val (v_lenB rfl Tryz.underlying23 rfl) rfl ?_
      | refine s_val (v_lenZ rfl Tryz.underlying23 rfl) rfl ?_
    first
      | refine s_val (v_gtrN (b := 65536) rfl rfl) rfl ?_
      | refine s_val (v_gtrI rfl rfl) rfl ?_
    refine s_nil ?_
    refine S_ ?_
    refine c_region ?_
    refine s_val (v_assignC rfl) rfl ?_
    refine s_val (v_assignC rfl) rfl ?_
    refine s_nil ?_
    refine Q_ ?_
    refine c_nil 2 1 (.ab []) rfl rfl LEN_ rfl ?_
    refine S_ ?_
    exact k_2 (by first | exact r_tmpC rfl | exact r_tmpA rfl) (by first | exact r_tmpC rfl | exact r_tmpA rfl) (by first | kernel_rfl | rfl)
  · refine S_ ?_
    refine c_region ?_
    first
      | refine s_val (v_moveC rfl) rfl ?_
      | refine s_val (v_moveA rfl) rfl ?_
      | refine s_val (v_moveT rfl) rfl ?_
    first
      | refine s_val (v_lenS rfl Tryz.underlying23) rfl ?_
      | refine s_val (v_lenN rfl Tryz.underlying23) rfl ?_
      | refine s_val (v_lenE rfl Tryz.underlying23) rfl ?_
      | refine s_val (v_lenB rfl Tryz.underlying23 rfl) rfl ?_
      | refine s_val (v_lenZ rfl Tryz.underlying23 rfl) rfl ?_
    first
      | refine s_val (v_gtrN (b := 65536) rfl rfl) rfl ?_
      | refine s_val (v_gtrI rfl rfl) rfl ?_
    refine s_nil ?_
    refine S_ ?_
    refine c_region ?_
    refine s_val (v_assignC rfl) rfl ?_
    refine s_nil ?_
    refine S_ ?_
    refine c_nil 4 1 (.ab []) rfl rfl LEN_ rfl ?_
    refine S_ ?_
    refine c_while [0, 4] (fun (zz : List (BitVec 8) × Nat × List (List (BitVec 8))) => ⟨48, keepT [0, 4] [.c (.bs zz.1), .c (.sl 0 0 zz.2.1 zz.2.1 1)], [.row true (.ab zz.2.2)]⟩) (fun zz => zz.1.length) (fun zz => spL b = (spL zz.1).map (zz.2.2 ++ ·) ∧ zz.2.2.length = zz.2.1 ∧ zz.1.length + zz.2.1 ≤ 65536) (b, 0, []) (by kernel_rfl) ⟨by simp, rfl, by simp; omega⟩ ?_
    rintro ⟨r, on, out⟩ ⟨hR, hol, hsz⟩
    dsimp only at hR hol hsz ⊢
    rw [spL.eq_1 r] at hR
    by_cases h1 : r.length = 0
    · rw [if_pos h1] at hR
      rw [spR_some (l := out) (by omega) (by rw [hR]; simp)]
      refine S_ ?_
      refine c_region ?_
      first
        | refine s_val (v_moveC rfl) rfl ?_
        | refine s_val (v_moveA rfl) rfl ?_
        | refine s_val (v_moveT rfl) rfl ?_
      first
        | refine s_val (v_lenS rfl Tryz.underlying23) rfl ?_
        | refine s_val (v_lenN rfl Tryz.underlying23) rfl ?_
        | refine s_val (v_lenE rfl Tryz.underlying23) rfl ?_
        | refine s_val (v_lenB rfl Tryz.underlying23 rfl) rfl ?_
        | refine s_val (v_lenZ rfl Tryz.underlying23 rfl) rfl ?_
      first
        | refine s_val (v_gtrN (b := 0) rfl rfl) rfl ?_
        | refine s_val (v_gtrI rfl rfl) rfl ?_
      refine s_nil ?_
      rw [hol]
      refine S_ ?_
      refine c_region ?_
      first
        | refine s_val (v_moveC rfl) rfl ?_
        | refine s_val (v_moveA rfl) rfl ?_
        | refine s_val (v_moveT rfl) rfl ?_
      first
        | refine s_val (v_assignC rfl) rfl ?_
        | refine s_val (v_assignA rfl) rfl ?_
        | refine s_val (v_assignT rfl) rfl ?_
      refine s_val (v_assignC rfl) rfl ?_
      refine s_nil ?_
      refine S_ ?_
      exact k_2 (by first | exact r_tmpC rfl | exact r_tmpA rfl) (by first | exact r_tmpC rfl | exact r_tmpA rfl) (by first | kernel_rfl | rfl)
    rw [if_neg h1] at hR
    refine S_ ?_
    refine c_region ?_
    first
      | refine s_val (v_moveC rfl) rfl ?_
      | refine s_val (v_moveA rfl) rfl ?_
      | refine s_val (v_moveT rfl) rfl ?_
    first
      | refine s_val (v_lenS rfl Tryz.underlying23) rfl ?_
      | refine s_val (v_lenN rfl Tryz.underlying23) rfl ?_
      | refine s_val (v_lenE rfl Tryz.underlying23) rfl ?_
      | refine s_val (v_lenB rfl Tryz.underlying23 rfl) rfl ?_
      | refine s_val (v_lenZ rfl Tryz.underlying23 rfl) rfl ?_
    first
      | refine s_val (v_gtrN (b := 0) rfl rfl) rfl ?_
      | refine s_val (v_gtrI rfl rfl) rfl ?_
    refine s_nil ?_
    by_cases h2 : r.length < 4
    · rw [dif_pos h2] at hR
      rw [spR_none (.inr (by rw [hR]; rfl))]
      refine S_ ?_
      refine c_region ?_
      first
        | refine s_val (v_moveC rfl) rfl ?_
        | refine s_val (v_moveA rfl) rfl ?_
        | refine s_val (v_moveT rfl) rfl ?_
      first
        | refine s_val (v_lenS rfl Tryz.underlying23) rfl ?_
        | refine s_val (v_lenN rfl Tryz.underlying23) rfl ?_
        | refine s_val (v_lenE rfl Tryz.underlying23) rfl ?_
        | refine s_val (v_lenB rfl Tryz.underlying23 rfl) rfl ?_
        | refine s_val (v_lenZ rfl Tryz.underlying23 rfl) rfl ?_
      first
        | refine s_val (v_lssN (b := 4) rfl rfl) rfl ?_
        | refine s_val (v_lssI rfl rfl) rfl ?_
      refine s_nil ?_
      refine S_ ?_
      refine c_region ?_
      refine s_val (v_assignC rfl) rfl ?_
      refine s_val (v_assignC rfl) rfl ?_
      refine s_nil ?_
      refine Q_ ?_
      refine c_nil 2 1 (.ab []) rfl rfl LEN_ rfl ?_
      refine S_ ?_
      exact k_2 (by first | exact r_tmpC rfl | exact r_tmpA rfl) (by first | exact r_tmpC rfl | exact r_tmpA rfl) (by first | kernel_rfl | rfl)
    rw [dif_neg h2] at hR
    refine S_ ?_
    refine c_region ?_
    first
      | refine s_val (v_moveC rfl) rfl ?_
      | refine s_val (v_moveA rfl) rfl ?_
      | refine s_val (v_moveT rfl) rfl ?_
    first
      | refine s_val (v_lenS rfl Tryz.underlying23) rfl ?_
      | refine s_val (v_lenN rfl Tryz.underlying23) rfl ?_
      | refine s_val (v_lenE rfl Tryz.underlying23) rfl ?_
      | refine s_val (v_lenB rfl Tryz.underlying23 rfl) rfl ?_
      | refine s_val (v_lenZ rfl Tryz.underlying23 rfl) rfl ?_
    first
      | refine s_val (v_lssN (b := 4) rfl rfl) rfl ?_
      | refine s_val (v_lssI rfl rfl) rfl ?_
    refine s_nil ?_
    refine S_ ?_
    refine c_region ?_
    refine s_val (v_assignC rfl) rfl ?_
    refine s_nil ?_
    refine S_ ?_
    refine c_region ?_
    refine s_val (v_moveC rfl) rfl ?_
    refine s_nil ?_
    refine S_ ?_
    refine c_loopC [0, 4, 5, 16] (fun (zz : Nat × Nat) => ⟨48, keepT [0, 4, 5, 16] [.c (.bs r), .c (.sl 0 0 on on 1), .c (.val (.int .i64 (((zz.2 : Nat) : Int)))), .c (.val (.int .i64 (((zz.1 : Nat) : Int))))], [.row true (.ab out)]⟩) (fun j => (j, rdN r j)) (4) (by kernel_rfl) ?_ ?_
    · intro j hj
      have h3 := rdN_lt r j (by omega)
      have h4 := shl_small (nth r j) hj
      try dsimp only
      rw [rdN.eq_2]
      generalize rdN r j = X at *
      refine S_ ?_
      refine c_region ?_
      first
        | refine s_val (v_lssN (b := 4) rfl rfl) rfl ?_
        | refine s_val (v_lssI rfl rfl) rfl ?_
      refine s_nil ?_
      refine S_ ?_
      refine c_region ?_
      first
        | refine s_val (v_moveC rfl) rfl ?_
        | refine s_val (v_moveA rfl) rfl ?_
        | refine s_val (v_moveT rfl) rfl ?_
      first
        | refine s_val (v_assignC rfl) rfl ?_
        | refine s_val (v_assignA rfl) rfl ?_
        | refine s_val (v_assignT rfl) rfl ?_
      refine s_nil ?_
      refine S_ ?_
      refine c_region ?_
      first
        | refine s_val (v_moveC rfl) rfl ?_
        | refine s_val (v_moveA rfl) rfl ?_
        | refine s_val (v_moveT rfl) rfl ?_
      first
        | refine s_val (v_moveC rfl) rfl ?_
        | refine s_val (v_moveA rfl) rfl ?_
        | refine s_val (v_moveT rfl) rfl ?_
      first
        | refine s_val (v_moveC rfl) rfl ?_
        | refine s_val (v_moveA rfl) rfl ?_
        | refine s_val (v_moveT rfl) rfl ?_
      first
        | refine s_val (v_idxS1 rfl rfl Tryz.underlying23 sz_5 (by omega)) rfl ?_
        | refine s_val (v_idxSo rfl rfl Tryz.underlying23 sz_5 (by omega)) rfl ?_
        | refine s_val (v_idxS rfl rfl Tryz.underlying23 sz_5 (by omega)) rfl ?_
        | refine s_val (v_idxB rfl rfl Tryz.underlying23 sz_5 LT_) rfl ?_
      first
        | refine s_val (v_load8 rfl rfl row_5 LT_) rfl ?_
        | refine s_val (v_loadQ rfl row_5 LT_) rfl ?_
      refine s_val (v_conv rfl Tryz.underlying5 Tryz.underlying3 (w8_i _)) rfl ?_
      first
        | refine s_val (v_moveC rfl) rfl ?_
        | refine s_val (v_moveA rfl) rfl ?_
        | refine s_val (v_moveT rfl) rfl ?_
      refine s_val (v_mulN (a := 8) rfl rfl (by omega)) rfl ?_
      refine s_ev (Ev.val (v_shlN rfl rfl (by omega) (by omega))) rfl ?_
      refine s_ev (Ev.val (v_orN rfl rfl (by omega) (by omega))) rfl ?_
      first
        | refine s_val (v_assignC rfl) rfl ?_
        | refine s_val (v_assignA rfl) rfl ?_
        | refine s_val (v_assignT rfl) rfl ?_
      refine s_nil ?_
      refine S_ ?_
      refine c_region ?_
      first
        | refine s_val (v_addN (b := 1) rfl rfl (by omega)) rfl ?_
        | refine s_val (v_addI rfl rfl (by omega)) rfl ?_
      first
        | refine s_val (v_moveC rfl) rfl ?_
        | refine s_val (v_moveA rfl) rfl ?_
        | refine s_val (v_moveT rfl) rfl ?_
      refine s_nil ?_
      exact ⟨(j + 1, _), by kernel_rfl, rfl⟩
    · have h3 := rdN_lt r 4 (by omega)
      have h5 : (r.drop 4).length = r.length - 4 := by simp
      try dsimp only
      generalize rdN r 4 = n at *
      generalize hr4 : r.drop 4 = r4 at *
      refine S_ ?_
      refine c_region ?_
      first
        | refine s_val (v_lssN (b := 4) rfl rfl) rfl ?_
        | refine s_val (v_lssI rfl rfl) rfl ?_
      refine s_nil ?_
      refine S_ ?_
      refine c_region ?_
      first
        | refine s_val (v_moveC rfl) rfl ?_
        | refine s_val (v_moveA rfl) rfl ?_
        | refine s_val (v_moveT rfl) rfl ?_
      first
        | refine s_val (v_slS1 (l := 4) rfl Tryz.underlying23 sz_5 rfl rfl (by omega) (by omega)) rfl ?_
        | refine s_val (v_slSo (l := 4) rfl Tryz.underlying23 sz_5 rfl rfl (by omega) (by omega)) rfl ?_
        | refine s_val (v_slBd (l := 4) rfl rfl Tryz.underlying23 sz_5 LE_) rfl ?_
      first
        | refine s_val (v_assignC rfl) rfl ?_
        | refine s_val (v_assignA rfl) rfl ?_
        | refine s_val (v_assignT rfl) rfl ?_
      refine s_nil ?_
      rw [hr4]
      by_cases h6 : r4.length < n
      · rw [if_pos h6] at hR
        rw [spR_none (.inr (by rw [hR]; rfl))]
        refine S_ ?_
        refine c_region ?_
        first
          | refine s_val (v_moveC rfl) rfl ?_
          | refine s_val (v_moveA rfl) rfl ?_
          | refine s_val (v_moveT rfl) rfl ?_
        first
          | refine s_val (v_moveC rfl) rfl ?_
          | refine s_val (v_moveA rfl) rfl ?_
          | refine s_val (v_moveT rfl) rfl ?_
        first
          | refine s_val (v_lenS rfl Tryz.underlying23) rfl ?_
          | refine s_val (v_lenN rfl Tryz.underlying23) rfl ?_
          | refine s_val (v_lenE rfl Tryz.underlying23) rfl ?_
          | refine s_val (v_lenB rfl Tryz.underlying23 rfl) rfl ?_
          | refine s_val (v_lenZ rfl Tryz.underlying23 rfl) rfl ?_
        first
          | refine s_val (v_gtrN rfl rfl) rfl ?_
          | refine s_val (v_gtrI rfl rfl) rfl ?_
        refine s_nil ?_
        refine S_ ?_
        refine c_region ?_
        refine s_val (v_assignC rfl) rfl ?_
        refine s_val (v_assignC rfl) rfl ?_
        refine s_nil ?_
        refine Q_ ?_
        refine c_nil 2 1 (.ab []) rfl rfl LEN_ rfl ?_
        refine S_ ?_
        exact k_2 (by first | exact r_tmpC rfl | exact r_tmpA rfl) (by first | exact r_tmpC rfl | exact r_tmpA rfl) (by first | kernel_rfl | rfl)
      rw [if_neg h6, app_map] at hR
      have h7 : (r4.take n).length = n := by simp; omega
      have h8 : (r4.drop n).length = r4.length - n := by simp
      refine S_ ?_
      refine c_region ?_
      first
        | refine s_val (v_moveC rfl) rfl ?_
        | refine s_val (v_moveA rfl) rfl ?_
        | refine s_val (v_moveT rfl) rfl ?_
      first
        | refine s_val (v_moveC rfl) rfl ?_
        | refine s_val (v_moveA rfl) rfl ?_
        | refine s_val (v_moveT rfl) rfl ?_
      first
        | refine s_val (v_lenS rfl Tryz.underlying23) rfl ?_
        | refine s_val (v_lenN rfl Tryz.underlying23) rfl ?_
        | refine s_val (v_lenE rfl Tryz.underlying23) rfl ?_
        | refine s_val (v_lenB rfl Tryz.underlying23 rfl) rfl ?_
        | refine s_val (v_lenZ rfl Tryz.underlying23 rfl) rfl ?_
      first
        | refine s_val (v_gtrN rfl rfl) rfl ?_
        | refine s_val (v_gtrI rfl rfl) rfl ?_
      refine s_nil ?_
      refine S_ ?_
      refine c_region ?_
      first
        | refine s_val (v_moveC rfl) rfl ?_
        | refine s_val (v_moveA rfl) rfl ?_
        | refine s_val (v_moveT rfl) rfl ?_
      refine s_memN (m_bs0 Tryz.underlying23 el_5) APP_ rfl ?_
      first
        | refine s_val (v_moveC rfl) rfl ?_
        | refine s_val (v_moveA rfl) rfl ?_
        | refine s_val (v_moveT rfl) rfl ?_
      first
        | refine s_val (v_moveC rfl) rfl ?_
        | refine s_val (v_moveA rfl) rfl ?_
        | refine s_val (v_moveT rfl) rfl ?_
      first
        | refine s_val (v_slS0 rfl Tryz.underlying23 sz_5 rfl (by omega)) rfl ?_
        | refine s_val (v_slBt rfl rfl Tryz.underlying23 sz_5 LE_) rfl ?_
      first
        | refine s_ev (o_quiet8 (Ev.mem (m_appE8 rfl rfl rfl Tryz.underlying23 Tryz.underlying23 el_5 EQL_ (by omega) LEN_)) LEN_ LQ_ rfl) rfl ?_
        | refine s_ev (o_quiet8 (Ev.mem (m_appN8 rfl rfl rfl Tryz.underlying23 Tryz.underlying23 el_5 EQL_ (by omega) LEN_)) LEN_ LQ_ rfl) rfl ?_
        | refine s_ev (o_quiet8 (Ev.mem (m_appE8c rfl rfl rfl Tryz.underlying23 Tryz.underlying23 el_5 LE_ (by omega) LEN_)) LEN_ LQ_ rfl) rfl ?_
        | refine s_ev (o_quiet8 (Ev.mem (m_appN8c rfl rfl rfl Tryz.underlying23 Tryz.underlying23 el_5 LE_ (by omega) LEN_)) LEN_ LQ_ rfl) rfl ?_
        | refine s_ev (o_quiet8 (Ev.mem (m_appZ rfl rfl Tryz.underlying23 Tryz.underlying23 el_5 rfl)) LEN_ LQ_ rfl) rfl ?_
        | refine s_ev (o_quiet8 (Ev.mem (m_appZe rfl rfl Tryz.underlying23 Tryz.underlying23 el_5 rfl)) LEN_ LQ_ rfl) rfl ?_
        | refine s_ev (o_quiet8 (Ev.mem (m_appNB rfl rfl Tryz.underlying23 Tryz.underlying23 el_5 EQL_ (by omega) LEN_)) LEN_ LQ_ rfl) rfl ?_
        | refine s_ev (o_quiet8 (Ev.mem (m_appEB rfl rfl Tryz.underlying23 Tryz.underlying23 el_5 EQL_ (by omega) LEN_)) LEN_ LQ_ rfl) rfl ?_
      refine s_memN (m_bsc Tryz.underlying22 el_23 (rep_23 _) rfl CS_ (by decide) (by decide) LEN_) APP_ rfl ?_
      refine s_appR rfl rfl rfl rfl Tryz.underlying22 Tryz.underlying22 el_23 EQL_ (by omega) LEN_ KILL_ rfl ?_
      first
        | refine s_val (v_assignC rfl) rfl ?_
        | refine s_val (v_assignA rfl) rfl ?_
        | refine s_val (v_assignT rfl) rfl ?_
      refine s_nil ?_
      refine S_ ?_
      refine c_region ?_
      first
        | refine s_val (v_moveC rfl) rfl ?_
        | refine s_val (v_moveA rfl) rfl ?_
        | refine s_val (v_moveT rfl) rfl ?_
      first
        | refine s_val (v_moveC rfl) rfl ?_
        | refine s_val (v_moveA rfl) rfl ?_
        | refine s_val (v_moveT rfl) rfl ?_
      first
        | refine s_val (v_slS1 rfl Tryz.underlying23 sz_5 rfl rfl (by omega) (by omega)) rfl ?_
        | refine s_val (v_slSo rfl Tryz.underlying23 sz_5 rfl rfl (by omega) (by omega)) rfl ?_
        | refine s_val (v_slBd rfl rfl Tryz.underlying23 sz_5 LE_) rfl ?_
      first
        | refine s_val (v_assignC rfl) rfl ?_
        | refine s_val (v_assignA rfl) rfl ?_
        | refine s_val (v_assignT rfl) rfl ?_
      refine s_nil ?_
      refine ⟨(r4.drop n, on + 1, out ++ [r4.take n]), by kernel_rfl, ?_, hR, ?_, ?_⟩
      · dsimp only; omega
      · simp [hol]
      · dsimp only; omega
end Go.Proofs.YtmbepikkgkcgkaaGreatDoor
namespace Go.Proofs.YtmbepikkgkcgkaaGreatDoor
open Go.RowKit
abbrev Dn := List (Int × List (BitVec 8))
def dEnt (D : Dn) : List (Value × Leaf) := D.map fun p => (.int .i64 p.1, .bs p.2)
def dget (D : Dn) (x : Int) : List (BitVec 8) := match D.find? (fun p => p.1 == x) with | some p => p.2 | none => []
def dhas (D : Dn) (x : Int) : Prop := ∃ p ∈ D, p.1 = x
structure DOk (D : Dn) : Prop where
  dist : D.Pairwise fun p q => p.1 ≠ q.1
  len : ∀ p ∈ D, p.2.length ≤ 100000
theorem DOk.keyed {D : Dn} (h : DOk D) : Keyed (.int .i64) (dEnt D) := by
  refine ⟨fun p hp => ?_, ?_⟩
  · obtain ⟨q, _, rfl⟩ := List.mem_map.1 hp
    exact rfl
  · unfold dEnt
    rw [List.pairwise_map]
    refine h.dist.imp fun hne e => hne (Value.int.inj e).2
theorem dget_mem {D : Dn} {x : Int} (h : dhas D x) : (x, dget D x) ∈ D := by
  unfold dget
  cases hf : D.find? (fun p => p.1 == x) with
  | none =>
    obtain ⟨p, hp, rfl⟩ := h
    have := List.find?_eq_none.1 hf p hp
    simp at this
  | some p =>
    have h1 := List.mem_of_find?_eq_some hf
    have h2 := List.find?_some hf
    simp only [beq_iff_eq] at h2
    subst h2
    exact h1
theorem dEnt_mem {D : Dn} {x : Int} (h : dhas D x) : ((.int .i64 x, .bs (dget D x)) : Value × Leaf) ∈ dEnt D := List.mem_map.2 ⟨_, dget_mem h, rfl⟩
theorem dget_len {D : Dn} (hD : DOk D) (x : Int) : (dget D x).length ≤ 100000 := by
  unfold dget
  cases hf : D.find? (fun p => p.1 == x) with
  | none => exact Nat.zero_le _
  | some p => exact hD.len p (List.mem_of_find?_eq_some hf)
def jnR (l : List (List (BitVec 8))) : List (BitVec 8) × Nat := if jl l ≤ 65536 then (jn l, 0) else ([], 2)
theorem getb_len {l : List (List (BitVec 8))} {n : Nat} (h : ∀ x ∈ l, x.length ≤ n) (j : Nat) : (getb l j).length ≤ n := by
  unfold getb
  rw [List.getD_eq_getElem?_getD]
  cases hj : l[j]? with
  | none => exact Nat.zero_le _
  | some x => exact h x (List.mem_of_getElem? hj)
set_option maxRecDepth 100000 in
set_option maxHeartbeats 2000000 in
theorem joinR_ev (l : List (List (BitVec 8))) (n cap : Nat) (hl : l.length = n) (hn : n ≤ 1099511627776) (hb : ∀ x ∈ l, x.length ≤ 100000) : Ev Tryz.prog (.call 11 [.c (.sl 0 0 n cap 1)] [.row false (.ab l)]) (.val (.tup [.c (.bs (jnR l).1), .c (.val (.int .i64 (((jnR l).2 : Nat) : Int)))]) [.row false (.ab l)]) := by
  unfold jnR
  by_cases h : jl l ≤ 65536
  · rw [if_pos h]; exact rlJoin_ev l n cap hl hn h
  · rw [if_neg h]; exact rlJoinE_ev l n cap hl hn (fun j => Nat.le_trans (getb_len hb j) (by decide)) (by omega)
theorem take_map (D : Dn) (a : List Int) (j : Nat) (hj : j < a.length) : (a.take (j + 1)).map (dget D) = (a.take j).map (dget D) ++ [dget D (geti a j)] := by
  rw [List.take_succ_eq_append_getElem hj, List.map_append]
  simp only [List.map_cons, List.map_nil, geti, List.getD_eq_getElem?_getD, List.getElem?_eq_getElem hj, Option.getD_some]
set_option maxRecDepth 100000 in
set_option maxHeartbeats 2000000 in
theorem join_ev (L : List Nd) (es : List (Value × Leaf)) (N : Nat) (D : Dn) (a : List Int) (hD : DOk D) (ha : ∀ x ∈ a, dhas D x) (hlen : a.length ≤ 400) : Ev Tryz.prog (.call 69 [.c (.ptr 0 0), .c (.is a)] [.row false (.ac [.ptr 1 0, .mp 2]), .row false (.ac [.sl 3 0 N N 3, .mp 4]), .row false (.mp (dEnt D)), .row false (.an L), .row false (.mp es)])
    (.val (.tup [.c (.bs (jnR (a.map (dget D))).1), .c (.val (.int .i64 (((jnR (a.map (dget D))).2 : Nat) : Int)))]) [.row false (.ac [.ptr 1 0, .mp 2]), .row false (.ac [.sl 3 0 N N 3, .mp 4]), .row false (.mp (dEnt D)), .row false (.an L), .row false (.mp es)]) := by
  generalize hm : a.length = m at *
  refine c_call Tryz.func69 rfl Tryz.ntmps69 rfl LEN_ ?_
  refine S_ ?_
  refine c_region ?_
  refine s_val (v_assignC rfl) rfl ?_
  refine s_val (v_assignC rfl) rfl ?_
  refine s_nil ?_
  refine S_ ?_
  refine c_region ?_
  refine s_val (v_assignC rfl) rfl ?_
  refine s_nil ?_
  refine S_ ?_
  refine c_region ?_
  first
    | refine s_val (v_moveC rfl) rfl ?_
    | refine s_val (v_moveA rfl) rfl ?_
    | refine s_val (v_moveT rfl) rfl ?_
  first
    | refine s_val (v_lenS rfl Tryz.underlying41) rfl ?_
    | refine s_val (v_lenN rfl Tryz.underlying41) rfl ?_
    | refine s_val (v_lenE rfl Tryz.underlying41) rfl ?_
    | refine s_val (v_lenB rfl Tryz.underlying41 rfl) rfl ?_
    | refine s_val (v_lenZ rfl Tryz.underlying41 rfl) rfl ?_
  refine s_val (v_moveC rfl) rfl ?_
  refine s_nil ?_
  refine S_ ?_
  refine c_nil 6 1 (.ab []) rfl rfl LEN_ rfl ?_
  refine S_ ?_
  refine c_loopC [0, 6, 9, 10, 11] (fun (zz : Nat × List (List (BitVec 8))) => ⟨29, keepT [0, 6, 9, 10, 11] [.c (.ptr 0 0), .c (.sl 5 0 zz.1 zz.1 1), .c (.is a), .c (.val (.int .i64 ((m : Int)))), .c (.val (.int .i64 ((zz.1 : Int))))], [.row false (.ac [.ptr 1 0, .mp 2]), .row false (.ac [.sl 3 0 N N 3, .mp 4]), .row false (.mp (dEnt D)), .row false (.an L), .row false (.mp es), .row true (.ab zz.2)]⟩) (fun j => (j, (a.take j).map (dget D))) (m) (by kernel_rfl) ?_ ?_
  · intro j hj
    dsimp only
    have h1 : dhas D (geti a j) := ha _ (by simp [geti, show j < a.length by omega])
    have h2 : ((a.take j).map (dget D)).length = j := by simp; omega
    rw [take_map D a j (by omega)]
    generalize (a.take j).map (dget D) = u at *
    refine S_ ?_
    refine c_region ?_
    first
      | refine s_val (v_lssN rfl rfl) rfl ?_
      | refine s_val (v_lssI rfl rfl) rfl ?_
    refine s_nil ?_
    refine S_ ?_
    refine c_region ?_
    first
      | refine s_val (v_idxS1 rfl rfl Tryz.underlying41 sz_3 (by omega)) rfl ?_
      | refine s_val (v_idxSo rfl rfl Tryz.underlying41 sz_3 (by omega)) rfl ?_
      | refine s_val (v_idxS rfl rfl Tryz.underlying41 sz_3 (by omega)) rfl ?_
      | refine s_val (v_idxZ rfl rfl Tryz.underlying41 sz_3 LT_) rfl ?_
    first
      | refine s_val (v_loadN rfl rfl row_3 LT_) rfl ?_
      | refine s_val (v_loadI rfl rfl row_3 LT_) rfl ?_
      | refine s_val (v_loadZ rfl row_3 LT_) rfl ?_
      | refine s_val (v_ndK rfl rfl rfl row_3 LT_) rfl ?_
      | refine s_val (v_load rfl rfl row_3 LT_ rfl) rfl ?_
    first
      | refine s_val (v_assignC rfl) rfl ?_
      | refine s_val (v_assignA rfl) rfl ?_
      | refine s_val (v_assignT rfl) rfl ?_
    refine s_nil ?_
    generalize geti a j = x at *
    refine S_ ?_
    refine c_region ?_
    first
      | refine s_val (v_moveC rfl) rfl ?_
      | refine s_val (v_moveA rfl) rfl ?_
      | refine s_val (v_moveT rfl) rfl ?_
    first
      | refine s_val (v_moveC rfl) rfl ?_
      | refine s_val (v_moveA rfl) rfl ?_
      | refine s_val (v_moveT rfl) rfl ?_
    refine s_val (v_nilP rfl) rfl ?_
    refine s_val (v_fieldP rfl (fa_87_1 _ _)) rfl ?_
    refine s_val (v_load rfl rfl row_85 LT_ rfl) rfl ?_
    first
      | refine s_val (v_moveC rfl) rfl ?_
      | refine s_val (v_moveA rfl) rfl ?_
      | refine s_val (v_moveT rfl) rfl ?_
    refine s_ev (o_look1s (c := .bs (dget D x)) Tryz.underlying85 Tryz.underlying3 rfl rfl rfl hD.keyed (dEnt_mem h1)) rfl ?_
    refine s_memN (m_bsc Tryz.underlying22 el_23 (rep_23 _) rfl CS_ (by decide) (by decide) LEN_) APP_ rfl ?_
    refine s_appR rfl rfl rfl rfl Tryz.underlying22 Tryz.underlying22 el_23 EQL_ (by omega) LEN_ KILL_ rfl ?_
    first
      | refine s_val (v_assignC rfl) rfl ?_
      | refine s_val (v_assignA rfl) rfl ?_
      | refine s_val (v_assignT rfl) rfl ?_
    refine s_nil ?_
    refine S_ ?_
    refine c_region ?_
    first
      | refine s_val (v_addN (b := 1) rfl rfl (by omega)) rfl ?_
      | refine s_val (v_addI rfl rfl (by omega)) rfl ?_
    first
      | refine s_val (v_moveC rfl) rfl ?_
      | refine s_val (v_moveA rfl) rfl ?_
      | refine s_val (v_moveT rfl) rfl ?_
    refine s_nil ?_
    exact ⟨(j + 1, _), by kernel_rfl, rfl⟩
  · dsimp only
    rw [show a.take m = a by rw [← hm, List.take_length]]
    have h2 : (a.map (dget D)).length = m := by simp [hm]
    have h3 : ∀ x ∈ a.map (dget D), x.length ≤ 100000 := fun x hx => by obtain ⟨y, _, rfl⟩ := List.mem_map.1 hx; exact dget_len hD y
    generalize a.map (dget D) = u at *
    refine S_ ?_
    refine c_region ?_
    first
      | refine s_val (v_lssN rfl rfl) rfl ?_
      | refine s_val (v_lssI rfl rfl) rfl ?_
    refine s_nil ?_
    refine S_ ?_
    refine c_region ?_
    first
      | refine s_val (v_moveC rfl) rfl ?_
      | refine s_val (v_moveA rfl) rfl ?_
      | refine s_val (v_moveT rfl) rfl ?_
    refine s_evN (e_callR (joinR_ev u m m h2 (by omega) h3) ok_11 rfl rfl rfl VAL_) APP_ rfl ?_
    refine s_val (v_extract rfl rfl) rfl ?_
    refine s_val (v_extract rfl rfl) rfl ?_
    first
      | refine s_val (v_assignC rfl) rfl ?_
      | refine s_val (v_assignA rfl) rfl ?_
      | refine s_val (v_assignT rfl) rfl ?_
    first
      | refine s_val (v_assignC rfl) rfl ?_
      | refine s_val (v_assignA rfl) rfl ?_
      | refine s_val (v_assignT rfl) rfl ?_
    refine s_nil ?_
    refine S_ ?_
    exact k_2 (by first | exact r_tmpC rfl | exact r_tmpA rfl) (by first | exact r_tmpC rfl | exact r_tmpA rfl) (by first | kernel_rfl | rfl)
end Go.Proofs.YtmbepikkgkcgkaaGreatDoor
namespace Go.Proofs.YtmbepikkgkcgkaaGreatDoor
open Go.RowKit
def adFull_L1_S (X1 : List (BitVec 8)) : List (BitVec 8) := X1 ++ [0#8]
def adFull_L1 (b : List (BitVec 8)) : Nat → List (BitVec 8)
  | 0 => b
  | j1 + 1 => adFull_L1_S (adFull_L1 b j1)
@[simp] theorem adFull_L1_len (b : List (BitVec 8)) (j1 : Nat) : (adFull_L1 b j1).length = b.length + j1 := by
  induction j1 with
  | zero => first | (simp [adFull_L1, *]; done) | (simp [adFull_L1, *]; omega)
  | succ j1 ih => rw [adFull_L1.eq_2, adFull_L1_S]; first | (simp [ih]; done) | (simp [ih]; omega) | (simp [*]; done) | (simp [*]; omega) | (split <;> first | (simp [ih]; done) | (simp [ih]; omega) | (simp [*]; done))
def adFull (b : List (BitVec 8)) : List (BitVec 8) := (adFull_L1 b ((16 - b.length % 16) % 16))
set_option maxRecDepth 100000 in
set_option maxHeartbeats 2000000 in
theorem adFull_ev (b : List (BitVec 8)) (n : Nat) (cap : Nat) (hb : b.length = n) (hn : n ≤ 1099511627776) : Ev Tryz.prog (.call 146 [.c (.sl 0 0 n cap 1)] [.row true (.a8 (b))]) (.val (.c (.sl 1 0 (n + (16 - n % 16) % 16) (n + (16 - n % 16) % 16) 1)) [.dead, .row true (.a8 (adFull b))]) := by
  have hP : Hid (adFull b = (adFull_L1 b ((16 - b.length % 16) % 16))) := ⟨rfl⟩
  try simp only [hb] at hP
  refine c_call Tryz.func146 rfl Tryz.ntmps146 rfl LEN_ ?_
  refine S_ ?_
  refine c_region ?_
  refine s_val (v_assignC rfl) rfl ?_
  refine s_nil ?_
  refine S_ ?_
  refine c_move 0 rfl rfl LEN_ rfl ?_
  refine S_ ?_
  refine c_loopC [0] (fun (zz : Nat × List (BitVec 8)) => ⟨11, keepT [0] [.c (.sl 1 0 (n + zz.1) (n + zz.1) 1)], [.dead, .row true (.a8 (zz.2))]⟩) (fun j1 => (j1, adFull_L1 b j1)) ((16 - n % 16) % 16) (by kernel_rfl) ?_ ?_
  · intro j1 hj1
    try dsimp only
    have hX1 : (adFull_L1 b j1).length = n + j1 := by rw [adFull_L1_len b _]; try omega
    rw [adFull_L1.eq_2, adFull_L1_S]
    try simp only [hb]
    generalize adFull_L1 b j1 = X1 at *
    refine S_ ?_
    refine c_region ?_
    refine s_val (v_moveC rfl) rfl ?_
    refine s_val (v_lenS rfl Tryz.underlying23) rfl ?_
    refine s_val (v_remN (b := 16) rfl rfl (by omega) (by omega)) rfl ?_
    refine s_val (v_neqN (b := 0) rfl rfl) rfl ?_
    refine s_nil ?_
    refine S_ ?_
    refine c_region ?_
    refine s_val (v_moveC rfl) rfl ?_
    refine s_memN (m_bs8 (l := [0#8]) Tryz.underlying23 el_5 rfl rfl (by decide) (by decide) LEN_) APP_ rfl ?_
    refine s_app8 rfl rfl rfl rfl Tryz.underlying23 Tryz.underlying23 el_5 EQL_ EQL_ (by omega) LEN_ KILL_ rfl ?_
    refine s_val (v_assignC rfl) rfl ?_
    refine s_nil ?_
    exact ⟨(j1 + 1, _), by kernel_rfl, rfl⟩
  · try dsimp only
    have hY2 : (adFull_L1 b ((16 - n % 16) % 16)).length = n + (16 - n % 16) % 16 := by rw [adFull_L1_len b _]; try omega
    generalize adFull_L1 b ((16 - n % 16) % 16) = Y2 at *
    refine S_ ?_
    refine c_region ?_
    refine s_val (v_moveC rfl) rfl ?_
    refine s_val (v_lenS rfl Tryz.underlying23) rfl ?_
    refine s_val (v_remN (b := 16) rfl rfl (by omega) (by omega)) rfl ?_
    refine s_val (v_neqN (b := 0) rfl rfl) rfl ?_
    refine s_nil ?_
    refine S_ ?_
    refine c_region ?_
    refine s_val (v_moveC rfl) rfl ?_
    refine s_val (v_assignC rfl) rfl ?_
    refine s_nil ?_
    refine S_ ?_
    rw [hP.out]
    exact k_1 (by first | exact r_tmpC rfl | exact r_tmpA rfl) (by first | kernel_rfl | rfl)
@[simp] theorem adFull_len (b : List (BitVec 8)) : (adFull b).length = b.length + (16 - b.length % 16) % 16 := by
  unfold adFull
  first | (simp [adFull_L1_len, *]; done) | (simp [adFull_L1_len, *]; omega)
attribute [irreducible] adFull
end Go.Proofs.YtmbepikkgkcgkaaGreatDoor
namespace Go.Proofs.YtmbepikkgkcgkaaGreatDoor
open Go.RowKit
def rotl32 (x : BitVec 32) (k : Int) : BitVec 32 := (x <<< ((BitVec.ofInt 64 k) &&& 31#64).toNat) ||| (x >>> (32#64 - ((BitVec.ofInt 64 k) &&& 31#64)).toNat)
set_option maxRecDepth 100000 in
set_option maxHeartbeats 2000000 in
theorem rotl32_ev (x : BitVec 32) (k : Int)  : Ev Tryz.prog (.call 63 [.c (.val (U32 x)), .c (.val (.int .i64 k))] []) (.val (.c (.val (U32 (rotl32 x k)))) []) := by
  have hP : Hid (rotl32 x k = (x <<< ((BitVec.ofInt 64 k) &&& 31#64).toNat) ||| (x >>> (32#64 - ((BitVec.ofInt 64 k) &&& 31#64)).toNat)) := ⟨rfl⟩
  refine c_call Tryz.func63 rfl Tryz.ntmps63 rfl LEN_ ?_
  refine S_ ?_
  refine c_region ?_
  refine s_val (v_assignC rfl) rfl ?_
  refine s_nil ?_
  refine S_ ?_
  refine c_region ?_
  refine s_val (v_moveC rfl) rfl ?_
  refine s_val (v_conv rfl Tryz.underlying3 Tryz.underlying71 (wI_64 _)) rfl ?_
  refine s_val (v_and64 (b := 31#64) rfl rfl) rfl ?_
  refine s_val (v_assignC rfl) rfl ?_
  refine s_nil ?_
  refine S_ ?_
  refine c_region ?_
  refine s_val (v_moveC rfl) rfl ?_
  refine s_val (v_moveC rfl) rfl ?_
  refine s_val (v_shl32w rfl rfl) rfl ?_
  refine s_val (v_moveC rfl) rfl ?_
  refine s_val (v_moveC rfl) rfl ?_
  refine s_val (v_sub64 (a := 32#64) rfl rfl) rfl ?_
  refine s_val (v_shr32w rfl rfl) rfl ?_
  refine s_val (v_or32 rfl rfl) rfl ?_
  refine s_val (v_assignC rfl) rfl ?_
  refine s_nil ?_
  refine S_ ?_
  rw [hP.out]
  exact k_1 (by first | exact r_tmpC rfl | exact r_tmpA rfl) (by first | kernel_rfl | rfl)
attribute [irreducible] rotl32
def rotl64 (x : BitVec 64) (k : Int) : BitVec 64 := (x <<< ((BitVec.ofInt 64 k) &&& 63#64).toNat) ||| (x >>> (64#64 - ((BitVec.ofInt 64 k) &&& 63#64)).toNat)
attribute [irreducible] rotl64
end Go.Proofs.YtmbepikkgkcgkaaGreatDoor
namespace Go.Proofs.YtmbepikkgkcgkaaGreatDoor
open Go.RowKit
def quar_R0 (x : List (BitVec 32)) (a : Nat) (b : Nat) : List (BitVec 32) := put x a ((nth x a) + (nth x b))
@[simp] theorem quar_R0_len (x : List (BitVec 32)) (a : Nat) (b : Nat) : (quar_R0 x a b).length = x.length := by simp [quar_R0]
def quar_R1 (a : Nat) (d : Nat) (X1 : List (BitVec 32)) : List (BitVec 32) := put X1 d (rotl32 ((nth X1 d) ^^^ (nth X1 a)) ((16 : Nat) : Int))
@[simp] theorem quar_R1_len (a : Nat) (d : Nat) (X1 : List (BitVec 32)) : (quar_R1 a d X1).length = X1.length := by simp [quar_R1]
def quar_R2 (c : Nat) (d : Nat) (X2 : List (BitVec 32)) : List (BitVec 32) := put X2 c ((nth X2 c) + (nth X2 d))
@[simp] theorem quar_R2_len (c : Nat) (d : Nat) (X2 : List (BitVec 32)) : (quar_R2 c d X2).length = X2.length := by simp [quar_R2]
def quar_R3 (b : Nat) (c : Nat) (X3 : List (BitVec 32)) : List (BitVec 32) := put X3 b (rotl32 ((nth X3 b) ^^^ (nth X3 c)) ((12 : Nat) : Int))
@[simp] theorem quar_R3_len (b : Nat) (c : Nat) (X3 : List (BitVec 32)) : (quar_R3 b c X3).length = X3.length := by simp [quar_R3]
def quar_R4 (a : Nat) (b : Nat) (X4 : List (BitVec 32)) : List (BitVec 32) := put X4 a ((nth X4 a) + (nth X4 b))
@[simp] theorem quar_R4_len (a : Nat) (b : Nat) (X4 : List (BitVec 32)) : (quar_R4 a b X4).length = X4.length := by simp [quar_R4]
def quar_R5 (a : Nat) (d : Nat) (X5 : List (BitVec 32)) : List (BitVec 32) := put X5 d (rotl32 ((nth X5 d) ^^^ (nth X5 a)) ((8 : Nat) : Int))
@[simp] theorem quar_R5_len (a : Nat) (d : Nat) (X5 : List (BitVec 32)) : (quar_R5 a d X5).length = X5.length := by simp [quar_R5]
def quar_R6 (c : Nat) (d : Nat) (X6 : List (BitVec 32)) : List (BitVec 32) := put X6 c ((nth X6 c) + (nth X6 d))
@[simp] theorem quar_R6_len (c : Nat) (d : Nat) (X6 : List (BitVec 32)) : (quar_R6 c d X6).length = X6.length := by simp [quar_R6]
def quar_R7 (b : Nat) (c : Nat) (X7 : List (BitVec 32)) : List (BitVec 32) := put X7 b (rotl32 ((nth X7 b) ^^^ (nth X7 c)) ((7 : Nat) : Int))
@[simp] theorem quar_R7_len (b : Nat) (c : Nat) (X7 : List (BitVec 32)) : (quar_R7 b c X7).length = X7.length := by simp [quar_R7]
def quar (x : List (BitVec 32)) (a : Nat) (b : Nat) (c : Nat) (d : Nat) : List (BitVec 32) := (quar_R7 b c (quar_R6 c d (quar_R5 a d (quar_R4 a b (quar_R3 b c (quar_R2 c d (quar_R1 a d (quar_R0 x a b))))))))
set_option maxRecDepth 100000 in
set_option maxHeartbeats 2000000 in
theorem quar_ev (x : List (BitVec 32)) (a : Nat) (b : Nat) (c : Nat) (d : Nat) (hx : x.length = 16) (ha : a ≤ 1099511627776) (hb : b ≤ 1099511627776) (hc : c ≤ 1099511627776) (hd : d ≤ 1099511627776) (la : a < 16) (lb : b < 16) (lc : c < 16) (ld : d < 16) : Ev Tryz.prog (.call 149 [.c (.ptr 0 0), .c (.val (.int .i64 ((a : Nat) : Int))), .c (.val (.int .i64 ((b : Nat) : Int))), .c (.val (.int .i64 ((c : Nat) : Int))), .c (.val (.int .i64 ((d : Nat) : Int)))] [.row true (.a32 (x))]) (.val (.tup []) [.row true (.a32 (quar x a b c d))]) := by
  have hP_quar : Hid (quar x a b c d = (quar_R7 b c (quar_R6 c d (quar_R5 a d (quar_R4 a b (quar_R3 b c (quar_R2 c d (quar_R1 a d (quar_R0 x a b))))))))) := ⟨rfl⟩
  refine c_call Tryz.func149 rfl Tryz.ntmps149 rfl LEN_ ?_
  refine S_ ?_
  refine c_draw 13 mixed (by kernel_rfl) rfl rfl rfl ?_
  refine h_val (v_moveC rfl) rfl ?_
  refine h_val (v_moveC rfl) rfl ?_
  refine h_val (v_nilP rfl) rfl ?_
  refine h_val (v_idxA1 rfl rfl Tryz.underlying181 sz_106 (by omega)) rfl ?_
  refine h_val (v_load32 rfl rfl row_106 LT_) rfl ?_
  refine h_val (v_moveC rfl) rfl ?_
  refine h_val (v_moveC rfl) rfl ?_
  refine h_val (v_nilP rfl) rfl ?_
  refine h_val (v_idxA1 rfl rfl Tryz.underlying181 sz_106 (by omega)) rfl ?_
  refine h_val (v_load32 rfl rfl row_106 LT_) rfl ?_
  refine h_val (v_add32 rfl rfl) rfl ?_
  refine h_val (v_nilP rfl) rfl ?_
  refine h_val (v_idxA1 rfl rfl Tryz.underlying181 sz_106 (by omega)) rfl ?_
  refine h_nil ?_
  refine s_store32 rfl rfl rfl sz_106 LT_ SET_ ?_
  refine s_nil ?_
  rw [show (put x a ((nth x a) + (nth x b))) = quar_R0 x a b from rfl]
  have hX1 : (quar_R0 x a b).length = 16 := LQ_
  generalize quar_R0 x a b = X1 at *
  refine S_ ?_
  refine c_draw 16 mixed (by kernel_rfl) rfl rfl rfl ?_
  refine h_val (v_moveC rfl) rfl ?_
  refine h_val (v_moveC rfl) rfl ?_
  refine h_val (v_moveC rfl) rfl ?_
  refine h_val (v_moveC rfl) rfl ?_
  refine h_val (v_nilP rfl) rfl ?_
  refine h_val (v_idxA1 rfl rfl Tryz.underlying181 sz_106 (by omega)) rfl ?_
  refine h_val (v_load32 rfl rfl row_106 LT_) rfl ?_
  refine h_val (v_moveC rfl) rfl ?_
  refine h_val (v_moveC rfl) rfl ?_
  refine h_val (v_nilP rfl) rfl ?_
  refine h_val (v_idxA1 rfl rfl Tryz.underlying181 sz_106 (by omega)) rfl ?_
  refine h_val (v_load32 rfl rfl row_106 LT_) rfl ?_
  refine h_val (v_xor32 rfl rfl) rfl ?_
  refine h_evN (e_callR (bs := []) (rotl32_ev ((nth X1 d) ^^^ (nth X1 a)) ((16 : Nat) : Int)) ok_63 (by kernel_rfl) (by kernel_rfl) rfl VAL_) APP_ rfl ?_
  refine h_val (v_nilP rfl) rfl ?_
  refine h_val (v_idxA1 rfl rfl Tryz.underlying181 sz_106 (by omega)) rfl ?_
  refine h_nil ?_
  refine s_store32 rfl rfl rfl sz_106 LT_ SET_ ?_
  refine s_nil ?_
  rw [show (put X1 d (rotl32 ((nth X1 d) ^^^ (nth X1 a)) ((16 : Nat) : Int))) = quar_R1 a d X1 from rfl]
  have hX2 : (quar_R1 a d X1).length = 16 := LQ_
  generalize quar_R1 a d X1 = X2 at *
  refine S_ ?_
  refine c_draw 13 mixed (by kernel_rfl) rfl rfl rfl ?_
  refine h_val (v_moveC rfl) rfl ?_
  refine h_val (v_moveC rfl) rfl ?_
  refine h_val (v_nilP rfl) rfl ?_
  refine h_val (v_idxA1 rfl rfl Tryz.underlying181 sz_106 (by omega)) rfl ?_
  refine h_val (v_load32 rfl rfl row_106 LT_) rfl ?_
  refine h_val (v_moveC rfl) rfl ?_
  refine h_val (v_moveC rfl) rfl ?_
  refine h_val (v_nilP rfl) rfl ?_
  refine h_val (v_idxA1 rfl rfl Tryz.underlying181 sz_106 (by omega)) rfl ?_
  refine h_val (v_load32 rfl rfl row_106 LT_) rfl ?_
  refine h_val (v_add32 rfl rfl) rfl ?_
  refine h_val (v_nilP rfl) rfl ?_
  refine h_val (v_idxA1 rfl rfl Tryz.underlying181 sz_106 (by omega)) rfl ?_
  refine h_nil ?_
  refine s_store32 rfl rfl rfl sz_106 LT_ SET_ ?_
  refine s_nil ?_
  rw [show (put X2 c ((nth X2 c) + (nth X2 d))) = quar_R2 c d X2 from rfl]
  have hX3 : (quar_R2 c d X2).length = 16 := LQ_
  generalize quar_R2 c d X2 = X3 at *
  refine S_ ?_
  refine c_draw 16 mixed (by kernel_rfl) rfl rfl rfl ?_
  refine h_val (v_moveC rfl) rfl ?_
  refine h_val (v_moveC rfl) rfl ?_
  refine h_val (v_moveC rfl) rfl ?_
  refine h_val (v_moveC rfl) rfl ?_
  refine h_val (v_nilP rfl) rfl ?_
  refine h_val (v_idxA1 rfl rfl Tryz.underlying181 sz_106 (by omega)) rfl ?_
  refine h_val (v_load32 rfl rfl row_106 LT_) rfl ?_
  refine h_val (v_moveC rfl) rfl ?_
  refine h_val (v_moveC rfl) rfl ?_
  refine h_val (v_nilP rfl) rfl ?_
  refine h_val (v_idxA1 rfl rfl Tryz.underlying181 sz_106 (by omega)) rfl ?_
  refine h_val (v_load32 rfl rfl row_106 LT_) rfl ?_
  refine h_val (v_xor32 rfl rfl) rfl ?_
  refine h_evN (e_callR (bs := []) (rotl32_ev ((nth X3 b) ^^^ (nth X3 c)) ((12 : Nat) : Int)) ok_63 (by kernel_rfl) (by kernel_rfl) rfl VAL_) APP_ rfl ?_
  refine h_val (v_nilP rfl) rfl ?_
  refine h_val (v_idxA1 rfl rfl Tryz.underlying181 sz_106 (by omega)) rfl ?_
  refine h_nil ?_
  refine s_store32 rfl rfl rfl sz_106 LT_ SET_ ?_
  refine s_nil ?_
  rw [show (put X3 b (rotl32 ((nth X3 b) ^^^ (nth X3 c)) ((12 : Nat) : Int))) = quar_R3 b c X3 from rfl]
  have hX4 : (quar_R3 b c X3).length = 16 := LQ_
  generalize quar_R3 b c X3 = X4 at *
  refine S_ ?_
  refine c_draw 13 mixed (by kernel_rfl) rfl rfl rfl ?_
  refine h_val (v_moveC rfl) rfl ?_
  refine h_val (v_moveC rfl) rfl ?_
  refine h_val (v_nilP rfl) rfl ?_
  refine h_val (v_idxA1 rfl rfl Tryz.underlying181 sz_106 (by omega)) rfl ?_
  refine h_val (v_load32 rfl rfl row_106 LT_) rfl ?_
  refine h_val (v_moveC rfl) rfl ?_
  refine h_val (v_moveC rfl) rfl ?_
  refine h_val (v_nilP rfl) rfl ?_
  refine h_val (v_idxA1 rfl rfl Tryz.underlying181 sz_106 (by omega)) rfl ?_
  refine h_val (v_load32 rfl rfl row_106 LT_) rfl ?_
  refine h_val (v_add32 rfl rfl) rfl ?_
  refine h_val (v_nilP rfl) rfl ?_
  refine h_val (v_idxA1 rfl rfl Tryz.underlying181 sz_106 (by omega)) rfl ?_
  refine h_nil ?_
  refine s_store32 rfl rfl rfl sz_106 LT_ SET_ ?_
  refine s_nil ?_
  rw [show (put X4 a ((nth X4 a) + (nth X4 b))) = quar_R4 a b X4 from rfl]
  have hX5 : (quar_R4 a b X4).length = 16 := LQ_
  generalize quar_R4 a b X4 = X5 at *
  refine S_ ?_
  refine c_draw 16 mixed (by kernel_rfl) rfl rfl rfl ?_
  refine h_val (v_moveC rfl) rfl ?_
  refine h_val (v_moveC rfl) rfl ?_
  refine h_val (v_moveC rfl) rfl ?_
  refine h_val (v_moveC rfl) rfl ?_
  refine h_val (v_nilP rfl) rfl ?_
  refine h_val (v_idxA1 rfl rfl Tryz.underlying181 sz_106 (by omega)) rfl ?_
  refine h_val (v_load32 rfl rfl row_106 LT_) rfl ?_
  refine h_val (v_moveC rfl) rfl ?_
  refine h_val (v_moveC rfl) rfl ?_
  refine h_val (v_nilP rfl) rfl ?_
  refine h_val (v_idxA1 rfl rfl Tryz.underlying181 sz_106 (by omega)) rfl ?_
  refine h_val (v_load32 rfl rfl row_106 LT_) rfl ?_
  refine h_val (v_xor32 rfl rfl) rfl ?_
  refine h_evN (e_callR (bs := []) (rotl32_ev ((nth X5 d) ^^^ (nth X5 a)) ((8 : Nat) : Int)) ok_63 (by kernel_rfl) (by kernel_rfl) rfl VAL_) APP_ rfl ?_
  refine h_val (v_nilP rfl) rfl ?_
  refine h_val (v_idxA1 rfl rfl Tryz.underlying181 sz_106 (by omega)) rfl ?_
  refine h_nil ?_
  refine s_store32 rfl rfl rfl sz_106 LT_ SET_ ?_
  refine s_nil ?_
  rw [show (put X5 d (rotl32 ((nth X5 d) ^^^ (nth X5 a)) ((8 : Nat) : Int))) = quar_R5 a d X5 from rfl]
  have hX6 : (quar_R5 a d X5).length = 16 := LQ_
  generalize quar_R5 a d X5 = X6 at *
  refine S_ ?_
  refine c_draw 13 mixed (by kernel_rfl) rfl rfl rfl ?_
  refine h_val (v_moveC rfl) rfl ?_
  refine h_val (v_moveC rfl) rfl ?_
  refine h_val (v_nilP rfl) rfl ?_
  refine h_val (v_idxA1 rfl rfl Tryz.underlying181 sz_106 (by omega)) rfl ?_
  refine h_val (v_load32 rfl rfl row_106 LT_) rfl ?_
  refine h_val (v_moveC rfl) rfl ?_
  refine h_val (v_moveC rfl) rfl ?_
  refine h_val (v_nilP rfl) rfl ?_
  refine h_val (v_idxA1 rfl rfl Tryz.underlying181 sz_106 (by omega)) rfl ?_
  refine h_val (v_load32 rfl rfl row_106 LT_) rfl ?_
  refine h_val (v_add32 rfl rfl) rfl ?_
  refine h_val (v_nilP rfl) rfl ?_
  refine h_val (v_idxA1 rfl rfl Tryz.underlying181 sz_106 (by omega)) rfl ?_
  refine h_nil ?_
  refine s_store32 rfl rfl rfl sz_106 LT_ SET_ ?_
  refine s_nil ?_
  rw [show (put X6 c ((nth X6 c) + (nth X6 d))) = quar_R6 c d X6 from rfl]
  have hX7 : (quar_R6 c d X6).length = 16 := LQ_
  generalize quar_R6 c d X6 = X7 at *
  refine S_ ?_
  refine c_draw 16 mixed (by kernel_rfl) rfl rfl rfl ?_
  refine h_val (v_moveC rfl) rfl ?_
  refine h_val (v_moveC rfl) rfl ?_
  refine h_val (v_moveC rfl) rfl ?_
  refine h_val (v_moveC rfl) rfl ?_
  refine h_val (v_nilP rfl) rfl ?_
  refine h_val (v_idxA1 rfl rfl Tryz.underlying181 sz_106 (by omega)) rfl ?_
  refine h_val (v_load32 rfl rfl row_106 LT_) rfl ?_
  refine h_val (v_moveC rfl) rfl ?_
  refine h_val (v_moveC rfl) rfl ?_
  refine h_val (v_nilP rfl) rfl ?_
  refine h_val (v_idxA1 rfl rfl Tryz.underlying181 sz_106 (by omega)) rfl ?_
  refine h_val (v_load32 rfl rfl row_106 LT_) rfl ?_
  refine h_val (v_xor32 rfl rfl) rfl ?_
  refine h_evN (e_callR (bs := []) (rotl32_ev ((nth X7 b) ^^^ (nth X7 c)) ((7 : Nat) : Int)) ok_63 (by kernel_rfl) (by kernel_rfl) rfl VAL_) APP_ rfl ?_
  refine h_val (v_nilP rfl) rfl ?_
  refine h_val (v_idxA1 rfl rfl Tryz.underlying181 sz_106 (by omega)) rfl ?_
  refine h_nil ?_
  refine s_store32 rfl rfl rfl sz_106 LT_ SET_ ?_
  refine s_nil ?_
  rw [show (put X7 b (rotl32 ((nth X7 b) ^^^ (nth X7 c)) ((7 : Nat) : Int))) = quar_R7 b c X7 from rfl]
  have hX8 : (quar_R7 b c X7).length = 16 := LQ_
  generalize quar_R7 b c X7 = X8 at *
  refine S_ ?_
  rw [hP_quar.out]
  exact k_0e (by first | exact .inl rfl | exact .inr rfl) (by first | kernel_rfl | rfl)
@[simp] theorem quar_len (x : List (BitVec 32)) (a : Nat) (b : Nat) (c : Nat) (d : Nat) : (quar x a b c d).length = x.length := by
  unfold quar
  first | (simp [quar_R0_len, quar_R1_len, quar_R2_len, quar_R3_len, quar_R4_len, quar_R5_len, quar_R6_len, quar_R7_len, *]; done) | (simp [quar_R0_len, quar_R1_len, quar_R2_len, quar_R3_len, quar_R4_len, quar_R5_len, quar_R6_len, quar_R7_len, *]; omega)
attribute [irreducible] quar
end Go.Proofs.YtmbepikkgkcgkaaGreatDoor
namespace Go.Proofs.YtmbepikkgkcgkaaGreatDoor
open Go.RowKit
def chLow_L3_S (b : List (BitVec 8)) (o : Nat) (X1 : BitVec 64) (j3 : Nat) : BitVec 64 := X1 ||| (((nth b (o + j3)).setWidth 64) <<< (8 * j3))
def chLow_L3 (b : List (BitVec 8)) (o : Nat) : Nat → BitVec 64
  | 0 => 0#64
  | j3 + 1 => chLow_L3_S b o (chLow_L3 b o j3) j3
def chLow (b : List (BitVec 8)) (o : Nat) (n : Nat) : BitVec 64 := (chLow_L3 b o n)
set_option maxRecDepth 100000 in
set_option maxHeartbeats 2000000 in
theorem chLow_ev (b : List (BitVec 8)) (o : Nat) (n : Nat) (cap : Nat) (hb : o + n ≤ b.length) (hn : n ≤ 8796093022208) : Ev Tryz.prog (.call 148 [.c (.sl 0 o n cap 1)] [.row false (.a8 (b))]) (.val (.c (.val (U64 (chLow b o n)))) [.row false (.a8 (b))]) := by
  have hP : Hid (chLow b o n = (chLow_L3 b o n)) := ⟨rfl⟩
  refine c_call Tryz.func148 rfl Tryz.ntmps148 rfl LEN_ ?_
  refine S_ ?_
  refine c_region ?_
  refine s_val (v_assignC rfl) rfl ?_
  refine s_nil ?_
  refine S_ ?_
  refine c_region ?_
  refine s_val (v_assignC rfl) rfl ?_
  refine s_nil ?_
  refine S_ ?_
  refine c_region ?_
  refine s_val (v_moveC rfl) rfl ?_
  refine s_val (v_lenS rfl Tryz.underlying23) rfl ?_
  refine s_val (v_moveC rfl) rfl ?_
  refine s_nil ?_
  refine S_ ?_
  refine c_loopC [3, 6, 7, 8] (fun (zz : Nat × BitVec 64) => ⟨22, keepT [3, 6, 7, 8] [.c (.val (U64 (zz.2))), .c (.sl 0 o n cap 1), .c (.val (.int .i64 (((n : Nat) : Int)))), .c (.val (.int .i64 (((zz.1 : Nat) : Int))))], [.row false (.a8 (b))]⟩) (fun j3 => (j3, chLow_L3 b o j3)) (n) (by kernel_rfl) ?_ ?_
  · intro j3 hj3
    try dsimp only
    rw [chLow_L3.eq_2, chLow_L3_S]
    generalize chLow_L3 b o j3 = X1 at *
    refine S_ ?_
    refine c_region ?_
    refine s_val (v_lssN rfl rfl) rfl ?_
    refine s_nil ?_
    refine S_ ?_
    refine c_region ?_
    refine s_val (v_moveC rfl) rfl ?_
    refine s_val (v_idxSo rfl rfl Tryz.underlying23 sz_5 (by omega)) rfl ?_
    refine s_val (v_load8 rfl rfl row_5 LT_) rfl ?_
    refine s_val (v_assignC rfl) rfl ?_
    refine s_val (v_assignC rfl) rfl ?_
    refine s_nil ?_
    refine S_ ?_
    refine c_region ?_
    refine s_val (v_moveC rfl) rfl ?_
    refine s_val (v_moveC rfl) rfl ?_
    refine s_val (v_conv rfl Tryz.underlying5 Tryz.underlying70 (w8_64 _)) rfl ?_
    refine s_val (v_moveC rfl) rfl ?_
    refine s_val (v_mulN (a := 8) rfl rfl (by omega)) rfl ?_
    refine s_val (v_shl64n rfl rfl) rfl ?_
    refine s_val (v_or64 rfl rfl) rfl ?_
    refine s_val (v_assignC rfl) rfl ?_
    refine s_nil ?_
    refine S_ ?_
    refine c_region ?_
    refine s_val (v_addN (b := 1) rfl rfl (by omega)) rfl ?_
    refine s_val (v_moveC rfl) rfl ?_
    refine s_nil ?_
    exact ⟨(j3 + 1, _), by kernel_rfl, rfl⟩
  · try dsimp only
    generalize chLow_L3 b o n = Y2 at *
    refine S_ ?_
    refine c_region ?_
    refine s_val (v_lssN rfl rfl) rfl ?_
    refine s_nil ?_
    refine S_ ?_
    refine c_region ?_
    refine s_val (v_moveC rfl) rfl ?_
    refine s_val (v_assignC rfl) rfl ?_
    refine s_nil ?_
    refine S_ ?_
    rw [hP.out]
    exact k_1 (by first | exact r_tmpC rfl | exact r_tmpA rfl) (by first | kernel_rfl | rfl)
attribute [irreducible] chLow
end Go.Proofs.YtmbepikkgkcgkaaGreatDoor
