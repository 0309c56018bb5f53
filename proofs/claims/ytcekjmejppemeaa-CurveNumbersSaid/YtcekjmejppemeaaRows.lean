/-
  No cell of these rows narrows 'for every input' (looked for: loops, veiled, ifaces, maps, wideKeys, modest, calm, conditions, laid).
  DERIVED. THE GIVEN ROWS OF THIS SEAT. 9 by the template 'for every input the law returns true; each argument reads behind the call as it read before'; 0 by the template 'total and deterministic' (their statements: YtcekjmejppemeaaTotals.lean).
  GIVEN WITH THE SEED: the statements are not yours to turn. If you find one false, say at which input.
  Laid BY PROGRAM, IN A SANDBOX (cutbox-rows.mjs): the forced cells as the released guide's own fill.sh prints them over the translation 6c5854d0a98e1f2b… (all of the seat's roots in one cut). By AI agents, Wed Nov 11 2026. No macro, syntax, notation, axiom, sorry.
-/
import Derived.Test.YtcekjmejppemeaaChecked
import GoSem.Claim
import GoSem.ClaimJoined
import GoSem.ClaimMapViews
import Derived.JoinedTies
import Derived.KernelRfl
namespace Go.Proofs.Ytcekjmejppemeaa
/- THE CELL 'sum', in the pinned program and in every row, IS THE sha256 OF THE DUMP (.gsa) THAT YtcekjmejppemeaaProg.lean LOADS. Nothing in Lean hashes anything: it is a label: what it is worth is what the hold of that sum in a sandbox is worth. -/
noncomputable def Try.pinned : Pinned := { name := "ytcekjmejppemeaa", sum := "6c5854d0a98e1f2bef2098eb9f9f207c26b5fe8428d85eb931e1fdf2c16f0b73", checked := Try.checked }
namespace Rows
def none {H : Type} : Left H := { results := [], args := [] }

/-- 'trystlaw08.CurveGroup': WHATEVER THE INPUT: true; the input reads as it did. -/
def curveGroupSpec : ChangeSpec := { name := "curveGroup", fn := fun _ => fun
  | [d1, d2, d3] => { results := [.lit (.bool true)], args := [d1, d2, d3] }
  | _ => none }
def curveGroupRow : OpenClaim := { program := "ytcekjmejppemeaa", sum := "6c5854d0a98e1f2bef2098eb9f9f207c26b5fe8428d85eb931e1fdf2c16f0b73", func := "tryst/trystlaw08.CurveGroup", spec := "curveGroup", inPlace := ["math/bits.Add64"], apart := false }
def CurveGroupSaid : Prop := curveGroupRow.holds Try.pinned (OpenSpec.ofChange curveGroupSpec)

/-- ITS FALSE NEIGHBOUR: 'it returns false'. Refute it at one input. -/
def curveGroupWrong : ChangeSpec := { name := "curveGroup", fn := fun _ => fun
  | [d1, d2, d3] => { results := [.lit (.bool false)], args := [d1, d2, d3] }
  | _ => none }
def CurveGroupWrongFalsely : Prop := curveGroupRow.holds Try.pinned (OpenSpec.ofChange curveGroupWrong)

/-- 'trystlaw08.CurveDoubles': WHATEVER THE INPUT: true; the input reads as it did. -/
def curveDoublesSpec : ChangeSpec := { name := "curveDoubles", fn := fun _ => fun
  | [d1, d2] => { results := [.lit (.bool true)], args := [d1, d2] }
  | _ => none }
def curveDoublesRow : OpenClaim := { program := "ytcekjmejppemeaa", sum := "6c5854d0a98e1f2bef2098eb9f9f207c26b5fe8428d85eb931e1fdf2c16f0b73", func := "tryst/trystlaw08.CurveDoubles", spec := "curveDoubles", inPlace := ["math/bits.Add64"], apart := false }
def CurveDoublesSaid : Prop := curveDoublesRow.holds Try.pinned (OpenSpec.ofChange curveDoublesSpec)

/-- ITS FALSE NEIGHBOUR: 'it returns false'. Refute it at one input. -/
def curveDoublesWrong : ChangeSpec := { name := "curveDoubles", fn := fun _ => fun
  | [d1, d2] => { results := [.lit (.bool false)], args := [d1, d2] }
  | _ => none }
def CurveDoublesWrongFalsely : Prop := curveDoublesRow.holds Try.pinned (OpenSpec.ofChange curveDoublesWrong)

/-- 'trystlaw08.CurveEquation': WHATEVER THE INPUT: true; the input reads as it did. -/
def curveEquationSpec : ChangeSpec := { name := "curveEquation", fn := fun _ => fun
  | [d] => { results := [.lit (.bool true)], args := [d] }
  | _ => none }
def curveEquationRow : OpenClaim := { program := "ytcekjmejppemeaa", sum := "6c5854d0a98e1f2bef2098eb9f9f207c26b5fe8428d85eb931e1fdf2c16f0b73", func := "tryst/trystlaw08.CurveEquation", spec := "curveEquation", inPlace := ["math/bits.Add64"], apart := false }
def CurveEquationSaid : Prop := curveEquationRow.holds Try.pinned (OpenSpec.ofChange curveEquationSpec)

/-- ITS FALSE NEIGHBOUR: 'it returns false'. Refute it at one input. -/
def curveEquationWrong : ChangeSpec := { name := "curveEquation", fn := fun _ => fun
  | [d] => { results := [.lit (.bool false)], args := [d] }
  | _ => none }
def CurveEquationWrongFalsely : Prop := curveEquationRow.holds Try.pinned (OpenSpec.ofChange curveEquationWrong)

/-- 'trystlaw08.CurveTurned': WHATEVER THE INPUT: true; the input reads as it did. -/
def curveTurnedSpec : ChangeSpec := { name := "curveTurned", fn := fun _ => fun
  | [d] => { results := [.lit (.bool true)], args := [d] }
  | _ => none }
def curveTurnedRow : OpenClaim := { program := "ytcekjmejppemeaa", sum := "6c5854d0a98e1f2bef2098eb9f9f207c26b5fe8428d85eb931e1fdf2c16f0b73", func := "tryst/trystlaw08.CurveTurned", spec := "curveTurned", inPlace := ["math/bits.Add64"], apart := false }
def CurveTurnedSaid : Prop := curveTurnedRow.holds Try.pinned (OpenSpec.ofChange curveTurnedSpec)

/-- ITS FALSE NEIGHBOUR: 'it returns false'. Refute it at one input. -/
def curveTurnedWrong : ChangeSpec := { name := "curveTurned", fn := fun _ => fun
  | [d] => { results := [.lit (.bool false)], args := [d] }
  | _ => none }
def CurveTurnedWrongFalsely : Prop := curveTurnedRow.holds Try.pinned (OpenSpec.ofChange curveTurnedWrong)

/-- 'trystlaw08.CurveExact': WHATEVER THE INPUT: true; the input reads as it did. -/
def curveExactSpec : ChangeSpec := { name := "curveExact", fn := fun _ => fun
  | [d1, d2, d3] => { results := [.lit (.bool true)], args := [d1, d2, d3] }
  | _ => none }
def curveExactRow : OpenClaim := { program := "ytcekjmejppemeaa", sum := "6c5854d0a98e1f2bef2098eb9f9f207c26b5fe8428d85eb931e1fdf2c16f0b73", func := "tryst/trystlaw08.CurveExact", spec := "curveExact", inPlace := ["math/bits.Sub64", "math/bits.Add64"], apart := false }
def CurveExactSaid : Prop := curveExactRow.holds Try.pinned (OpenSpec.ofChange curveExactSpec)

/-- ITS FALSE NEIGHBOUR: 'it returns false'. Refute it at one input. -/
def curveExactWrong : ChangeSpec := { name := "curveExact", fn := fun _ => fun
  | [d1, d2, d3] => { results := [.lit (.bool false)], args := [d1, d2, d3] }
  | _ => none }
def CurveExactWrongFalsely : Prop := curveExactRow.holds Try.pinned (OpenSpec.ofChange curveExactWrong)

/-- 'trystlaw08.CurveOrder': WHATEVER THE INPUT: true; the input reads as it did. -/
def curveOrderSpec : ChangeSpec := { name := "curveOrder", fn := fun _ => fun
  | [d] => { results := [.lit (.bool true)], args := [d] }
  | _ => none }
def curveOrderRow : OpenClaim := { program := "ytcekjmejppemeaa", sum := "6c5854d0a98e1f2bef2098eb9f9f207c26b5fe8428d85eb931e1fdf2c16f0b73", func := "tryst/trystlaw08.CurveOrder", spec := "curveOrder", inPlace := ["math/bits.Sub64", "math/bits.Add64"], apart := false }
def CurveOrderSaid : Prop := curveOrderRow.holds Try.pinned (OpenSpec.ofChange curveOrderSpec)

/-- ITS FALSE NEIGHBOUR: 'it returns false'. Refute it at one input. -/
def curveOrderWrong : ChangeSpec := { name := "curveOrder", fn := fun _ => fun
  | [d] => { results := [.lit (.bool false)], args := [d] }
  | _ => none }
def CurveOrderWrongFalsely : Prop := curveOrderRow.holds Try.pinned (OpenSpec.ofChange curveOrderWrong)

/-- 'trystlaw08.CurveRing': WHATEVER THE INPUT: true; the input reads as it did. -/
def curveRingSpec : ChangeSpec := { name := "curveRing", fn := fun _ => fun
  | [d1, d2, d3] => { results := [.lit (.bool true)], args := [d1, d2, d3] }
  | _ => none }
def curveRingRow : OpenClaim := { program := "ytcekjmejppemeaa", sum := "6c5854d0a98e1f2bef2098eb9f9f207c26b5fe8428d85eb931e1fdf2c16f0b73", func := "tryst/trystlaw08.CurveRing", spec := "curveRing", inPlace := ["math/bits.Add64", "math/bits.Sub64"], apart := false }
def CurveRingSaid : Prop := curveRingRow.holds Try.pinned (OpenSpec.ofChange curveRingSpec)

/-- ITS FALSE NEIGHBOUR: 'it returns false'. Refute it at one input. -/
def curveRingWrong : ChangeSpec := { name := "curveRing", fn := fun _ => fun
  | [d1, d2, d3] => { results := [.lit (.bool false)], args := [d1, d2, d3] }
  | _ => none }
def CurveRingWrongFalsely : Prop := curveRingRow.holds Try.pinned (OpenSpec.ofChange curveRingWrong)

/-- 'trystlaw08.CurveNumbers': WHATEVER THE INPUT: true; the input reads as it did. -/
def curveNumbersSpec : ChangeSpec := { name := "curveNumbers", fn := fun _ => fun
  | [d1, d2, d3, d4] => { results := [.lit (.bool true)], args := [d1, d2, d3, d4] }
  | _ => none }
def curveNumbersRow : OpenClaim := { program := "ytcekjmejppemeaa", sum := "6c5854d0a98e1f2bef2098eb9f9f207c26b5fe8428d85eb931e1fdf2c16f0b73", func := "tryst/trystlaw08.CurveNumbers", spec := "curveNumbers", inPlace := ["math/bits.Sub64", "math/bits.Add64"], apart := false }
def CurveNumbersSaid : Prop := curveNumbersRow.holds Try.pinned (OpenSpec.ofChange curveNumbersSpec)

/-- ITS FALSE NEIGHBOUR: 'it returns false'. Refute it at one input. -/
def curveNumbersWrong : ChangeSpec := { name := "curveNumbers", fn := fun _ => fun
  | [d1, d2, d3, d4] => { results := [.lit (.bool false)], args := [d1, d2, d3, d4] }
  | _ => none }
def CurveNumbersWrongFalsely : Prop := curveNumbersRow.holds Try.pinned (OpenSpec.ofChange curveNumbersWrong)

/-- 'trystlaw08.CurveMultiples': WHATEVER THE INPUT: true; the input reads as it did. -/
def curveMultiplesSpec : ChangeSpec := { name := "curveMultiples", fn := fun _ => fun
  | [d1, d2, d3] => { results := [.lit (.bool true)], args := [d1, d2, d3] }
  | _ => none }
def curveMultiplesRow : OpenClaim := { program := "ytcekjmejppemeaa", sum := "6c5854d0a98e1f2bef2098eb9f9f207c26b5fe8428d85eb931e1fdf2c16f0b73", func := "tryst/trystlaw08.CurveMultiples", spec := "curveMultiples", inPlace := ["math/bits.Add64", "math/bits.Sub64"], apart := false }
def CurveMultiplesSaid : Prop := curveMultiplesRow.holds Try.pinned (OpenSpec.ofChange curveMultiplesSpec)

/-- ITS FALSE NEIGHBOUR: 'it returns false'. Refute it at one input. -/
def curveMultiplesWrong : ChangeSpec := { name := "curveMultiples", fn := fun _ => fun
  | [d1, d2, d3] => { results := [.lit (.bool false)], args := [d1, d2, d3] }
  | _ => none }
def CurveMultiplesWrongFalsely : Prop := curveMultiplesRow.holds Try.pinned (OpenSpec.ofChange curveMultiplesWrong)

/- THE SECOND FORM. 'bulk': how many values and letters a reading holds, each counted each time it is reached (what is shared counts as often as it is met; a slice's spare places count too). A statement '..UptoSaid' is the law's where the arguments, and the package variables that the reading takes, are together of bulk at most 1048576: NARROWER than '..Said'. Prove '..Said' where nothing that the law and all that it calls make is longer than what came in: it says more and counts as full. Else prove '..UptoSaid'. A law counts once. -/
mutual
def uptoBulk {H : Type} : DataW H → Nat
  | .lit (.string bytes) => bytes.length + 1
  | .lit _ => 1
  | .nil => 1
  | .ptr d => uptoBulk d + 1
  | .slice elems spare => uptoBulkAll elems + uptoBulkAll spare + 1
  | .agg parts => uptoBulkAll parts + 1
  | .iface _ d => uptoBulk d + 1
  | .map entries => uptoBulkEntries entries + 1
  | .held _ => 1
def uptoBulkAll {H : Type} : List (DataW H) → Nat
  | [] => 0
  | d :: r => uptoBulk d + uptoBulkAll r
def uptoBulkEntries {H : Type} : List (Lit × DataW H) → Nat
  | [] => 0
  | x :: r => uptoBulkEntry x + uptoBulkEntries r
def uptoBulkEntry {H : Type} : Lit × DataW H → Nat
  | (.string bytes, d) => bytes.length + uptoBulk d + 1
  | (_, d) => uptoBulk d + 1
 end
def uptoSmall : (H : Type) → List (DataW H) → Bool := fun _ ds => decide (uptoBulkAll ds ≤ 1048576)
def OpenSpec.upto (s : _root_.Go.ChangeSpec) : _root_.Go.OpenSpec := { _root_.Go.OpenSpec.ofChange s with cond := some uptoSmall }

/-- 'trystlaw08.CurveGroup', WHERE WHAT IT READS IS OF BULK AT MOST 1048576: true; the input reads as it did. -/
def curveGroupUptoRow : OpenClaim := { program := "ytcekjmejppemeaa", sum := "6c5854d0a98e1f2bef2098eb9f9f207c26b5fe8428d85eb931e1fdf2c16f0b73", func := "tryst/trystlaw08.CurveGroup", spec := "curveGroup", inPlace := ["math/bits.Add64"], apart := false, narrowed := true }
def CurveGroupUptoSaid : Prop := curveGroupUptoRow.holds Try.pinned (OpenSpec.upto curveGroupSpec)

/-- 'trystlaw08.CurveDoubles', WHERE WHAT IT READS IS OF BULK AT MOST 1048576: true; the input reads as it did. -/
def curveDoublesUptoRow : OpenClaim := { program := "ytcekjmejppemeaa", sum := "6c5854d0a98e1f2bef2098eb9f9f207c26b5fe8428d85eb931e1fdf2c16f0b73", func := "tryst/trystlaw08.CurveDoubles", spec := "curveDoubles", inPlace := ["math/bits.Add64"], apart := false, narrowed := true }
def CurveDoublesUptoSaid : Prop := curveDoublesUptoRow.holds Try.pinned (OpenSpec.upto curveDoublesSpec)

/-- 'trystlaw08.CurveEquation', WHERE WHAT IT READS IS OF BULK AT MOST 1048576: true; the input reads as it did. -/
def curveEquationUptoRow : OpenClaim := { program := "ytcekjmejppemeaa", sum := "6c5854d0a98e1f2bef2098eb9f9f207c26b5fe8428d85eb931e1fdf2c16f0b73", func := "tryst/trystlaw08.CurveEquation", spec := "curveEquation", inPlace := ["math/bits.Add64"], apart := false, narrowed := true }
def CurveEquationUptoSaid : Prop := curveEquationUptoRow.holds Try.pinned (OpenSpec.upto curveEquationSpec)

/-- 'trystlaw08.CurveTurned', WHERE WHAT IT READS IS OF BULK AT MOST 1048576: true; the input reads as it did. -/
def curveTurnedUptoRow : OpenClaim := { program := "ytcekjmejppemeaa", sum := "6c5854d0a98e1f2bef2098eb9f9f207c26b5fe8428d85eb931e1fdf2c16f0b73", func := "tryst/trystlaw08.CurveTurned", spec := "curveTurned", inPlace := ["math/bits.Add64"], apart := false, narrowed := true }
def CurveTurnedUptoSaid : Prop := curveTurnedUptoRow.holds Try.pinned (OpenSpec.upto curveTurnedSpec)

/-- 'trystlaw08.CurveExact', WHERE WHAT IT READS IS OF BULK AT MOST 1048576: true; the input reads as it did. -/
def curveExactUptoRow : OpenClaim := { program := "ytcekjmejppemeaa", sum := "6c5854d0a98e1f2bef2098eb9f9f207c26b5fe8428d85eb931e1fdf2c16f0b73", func := "tryst/trystlaw08.CurveExact", spec := "curveExact", inPlace := ["math/bits.Sub64", "math/bits.Add64"], apart := false, narrowed := true }
def CurveExactUptoSaid : Prop := curveExactUptoRow.holds Try.pinned (OpenSpec.upto curveExactSpec)

/-- 'trystlaw08.CurveOrder', WHERE WHAT IT READS IS OF BULK AT MOST 1048576: true; the input reads as it did. -/
def curveOrderUptoRow : OpenClaim := { program := "ytcekjmejppemeaa", sum := "6c5854d0a98e1f2bef2098eb9f9f207c26b5fe8428d85eb931e1fdf2c16f0b73", func := "tryst/trystlaw08.CurveOrder", spec := "curveOrder", inPlace := ["math/bits.Sub64", "math/bits.Add64"], apart := false, narrowed := true }
def CurveOrderUptoSaid : Prop := curveOrderUptoRow.holds Try.pinned (OpenSpec.upto curveOrderSpec)

/-- 'trystlaw08.CurveRing', WHERE WHAT IT READS IS OF BULK AT MOST 1048576: true; the input reads as it did. -/
def curveRingUptoRow : OpenClaim := { program := "ytcekjmejppemeaa", sum := "6c5854d0a98e1f2bef2098eb9f9f207c26b5fe8428d85eb931e1fdf2c16f0b73", func := "tryst/trystlaw08.CurveRing", spec := "curveRing", inPlace := ["math/bits.Add64", "math/bits.Sub64"], apart := false, narrowed := true }
def CurveRingUptoSaid : Prop := curveRingUptoRow.holds Try.pinned (OpenSpec.upto curveRingSpec)

/-- 'trystlaw08.CurveNumbers', WHERE WHAT IT READS IS OF BULK AT MOST 1048576: true; the input reads as it did. -/
def curveNumbersUptoRow : OpenClaim := { program := "ytcekjmejppemeaa", sum := "6c5854d0a98e1f2bef2098eb9f9f207c26b5fe8428d85eb931e1fdf2c16f0b73", func := "tryst/trystlaw08.CurveNumbers", spec := "curveNumbers", inPlace := ["math/bits.Sub64", "math/bits.Add64"], apart := false, narrowed := true }
def CurveNumbersUptoSaid : Prop := curveNumbersUptoRow.holds Try.pinned (OpenSpec.upto curveNumbersSpec)

/-- 'trystlaw08.CurveMultiples', WHERE WHAT IT READS IS OF BULK AT MOST 1048576: true; the input reads as it did. -/
def curveMultiplesUptoRow : OpenClaim := { program := "ytcekjmejppemeaa", sum := "6c5854d0a98e1f2bef2098eb9f9f207c26b5fe8428d85eb931e1fdf2c16f0b73", func := "tryst/trystlaw08.CurveMultiples", spec := "curveMultiples", inPlace := ["math/bits.Add64", "math/bits.Sub64"], apart := false, narrowed := true }
def CurveMultiplesUptoSaid : Prop := curveMultiplesUptoRow.holds Try.pinned (OpenSpec.upto curveMultiplesSpec)

end Rows
end Go.Proofs.Ytcekjmejppemeaa
