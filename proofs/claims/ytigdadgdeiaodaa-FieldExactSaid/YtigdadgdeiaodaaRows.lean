/-
  No cell of these rows narrows 'for every input' (looked for: loops, veiled, ifaces, maps, wideKeys, modest, calm, conditions, laid).
  DERIVED. THE GIVEN ROWS OF THIS SEAT. 9 by the template 'for every input the law returns true; each argument reads behind the call as it read before'; 0 by the template 'total and deterministic' (their statements: YtigdadgdeiaodaaTotals.lean).
  GIVEN WITH THE SEED: the statements are not yours to turn. If you find one false, say at which input.
  Laid BY PROGRAM, IN A SANDBOX (cutbox-rows.mjs): the forced cells as the released guide's own fill.sh prints them over the translation 512240efd718dba4… (all of the seat's roots in one cut). By AI agents, Wed Nov 11 2026. No macro, syntax, notation, axiom, sorry.
-/
import Derived.Test.YtigdadgdeiaodaaChecked
import GoSem.Claim
import GoSem.ClaimJoined
import GoSem.ClaimMapViews
import Derived.JoinedTies
import Derived.KernelRfl
namespace Go.Proofs.Ytigdadgdeiaodaa
/- THE CELL 'sum', in the pinned program and in every row, IS THE sha256 OF THE DUMP (.gsa) THAT YtigdadgdeiaodaaProg.lean LOADS. Nothing in Lean hashes anything: it is a label: what it is worth is what the hold of that sum in a sandbox is worth. -/
noncomputable def Try.pinned : Pinned := { name := "ytigdadgdeiaodaa", sum := "512240efd718dba493f9668a2015ba5f659a77b68c078eb78dec55712c99dd4f", checked := Try.checked }
namespace Rows
def none {H : Type} : Left H := { results := [], args := [] }

/-- 'trystlaw06.FieldQuotients': WHATEVER THE INPUT: true; the input reads as it did. -/
def fieldQuotientsSpec : ChangeSpec := { name := "fieldQuotients", fn := fun _ => fun
  | [d1, d2, d3] => { results := [.lit (.bool true)], args := [d1, d2, d3] }
  | _ => none }
def fieldQuotientsRow : OpenClaim := { program := "ytigdadgdeiaodaa", sum := "512240efd718dba493f9668a2015ba5f659a77b68c078eb78dec55712c99dd4f", func := "tryst/trystlaw06.FieldQuotients", spec := "fieldQuotients", inPlace := ["math/bits.Add64"], apart := false }
def FieldQuotientsSaid : Prop := fieldQuotientsRow.holds Try.pinned (OpenSpec.ofChange fieldQuotientsSpec)

/-- ITS FALSE NEIGHBOUR: 'it returns false'. Refute it at one input. -/
def fieldQuotientsWrong : ChangeSpec := { name := "fieldQuotients", fn := fun _ => fun
  | [d1, d2, d3] => { results := [.lit (.bool false)], args := [d1, d2, d3] }
  | _ => none }
def FieldQuotientsWrongFalsely : Prop := fieldQuotientsRow.holds Try.pinned (OpenSpec.ofChange fieldQuotientsWrong)

/-- 'trystlaw06.FieldExponents': WHATEVER THE INPUT: true; the input reads as it did. -/
def fieldExponentsSpec : ChangeSpec := { name := "fieldExponents", fn := fun _ => fun
  | [d1, d2, d3] => { results := [.lit (.bool true)], args := [d1, d2, d3] }
  | _ => none }
def fieldExponentsRow : OpenClaim := { program := "ytigdadgdeiaodaa", sum := "512240efd718dba493f9668a2015ba5f659a77b68c078eb78dec55712c99dd4f", func := "tryst/trystlaw06.FieldExponents", spec := "fieldExponents", inPlace := ["math/bits.Add64"], apart := false }
def FieldExponentsSaid : Prop := fieldExponentsRow.holds Try.pinned (OpenSpec.ofChange fieldExponentsSpec)

/-- ITS FALSE NEIGHBOUR: 'it returns false'. Refute it at one input. -/
def fieldExponentsWrong : ChangeSpec := { name := "fieldExponents", fn := fun _ => fun
  | [d1, d2, d3] => { results := [.lit (.bool false)], args := [d1, d2, d3] }
  | _ => none }
def FieldExponentsWrongFalsely : Prop := fieldExponentsRow.holds Try.pinned (OpenSpec.ofChange fieldExponentsWrong)

/-- 'trystlaw06.FieldPowers': WHATEVER THE INPUT: true; the input reads as it did. -/
def fieldPowersSpec : ChangeSpec := { name := "fieldPowers", fn := fun _ => fun
  | [d1, d2] => { results := [.lit (.bool true)], args := [d1, d2] }
  | _ => none }
def fieldPowersRow : OpenClaim := { program := "ytigdadgdeiaodaa", sum := "512240efd718dba493f9668a2015ba5f659a77b68c078eb78dec55712c99dd4f", func := "tryst/trystlaw06.FieldPowers", spec := "fieldPowers", inPlace := ["math/bits.Add64", "math/bits.Sub64"], apart := false }
def FieldPowersSaid : Prop := fieldPowersRow.holds Try.pinned (OpenSpec.ofChange fieldPowersSpec)

/-- ITS FALSE NEIGHBOUR: 'it returns false'. Refute it at one input. -/
def fieldPowersWrong : ChangeSpec := { name := "fieldPowers", fn := fun _ => fun
  | [d1, d2] => { results := [.lit (.bool false)], args := [d1, d2] }
  | _ => none }
def FieldPowersWrongFalsely : Prop := fieldPowersRow.holds Try.pinned (OpenSpec.ofChange fieldPowersWrong)

/-- 'trystlaw06.FieldInverse': WHATEVER THE INPUT: true; the input reads as it did. -/
def fieldInverseSpec : ChangeSpec := { name := "fieldInverse", fn := fun _ => fun
  | [d] => { results := [.lit (.bool true)], args := [d] }
  | _ => none }
def fieldInverseRow : OpenClaim := { program := "ytigdadgdeiaodaa", sum := "512240efd718dba493f9668a2015ba5f659a77b68c078eb78dec55712c99dd4f", func := "tryst/trystlaw06.FieldInverse", spec := "fieldInverse", inPlace := ["math/bits.Add64"], apart := false }
def FieldInverseSaid : Prop := fieldInverseRow.holds Try.pinned (OpenSpec.ofChange fieldInverseSpec)

/-- ITS FALSE NEIGHBOUR: 'it returns false'. Refute it at one input. -/
def fieldInverseWrong : ChangeSpec := { name := "fieldInverse", fn := fun _ => fun
  | [d] => { results := [.lit (.bool false)], args := [d] }
  | _ => none }
def FieldInverseWrongFalsely : Prop := fieldInverseRow.holds Try.pinned (OpenSpec.ofChange fieldInverseWrong)

/-- 'trystlaw06.FieldSigns': WHATEVER THE INPUT: true; the input reads as it did. -/
def fieldSignsSpec : ChangeSpec := { name := "fieldSigns", fn := fun _ => fun
  | [d1, d2] => { results := [.lit (.bool true)], args := [d1, d2] }
  | _ => none }
def fieldSignsRow : OpenClaim := { program := "ytigdadgdeiaodaa", sum := "512240efd718dba493f9668a2015ba5f659a77b68c078eb78dec55712c99dd4f", func := "tryst/trystlaw06.FieldSigns", spec := "fieldSigns", inPlace := ["math/bits.Add64"], apart := false }
def FieldSignsSaid : Prop := fieldSignsRow.holds Try.pinned (OpenSpec.ofChange fieldSignsSpec)

/-- ITS FALSE NEIGHBOUR: 'it returns false'. Refute it at one input. -/
def fieldSignsWrong : ChangeSpec := { name := "fieldSigns", fn := fun _ => fun
  | [d1, d2] => { results := [.lit (.bool false)], args := [d1, d2] }
  | _ => none }
def FieldSignsWrongFalsely : Prop := fieldSignsRow.holds Try.pinned (OpenSpec.ofChange fieldSignsWrong)

/-- 'trystlaw06.FieldRing': WHATEVER THE INPUT: true; the input reads as it did. -/
def fieldRingSpec : ChangeSpec := { name := "fieldRing", fn := fun _ => fun
  | [d1, d2, d3] => { results := [.lit (.bool true)], args := [d1, d2, d3] }
  | _ => none }
def fieldRingRow : OpenClaim := { program := "ytigdadgdeiaodaa", sum := "512240efd718dba493f9668a2015ba5f659a77b68c078eb78dec55712c99dd4f", func := "tryst/trystlaw06.FieldRing", spec := "fieldRing", inPlace := ["math/bits.Add64"], apart := false }
def FieldRingSaid : Prop := fieldRingRow.holds Try.pinned (OpenSpec.ofChange fieldRingSpec)

/-- ITS FALSE NEIGHBOUR: 'it returns false'. Refute it at one input. -/
def fieldRingWrong : ChangeSpec := { name := "fieldRing", fn := fun _ => fun
  | [d1, d2, d3] => { results := [.lit (.bool false)], args := [d1, d2, d3] }
  | _ => none }
def FieldRingWrongFalsely : Prop := fieldRingRow.holds Try.pinned (OpenSpec.ofChange fieldRingWrong)

/-- 'trystlaw06.FieldEnds': WHATEVER THE INPUT: true; the input reads as it did. -/
def fieldEndsSpec : ChangeSpec := { name := "fieldEnds", fn := fun _ => fun
  | [d1, d2] => { results := [.lit (.bool true)], args := [d1, d2] }
  | _ => none }
def fieldEndsRow : OpenClaim := { program := "ytigdadgdeiaodaa", sum := "512240efd718dba493f9668a2015ba5f659a77b68c078eb78dec55712c99dd4f", func := "tryst/trystlaw06.FieldEnds", spec := "fieldEnds", inPlace := ["math/bits.Add64"], apart := false }
def FieldEndsSaid : Prop := fieldEndsRow.holds Try.pinned (OpenSpec.ofChange fieldEndsSpec)

/-- ITS FALSE NEIGHBOUR: 'it returns false'. Refute it at one input. -/
def fieldEndsWrong : ChangeSpec := { name := "fieldEnds", fn := fun _ => fun
  | [d1, d2] => { results := [.lit (.bool false)], args := [d1, d2] }
  | _ => none }
def FieldEndsWrongFalsely : Prop := fieldEndsRow.holds Try.pinned (OpenSpec.ofChange fieldEndsWrong)

/-- 'trystlaw06.FieldRoots': WHATEVER THE INPUT: true; the input reads as it did. -/
def fieldRootsSpec : ChangeSpec := { name := "fieldRoots", fn := fun _ => fun
  | [d] => { results := [.lit (.bool true)], args := [d] }
  | _ => none }
def fieldRootsRow : OpenClaim := { program := "ytigdadgdeiaodaa", sum := "512240efd718dba493f9668a2015ba5f659a77b68c078eb78dec55712c99dd4f", func := "tryst/trystlaw06.FieldRoots", spec := "fieldRoots", inPlace := ["math/bits.Add64"], apart := false }
def FieldRootsSaid : Prop := fieldRootsRow.holds Try.pinned (OpenSpec.ofChange fieldRootsSpec)

/-- ITS FALSE NEIGHBOUR: 'it returns false'. Refute it at one input. -/
def fieldRootsWrong : ChangeSpec := { name := "fieldRoots", fn := fun _ => fun
  | [d] => { results := [.lit (.bool false)], args := [d] }
  | _ => none }
def FieldRootsWrongFalsely : Prop := fieldRootsRow.holds Try.pinned (OpenSpec.ofChange fieldRootsWrong)

/-- 'trystlaw06.FieldExact': WHATEVER THE INPUT: true; the input reads as it did. -/
def fieldExactSpec : ChangeSpec := { name := "fieldExact", fn := fun _ => fun
  | [d1, d2] => { results := [.lit (.bool true)], args := [d1, d2] }
  | _ => none }
def fieldExactRow : OpenClaim := { program := "ytigdadgdeiaodaa", sum := "512240efd718dba493f9668a2015ba5f659a77b68c078eb78dec55712c99dd4f", func := "tryst/trystlaw06.FieldExact", spec := "fieldExact", inPlace := ["math/bits.Sub64", "math/bits.Add64"], apart := false }
def FieldExactSaid : Prop := fieldExactRow.holds Try.pinned (OpenSpec.ofChange fieldExactSpec)

/-- ITS FALSE NEIGHBOUR: 'it returns false'. Refute it at one input. -/
def fieldExactWrong : ChangeSpec := { name := "fieldExact", fn := fun _ => fun
  | [d1, d2] => { results := [.lit (.bool false)], args := [d1, d2] }
  | _ => none }
def FieldExactWrongFalsely : Prop := fieldExactRow.holds Try.pinned (OpenSpec.ofChange fieldExactWrong)

/- THE SECOND FORM. 'bulk': how many values and letters a reading holds, each counted each time it is reached (what is shared counts as often as it is met; a slice's spare places count too). A statement '..UptoSaid' is the law's where the arguments, and the package variables that the reading takes, are together of bulk at most 1048576: NARROWER than '..Said'. Prove '..Said' where nothing that the law and all that it calls make is longer than what came in: it says more and counts as full. Else prove '..UptoSaid'. A law counts once. -/
mutual
def uptoBulk {H : Type} : DataW H → Nat
  | .lit (.string bytes) => bytes.length + 1
  | .lit _ => 1
  | .nil => 1
  | .ptr d => uptoBulk d + 1
  | .slice elems spare => uptoBulkAll elems + uptoBulkAll spare + 1
  | .agg parts => uptoBulkAll parts + 1
  | .iface _ d => uptoBulk d + 1
  | .map entries => uptoBulkEntries entries + 1
  | .held _ => 1
def uptoBulkAll {H : Type} : List (DataW H) → Nat
  | [] => 0
  | d :: r => uptoBulk d + uptoBulkAll r
def uptoBulkEntries {H : Type} : List (Lit × DataW H) → Nat
  | [] => 0
  | x :: r => uptoBulkEntry x + uptoBulkEntries r
def uptoBulkEntry {H : Type} : Lit × DataW H → Nat
  | (.string bytes, d) => bytes.length + uptoBulk d + 1
  | (_, d) => uptoBulk d + 1
 end
def uptoSmall : (H : Type) → List (DataW H) → Bool := fun _ ds => decide (uptoBulkAll ds ≤ 1048576)
def OpenSpec.upto (s : _root_.Go.ChangeSpec) : _root_.Go.OpenSpec := { _root_.Go.OpenSpec.ofChange s with cond := some uptoSmall }

/-- 'trystlaw06.FieldQuotients', WHERE WHAT IT READS IS OF BULK AT MOST 1048576: true; the input reads as it did. -/
def fieldQuotientsUptoRow : OpenClaim := { program := "ytigdadgdeiaodaa", sum := "512240efd718dba493f9668a2015ba5f659a77b68c078eb78dec55712c99dd4f", func := "tryst/trystlaw06.FieldQuotients", spec := "fieldQuotients", inPlace := ["math/bits.Add64"], apart := false, narrowed := true }
def FieldQuotientsUptoSaid : Prop := fieldQuotientsUptoRow.holds Try.pinned (OpenSpec.upto fieldQuotientsSpec)

/-- 'trystlaw06.FieldExponents', WHERE WHAT IT READS IS OF BULK AT MOST 1048576: true; the input reads as it did. -/
def fieldExponentsUptoRow : OpenClaim := { program := "ytigdadgdeiaodaa", sum := "512240efd718dba493f9668a2015ba5f659a77b68c078eb78dec55712c99dd4f", func := "tryst/trystlaw06.FieldExponents", spec := "fieldExponents", inPlace := ["math/bits.Add64"], apart := false, narrowed := true }
def FieldExponentsUptoSaid : Prop := fieldExponentsUptoRow.holds Try.pinned (OpenSpec.upto fieldExponentsSpec)

/-- 'trystlaw06.FieldPowers', WHERE WHAT IT READS IS OF BULK AT MOST 1048576: true; the input reads as it did. -/
def fieldPowersUptoRow : OpenClaim := { program := "ytigdadgdeiaodaa", sum := "512240efd718dba493f9668a2015ba5f659a77b68c078eb78dec55712c99dd4f", func := "tryst/trystlaw06.FieldPowers", spec := "fieldPowers", inPlace := ["math/bits.Add64", "math/bits.Sub64"], apart := false, narrowed := true }
def FieldPowersUptoSaid : Prop := fieldPowersUptoRow.holds Try.pinned (OpenSpec.upto fieldPowersSpec)

/-- 'trystlaw06.FieldInverse', WHERE WHAT IT READS IS OF BULK AT MOST 1048576: true; the input reads as it did. -/
def fieldInverseUptoRow : OpenClaim := { program := "ytigdadgdeiaodaa", sum := "512240efd718dba493f9668a2015ba5f659a77b68c078eb78dec55712c99dd4f", func := "tryst/trystlaw06.FieldInverse", spec := "fieldInverse", inPlace := ["math/bits.Add64"], apart := false, narrowed := true }
def FieldInverseUptoSaid : Prop := fieldInverseUptoRow.holds Try.pinned (OpenSpec.upto fieldInverseSpec)

/-- 'trystlaw06.FieldSigns', WHERE WHAT IT READS IS OF BULK AT MOST 1048576: true; the input reads as it did. -/
def fieldSignsUptoRow : OpenClaim := { program := "ytigdadgdeiaodaa", sum := "512240efd718dba493f9668a2015ba5f659a77b68c078eb78dec55712c99dd4f", func := "tryst/trystlaw06.FieldSigns", spec := "fieldSigns", inPlace := ["math/bits.Add64"], apart := false, narrowed := true }
def FieldSignsUptoSaid : Prop := fieldSignsUptoRow.holds Try.pinned (OpenSpec.upto fieldSignsSpec)

/-- 'trystlaw06.FieldRing', WHERE WHAT IT READS IS OF BULK AT MOST 1048576: true; the input reads as it did. -/
def fieldRingUptoRow : OpenClaim := { program := "ytigdadgdeiaodaa", sum := "512240efd718dba493f9668a2015ba5f659a77b68c078eb78dec55712c99dd4f", func := "tryst/trystlaw06.FieldRing", spec := "fieldRing", inPlace := ["math/bits.Add64"], apart := false, narrowed := true }
def FieldRingUptoSaid : Prop := fieldRingUptoRow.holds Try.pinned (OpenSpec.upto fieldRingSpec)

/-- 'trystlaw06.FieldEnds', WHERE WHAT IT READS IS OF BULK AT MOST 1048576: true; the input reads as it did. -/
def fieldEndsUptoRow : OpenClaim := { program := "ytigdadgdeiaodaa", sum := "512240efd718dba493f9668a2015ba5f659a77b68c078eb78dec55712c99dd4f", func := "tryst/trystlaw06.FieldEnds", spec := "fieldEnds", inPlace := ["math/bits.Add64"], apart := false, narrowed := true }
def FieldEndsUptoSaid : Prop := fieldEndsUptoRow.holds Try.pinned (OpenSpec.upto fieldEndsSpec)

/-- 'trystlaw06.FieldRoots', WHERE WHAT IT READS IS OF BULK AT MOST 1048576: true; the input reads as it did. -/
def fieldRootsUptoRow : OpenClaim := { program := "ytigdadgdeiaodaa", sum := "512240efd718dba493f9668a2015ba5f659a77b68c078eb78dec55712c99dd4f", func := "tryst/trystlaw06.FieldRoots", spec := "fieldRoots", inPlace := ["math/bits.Add64"], apart := false, narrowed := true }
def FieldRootsUptoSaid : Prop := fieldRootsUptoRow.holds Try.pinned (OpenSpec.upto fieldRootsSpec)

/-- 'trystlaw06.FieldExact', WHERE WHAT IT READS IS OF BULK AT MOST 1048576: true; the input reads as it did. -/
def fieldExactUptoRow : OpenClaim := { program := "ytigdadgdeiaodaa", sum := "512240efd718dba493f9668a2015ba5f659a77b68c078eb78dec55712c99dd4f", func := "tryst/trystlaw06.FieldExact", spec := "fieldExact", inPlace := ["math/bits.Sub64", "math/bits.Add64"], apart := false, narrowed := true }
def FieldExactUptoSaid : Prop := fieldExactUptoRow.holds Try.pinned (OpenSpec.upto fieldExactSpec)

end Rows
end Go.Proofs.Ytigdadgdeiaodaa
