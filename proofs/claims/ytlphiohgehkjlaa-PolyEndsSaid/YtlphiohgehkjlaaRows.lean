/-
  No cell of these rows narrows 'for every input' (looked for: loops, veiled, ifaces, maps, wideKeys, modest, calm, conditions, laid).
  DERIVED. THE GIVEN ROWS OF THIS SEAT. 4 by the template 'for every input the law returns true; each argument reads behind the call as it read before'; 0 by the template 'total and deterministic' (their statements: YtlphiohgehkjlaaTotals.lean).
  GIVEN WITH THE SEED: the statements are not yours to turn. If you find one false, say at which input.
  Laid BY PROGRAM, IN A SANDBOX (cutbox-rows.mjs): the forced cells as the released guide's own fill.sh prints them over the translation 2d622c773a2a7701… (all of the seat's roots in one cut). By AI agents, Wed Nov 11 2026. No macro, syntax, notation, axiom, sorry.
-/
import Derived.Test.YtlphiohgehkjlaaChecked
import GoSem.Claim
import GoSem.ClaimJoined
import GoSem.ClaimMapViews
import Derived.JoinedTies
import Derived.KernelRfl
namespace Go.Proofs.Ytlphiohgehkjlaa
/- THE CELL 'sum', in the pinned program and in every row, IS THE sha256 OF THE DUMP (.gsa) THAT YtlphiohgehkjlaaProg.lean LOADS. Nothing in Lean hashes anything: it is a label: what it is worth is what the hold of that sum in a sandbox is worth. -/
noncomputable def Try.pinned : Pinned := { name := "ytlphiohgehkjlaa", sum := "2d622c773a2a77018506d0f7c9ff679d2a83f4bbf57fc71f95b319686ca75b45", checked := Try.checked }
namespace Rows
def none {H : Type} : Left H := { results := [], args := [] }

/-- 'trystlaw04.PolyExact': WHATEVER THE INPUT: true; the input reads as it did. -/
def polyExactSpec : ChangeSpec := { name := "polyExact", fn := fun _ => fun
  | [d1, d2] => { results := [.lit (.bool true)], args := [d1, d2] }
  | _ => none }
def polyExactRow : OpenClaim := { program := "ytlphiohgehkjlaa", sum := "2d622c773a2a77018506d0f7c9ff679d2a83f4bbf57fc71f95b319686ca75b45", func := "tryst/trystlaw04.PolyExact", spec := "polyExact", inPlace := ["math/bits.Add64"], apart := false }
def PolyExactSaid : Prop := polyExactRow.holds Try.pinned (OpenSpec.ofChange polyExactSpec)

/-- ITS FALSE NEIGHBOUR: 'it returns false'. Refute it at one input. -/
def polyExactWrong : ChangeSpec := { name := "polyExact", fn := fun _ => fun
  | [d1, d2] => { results := [.lit (.bool false)], args := [d1, d2] }
  | _ => none }
def PolyExactWrongFalsely : Prop := polyExactRow.holds Try.pinned (OpenSpec.ofChange polyExactWrong)

/-- 'trystlaw04.PolyEnds': WHATEVER THE INPUT: true; the input reads as it did. -/
def polyEndsSpec : ChangeSpec := { name := "polyEnds", fn := fun _ => fun
  | [d1, d2, d3] => { results := [.lit (.bool true)], args := [d1, d2, d3] }
  | _ => none }
def polyEndsRow : OpenClaim := { program := "ytlphiohgehkjlaa", sum := "2d622c773a2a77018506d0f7c9ff679d2a83f4bbf57fc71f95b319686ca75b45", func := "tryst/trystlaw04.PolyEnds", spec := "polyEnds", inPlace := ["math/bits.Add64"], apart := false }
def PolyEndsSaid : Prop := polyEndsRow.holds Try.pinned (OpenSpec.ofChange polyEndsSpec)

/-- ITS FALSE NEIGHBOUR: 'it returns false'. Refute it at one input. -/
def polyEndsWrong : ChangeSpec := { name := "polyEnds", fn := fun _ => fun
  | [d1, d2, d3] => { results := [.lit (.bool false)], args := [d1, d2, d3] }
  | _ => none }
def PolyEndsWrongFalsely : Prop := polyEndsRow.holds Try.pinned (OpenSpec.ofChange polyEndsWrong)

/-- 'trystlaw04.PolyOnes': WHATEVER THE INPUT: true; the input reads as it did. -/
def polyOnesSpec : ChangeSpec := { name := "polyOnes", fn := fun _ => fun
  | [d1, d2] => { results := [.lit (.bool true)], args := [d1, d2] }
  | _ => none }
def polyOnesRow : OpenClaim := { program := "ytlphiohgehkjlaa", sum := "2d622c773a2a77018506d0f7c9ff679d2a83f4bbf57fc71f95b319686ca75b45", func := "tryst/trystlaw04.PolyOnes", spec := "polyOnes", inPlace := ["math/bits.Add64"], apart := false }
def PolyOnesSaid : Prop := polyOnesRow.holds Try.pinned (OpenSpec.ofChange polyOnesSpec)

/-- ITS FALSE NEIGHBOUR: 'it returns false'. Refute it at one input. -/
def polyOnesWrong : ChangeSpec := { name := "polyOnes", fn := fun _ => fun
  | [d1, d2] => { results := [.lit (.bool false)], args := [d1, d2] }
  | _ => none }
def PolyOnesWrongFalsely : Prop := polyOnesRow.holds Try.pinned (OpenSpec.ofChange polyOnesWrong)

/-- 'trystlaw04.PolyPiece': WHATEVER THE INPUT: true; the input reads as it did. -/
def polyPieceSpec : ChangeSpec := { name := "polyPiece", fn := fun _ => fun
  | [d1, d2, d3] => { results := [.lit (.bool true)], args := [d1, d2, d3] }
  | _ => none }
def polyPieceRow : OpenClaim := { program := "ytlphiohgehkjlaa", sum := "2d622c773a2a77018506d0f7c9ff679d2a83f4bbf57fc71f95b319686ca75b45", func := "tryst/trystlaw04.PolyPiece", spec := "polyPiece", inPlace := ["math/bits.Add64"], apart := false }
def PolyPieceSaid : Prop := polyPieceRow.holds Try.pinned (OpenSpec.ofChange polyPieceSpec)

/-- ITS FALSE NEIGHBOUR: 'it returns false'. Refute it at one input. -/
def polyPieceWrong : ChangeSpec := { name := "polyPiece", fn := fun _ => fun
  | [d1, d2, d3] => { results := [.lit (.bool false)], args := [d1, d2, d3] }
  | _ => none }
def PolyPieceWrongFalsely : Prop := polyPieceRow.holds Try.pinned (OpenSpec.ofChange polyPieceWrong)

/- THE SECOND FORM. 'bulk': how many values and letters a reading holds, each counted each time it is reached (what is shared counts as often as it is met; a slice's spare places count too). A statement '..UptoSaid' is the law's where the arguments, and the package variables that the reading takes, are together of bulk at most 1048576: NARROWER than '..Said'. Prove '..Said' where nothing that the law and all that it calls make is longer than what came in: it says more and counts as full. Else prove '..UptoSaid'. A law counts once. -/
mutual
def uptoBulk {H : Type} : DataW H → Nat
  | .lit (.string bytes) => bytes.length + 1
  | .lit _ => 1
  | .nil => 1
  | .ptr d => uptoBulk d + 1
  | .slice elems spare => uptoBulkAll elems + uptoBulkAll spare + 1
  | .agg parts => uptoBulkAll parts + 1
  | .iface _ d => uptoBulk d + 1
  | .map entries => uptoBulkEntries entries + 1
  | .held _ => 1
def uptoBulkAll {H : Type} : List (DataW H) → Nat
  | [] => 0
  | d :: r => uptoBulk d + uptoBulkAll r
def uptoBulkEntries {H : Type} : List (Lit × DataW H) → Nat
  | [] => 0
  | x :: r => uptoBulkEntry x + uptoBulkEntries r
def uptoBulkEntry {H : Type} : Lit × DataW H → Nat
  | (.string bytes, d) => bytes.length + uptoBulk d + 1
  | (_, d) => uptoBulk d + 1
 end
def uptoSmall : (H : Type) → List (DataW H) → Bool := fun _ ds => decide (uptoBulkAll ds ≤ 1048576)
def OpenSpec.upto (s : _root_.Go.ChangeSpec) : _root_.Go.OpenSpec := { _root_.Go.OpenSpec.ofChange s with cond := some uptoSmall }

/-- 'trystlaw04.PolyExact', WHERE WHAT IT READS IS OF BULK AT MOST 1048576: true; the input reads as it did. -/
def polyExactUptoRow : OpenClaim := { program := "ytlphiohgehkjlaa", sum := "2d622c773a2a77018506d0f7c9ff679d2a83f4bbf57fc71f95b319686ca75b45", func := "tryst/trystlaw04.PolyExact", spec := "polyExact", inPlace := ["math/bits.Add64"], apart := false, narrowed := true }
def PolyExactUptoSaid : Prop := polyExactUptoRow.holds Try.pinned (OpenSpec.upto polyExactSpec)

/-- 'trystlaw04.PolyEnds', WHERE WHAT IT READS IS OF BULK AT MOST 1048576: true; the input reads as it did. -/
def polyEndsUptoRow : OpenClaim := { program := "ytlphiohgehkjlaa", sum := "2d622c773a2a77018506d0f7c9ff679d2a83f4bbf57fc71f95b319686ca75b45", func := "tryst/trystlaw04.PolyEnds", spec := "polyEnds", inPlace := ["math/bits.Add64"], apart := false, narrowed := true }
def PolyEndsUptoSaid : Prop := polyEndsUptoRow.holds Try.pinned (OpenSpec.upto polyEndsSpec)

/-- 'trystlaw04.PolyOnes', WHERE WHAT IT READS IS OF BULK AT MOST 1048576: true; the input reads as it did. -/
def polyOnesUptoRow : OpenClaim := { program := "ytlphiohgehkjlaa", sum := "2d622c773a2a77018506d0f7c9ff679d2a83f4bbf57fc71f95b319686ca75b45", func := "tryst/trystlaw04.PolyOnes", spec := "polyOnes", inPlace := ["math/bits.Add64"], apart := false, narrowed := true }
def PolyOnesUptoSaid : Prop := polyOnesUptoRow.holds Try.pinned (OpenSpec.upto polyOnesSpec)

/-- 'trystlaw04.PolyPiece', WHERE WHAT IT READS IS OF BULK AT MOST 1048576: true; the input reads as it did. -/
def polyPieceUptoRow : OpenClaim := { program := "ytlphiohgehkjlaa", sum := "2d622c773a2a77018506d0f7c9ff679d2a83f4bbf57fc71f95b319686ca75b45", func := "tryst/trystlaw04.PolyPiece", spec := "polyPiece", inPlace := ["math/bits.Add64"], apart := false, narrowed := true }
def PolyPieceUptoSaid : Prop := polyPieceUptoRow.holds Try.pinned (OpenSpec.upto polyPieceSpec)

end Rows
end Go.Proofs.Ytlphiohgehkjlaa
