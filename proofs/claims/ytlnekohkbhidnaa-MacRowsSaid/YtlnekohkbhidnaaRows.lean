/-
  No cell of these rows narrows 'for every input' (looked for: loops, veiled, ifaces, maps, wideKeys, modest, calm, conditions, laid).
  DERIVED. THE GIVEN ROWS OF THIS SEAT. 5 by the template 'for every input the law returns true; each argument reads behind the call as it read before'; 0 by the template 'total and deterministic' (their statements: YtlnekohkbhidnaaTotals.lean).
  GIVEN WITH THE SEED: the statements are not yours to turn. If you find one false, say at which input.
  Laid BY PROGRAM, IN A SANDBOX (cutbox-rows.mjs): the forced cells as the released guide's own fill.sh prints them over the translation 925736e7b6cd4419… (all of the seat's roots in one cut). By AI agents, Wed Nov 11 2026. No macro, syntax, notation, axiom, sorry.
-/
import Derived.Test.YtlnekohkbhidnaaChecked
import GoSem.Claim
import GoSem.ClaimJoined
import GoSem.ClaimMapViews
import Derived.JoinedTies
import Derived.KernelRfl
namespace Go.Proofs.Ytlnekohkbhidnaa
/- THE CELL 'sum', in the pinned program and in every row, IS THE sha256 OF THE DUMP (.gsa) THAT YtlnekohkbhidnaaProg.lean LOADS. Nothing in Lean hashes anything: it is a label: what it is worth is what the hold of that sum in a sandbox is worth. -/
noncomputable def Try.pinned : Pinned := { name := "ytlnekohkbhidnaa", sum := "925736e7b6cd4419f8792232117d9557dd489274cb35f5d800f12344db16e707", checked := Try.checked }
namespace Rows
def none {H : Type} : Left H := { results := [], args := [] }

/-- 'trystlaw02.MacKeys': WHATEVER THE INPUT: true; the input reads as it did. -/
def macKeysSpec : ChangeSpec := { name := "macKeys", fn := fun _ => fun
  | [d1, d2, d3] => { results := [.lit (.bool true)], args := [d1, d2, d3] }
  | _ => none }
def macKeysRow : OpenClaim := { program := "ytlnekohkbhidnaa", sum := "925736e7b6cd4419f8792232117d9557dd489274cb35f5d800f12344db16e707", func := "tryst/trystlaw02.MacKeys", spec := "macKeys", apart := false }
def MacKeysSaid : Prop := macKeysRow.holds Try.pinned (OpenSpec.ofChange macKeysSpec)

/-- ITS FALSE NEIGHBOUR: 'it returns false'. Refute it at one input. -/
def macKeysWrong : ChangeSpec := { name := "macKeys", fn := fun _ => fun
  | [d1, d2, d3] => { results := [.lit (.bool false)], args := [d1, d2, d3] }
  | _ => none }
def MacKeysWrongFalsely : Prop := macKeysRow.holds Try.pinned (OpenSpec.ofChange macKeysWrong)

/-- 'trystlaw02.MacBegins': WHATEVER THE INPUT: true; the input reads as it did. -/
def macBeginsSpec : ChangeSpec := { name := "macBegins", fn := fun _ => fun
  | [d1, d2, d3, d4] => { results := [.lit (.bool true)], args := [d1, d2, d3, d4] }
  | _ => none }
def macBeginsRow : OpenClaim := { program := "ytlnekohkbhidnaa", sum := "925736e7b6cd4419f8792232117d9557dd489274cb35f5d800f12344db16e707", func := "tryst/trystlaw02.MacBegins", spec := "macBegins", apart := false }
def MacBeginsSaid : Prop := macBeginsRow.holds Try.pinned (OpenSpec.ofChange macBeginsSpec)

/-- ITS FALSE NEIGHBOUR: 'it returns false'. Refute it at one input. -/
def macBeginsWrong : ChangeSpec := { name := "macBegins", fn := fun _ => fun
  | [d1, d2, d3, d4] => { results := [.lit (.bool false)], args := [d1, d2, d3, d4] }
  | _ => none }
def MacBeginsWrongFalsely : Prop := macBeginsRow.holds Try.pinned (OpenSpec.ofChange macBeginsWrong)

/-- 'trystlaw02.MacRows': WHATEVER THE INPUT: true; the input reads as it did. -/
def macRowsSpec : ChangeSpec := { name := "macRows", fn := fun _ => fun
  | [d1, d2, d3] => { results := [.lit (.bool true)], args := [d1, d2, d3] }
  | _ => none }
def macRowsRow : OpenClaim := { program := "ytlnekohkbhidnaa", sum := "925736e7b6cd4419f8792232117d9557dd489274cb35f5d800f12344db16e707", func := "tryst/trystlaw02.MacRows", spec := "macRows", apart := false }
def MacRowsSaid : Prop := macRowsRow.holds Try.pinned (OpenSpec.ofChange macRowsSpec)

/-- ITS FALSE NEIGHBOUR: 'it returns false'. Refute it at one input. -/
def macRowsWrong : ChangeSpec := { name := "macRows", fn := fun _ => fun
  | [d1, d2, d3] => { results := [.lit (.bool false)], args := [d1, d2, d3] }
  | _ => none }
def MacRowsWrongFalsely : Prop := macRowsRow.holds Try.pinned (OpenSpec.ofChange macRowsWrong)

/-- 'trystlaw02.MacExact': WHATEVER THE INPUT: true; the input reads as it did. -/
def macExactSpec : ChangeSpec := { name := "macExact", fn := fun _ => fun
  | [d1, d2, d3] => { results := [.lit (.bool true)], args := [d1, d2, d3] }
  | _ => none }
def macExactRow : OpenClaim := { program := "ytlnekohkbhidnaa", sum := "925736e7b6cd4419f8792232117d9557dd489274cb35f5d800f12344db16e707", func := "tryst/trystlaw02.MacExact", spec := "macExact", apart := false }
def MacExactSaid : Prop := macExactRow.holds Try.pinned (OpenSpec.ofChange macExactSpec)

/-- ITS FALSE NEIGHBOUR: 'it returns false'. Refute it at one input. -/
def macExactWrong : ChangeSpec := { name := "macExact", fn := fun _ => fun
  | [d1, d2, d3] => { results := [.lit (.bool false)], args := [d1, d2, d3] }
  | _ => none }
def MacExactWrongFalsely : Prop := macExactRow.holds Try.pinned (OpenSpec.ofChange macExactWrong)

/-- 'trystlaw02.MacNone': WHATEVER THE INPUT: true; the input reads as it did. -/
def macNoneSpec : ChangeSpec := { name := "macNone", fn := fun _ => fun
  | [d1, d2] => { results := [.lit (.bool true)], args := [d1, d2] }
  | _ => none }
def macNoneRow : OpenClaim := { program := "ytlnekohkbhidnaa", sum := "925736e7b6cd4419f8792232117d9557dd489274cb35f5d800f12344db16e707", func := "tryst/trystlaw02.MacNone", spec := "macNone", apart := false }
def MacNoneSaid : Prop := macNoneRow.holds Try.pinned (OpenSpec.ofChange macNoneSpec)

/-- ITS FALSE NEIGHBOUR: 'it returns false'. Refute it at one input. -/
def macNoneWrong : ChangeSpec := { name := "macNone", fn := fun _ => fun
  | [d1, d2] => { results := [.lit (.bool false)], args := [d1, d2] }
  | _ => none }
def MacNoneWrongFalsely : Prop := macNoneRow.holds Try.pinned (OpenSpec.ofChange macNoneWrong)

/- THE SECOND FORM. 'bulk': how many values and letters a reading holds, each counted each time it is reached (what is shared counts as often as it is met; a slice's spare places count too). A statement '..UptoSaid' is the law's where the arguments, and the package variables that the reading takes, are together of bulk at most 1048576: NARROWER than '..Said'. Prove '..Said' where nothing that the law and all that it calls make is longer than what came in: it says more and counts as full. Else prove '..UptoSaid'. A law counts once. -/
mutual
def uptoBulk {H : Type} : DataW H → Nat
  | .lit (.string bytes) => bytes.length + 1
  | .lit _ => 1
  | .nil => 1
  | .ptr d => uptoBulk d + 1
  | .slice elems spare => uptoBulkAll elems + uptoBulkAll spare + 1
  | .agg parts => uptoBulkAll parts + 1
  | .iface _ d => uptoBulk d + 1
  | .map entries => uptoBulkEntries entries + 1
  | .held _ => 1
def uptoBulkAll {H : Type} : List (DataW H) → Nat
  | [] => 0
  | d :: r => uptoBulk d + uptoBulkAll r
def uptoBulkEntries {H : Type} : List (Lit × DataW H) → Nat
  | [] => 0
  | x :: r => uptoBulkEntry x + uptoBulkEntries r
def uptoBulkEntry {H : Type} : Lit × DataW H → Nat
  | (.string bytes, d) => bytes.length + uptoBulk d + 1
  | (_, d) => uptoBulk d + 1
 end
def uptoSmall : (H : Type) → List (DataW H) → Bool := fun _ ds => decide (uptoBulkAll ds ≤ 1048576)
def OpenSpec.upto (s : _root_.Go.ChangeSpec) : _root_.Go.OpenSpec := { _root_.Go.OpenSpec.ofChange s with cond := some uptoSmall }

/-- 'trystlaw02.MacKeys', WHERE WHAT IT READS IS OF BULK AT MOST 1048576: true; the input reads as it did. -/
def macKeysUptoRow : OpenClaim := { program := "ytlnekohkbhidnaa", sum := "925736e7b6cd4419f8792232117d9557dd489274cb35f5d800f12344db16e707", func := "tryst/trystlaw02.MacKeys", spec := "macKeys", apart := false, narrowed := true }
def MacKeysUptoSaid : Prop := macKeysUptoRow.holds Try.pinned (OpenSpec.upto macKeysSpec)

/-- 'trystlaw02.MacBegins', WHERE WHAT IT READS IS OF BULK AT MOST 1048576: true; the input reads as it did. -/
def macBeginsUptoRow : OpenClaim := { program := "ytlnekohkbhidnaa", sum := "925736e7b6cd4419f8792232117d9557dd489274cb35f5d800f12344db16e707", func := "tryst/trystlaw02.MacBegins", spec := "macBegins", apart := false, narrowed := true }
def MacBeginsUptoSaid : Prop := macBeginsUptoRow.holds Try.pinned (OpenSpec.upto macBeginsSpec)

/-- 'trystlaw02.MacRows', WHERE WHAT IT READS IS OF BULK AT MOST 1048576: true; the input reads as it did. -/
def macRowsUptoRow : OpenClaim := { program := "ytlnekohkbhidnaa", sum := "925736e7b6cd4419f8792232117d9557dd489274cb35f5d800f12344db16e707", func := "tryst/trystlaw02.MacRows", spec := "macRows", apart := false, narrowed := true }
def MacRowsUptoSaid : Prop := macRowsUptoRow.holds Try.pinned (OpenSpec.upto macRowsSpec)

/-- 'trystlaw02.MacExact', WHERE WHAT IT READS IS OF BULK AT MOST 1048576: true; the input reads as it did. -/
def macExactUptoRow : OpenClaim := { program := "ytlnekohkbhidnaa", sum := "925736e7b6cd4419f8792232117d9557dd489274cb35f5d800f12344db16e707", func := "tryst/trystlaw02.MacExact", spec := "macExact", apart := false, narrowed := true }
def MacExactUptoSaid : Prop := macExactUptoRow.holds Try.pinned (OpenSpec.upto macExactSpec)

/-- 'trystlaw02.MacNone', WHERE WHAT IT READS IS OF BULK AT MOST 1048576: true; the input reads as it did. -/
def macNoneUptoRow : OpenClaim := { program := "ytlnekohkbhidnaa", sum := "925736e7b6cd4419f8792232117d9557dd489274cb35f5d800f12344db16e707", func := "tryst/trystlaw02.MacNone", spec := "macNone", apart := false, narrowed := true }
def MacNoneUptoSaid : Prop := macNoneUptoRow.holds Try.pinned (OpenSpec.upto macNoneSpec)

end Rows
end Go.Proofs.Ytlnekohkbhidnaa
