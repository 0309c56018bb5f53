/-
  No cell of these rows narrows 'for every input' (looked for: loops, veiled, ifaces, maps, wideKeys, modest, calm, conditions, laid).
  DERIVED. THE GIVEN ROWS OF THIS SEAT. 6 by the template 'for every input the law returns true; each argument reads behind the call as it read before'; 0 by the template 'total and deterministic' (their statements: YtcgncafhonlmlaaTotals.lean).
  GIVEN WITH THE SEED: the statements are not yours to turn. If you find one false, say at which input.
  Laid BY PROGRAM, IN A SANDBOX (cutbox-rows.mjs): the forced cells as the released guide's own fill.sh prints them over the translation b5ec8b3b5ad23e2d… (all of the seat's roots in one cut). By AI agents, Wed Nov 11 2026. No macro, syntax, notation, axiom, sorry.
-/
import Derived.Test.YtcgncafhonlmlaaChecked
import GoSem.Claim
import GoSem.ClaimJoined
import GoSem.ClaimMapViews
import Derived.JoinedTies
import Derived.KernelRfl
namespace Go.Proofs.Ytcgncafhonlmlaa
/- THE CELL 'sum', in the pinned program and in every row, IS THE sha256 OF THE DUMP (.gsa) THAT YtcgncafhonlmlaaProg.lean LOADS. Nothing in Lean hashes anything: it is a label: what it is worth is what the hold of that sum in a sandbox is worth. -/
noncomputable def Try.pinned : Pinned := { name := "ytcgncafhonlmlaa", sum := "b5ec8b3b5ad23e2db8401427dcfafc884874d7da7ff9d66f50602028335410b6", checked := Try.checked }
namespace Rows
def none {H : Type} : Left H := { results := [], args := [] }

/-- 'trystlaw09.SignExact': WHATEVER THE INPUT: true; the input reads as it did. -/
def signExactSpec : ChangeSpec := { name := "signExact", fn := fun _ => fun
  | [d1, d2] => { results := [.lit (.bool true)], args := [d1, d2] }
  | _ => none }
def signExactRow : OpenClaim := { program := "ytcgncafhonlmlaa", sum := "b5ec8b3b5ad23e2db8401427dcfafc884874d7da7ff9d66f50602028335410b6", func := "tryst/trystlaw09.SignExact", spec := "signExact", inPlace := ["math/bits.Add64", "math/bits.Sub64"], apart := false }
def SignExactSaid : Prop := signExactRow.holds Try.pinned (OpenSpec.ofChange signExactSpec)

/-- ITS FALSE NEIGHBOUR: 'it returns false'. Refute it at one input. -/
def signExactWrong : ChangeSpec := { name := "signExact", fn := fun _ => fun
  | [d1, d2] => { results := [.lit (.bool false)], args := [d1, d2] }
  | _ => none }
def SignExactWrongFalsely : Prop := signExactRow.holds Try.pinned (OpenSpec.ofChange signExactWrong)

/-- 'trystlaw09.SignTwice': WHATEVER THE INPUT: true; the input reads as it did. -/
def signTwiceSpec : ChangeSpec := { name := "signTwice", fn := fun _ => fun
  | [d1, d2] => { results := [.lit (.bool true)], args := [d1, d2] }
  | _ => none }
def signTwiceRow : OpenClaim := { program := "ytcgncafhonlmlaa", sum := "b5ec8b3b5ad23e2db8401427dcfafc884874d7da7ff9d66f50602028335410b6", func := "tryst/trystlaw09.SignTwice", spec := "signTwice", inPlace := ["math/bits.Add64", "math/bits.Sub64"], apart := false }
def SignTwiceSaid : Prop := signTwiceRow.holds Try.pinned (OpenSpec.ofChange signTwiceSpec)

/-- ITS FALSE NEIGHBOUR: 'it returns false'. Refute it at one input. -/
def signTwiceWrong : ChangeSpec := { name := "signTwice", fn := fun _ => fun
  | [d1, d2] => { results := [.lit (.bool false)], args := [d1, d2] }
  | _ => none }
def SignTwiceWrongFalsely : Prop := signTwiceRow.holds Try.pinned (OpenSpec.ofChange signTwiceWrong)

/-- 'trystlaw09.SignLooks': WHATEVER THE INPUT: true; the input reads as it did. -/
def signLooksSpec : ChangeSpec := { name := "signLooks", fn := fun _ => fun
  | [d1, d2, d3] => { results := [.lit (.bool true)], args := [d1, d2, d3] }
  | _ => none }
def signLooksRow : OpenClaim := { program := "ytcgncafhonlmlaa", sum := "b5ec8b3b5ad23e2db8401427dcfafc884874d7da7ff9d66f50602028335410b6", func := "tryst/trystlaw09.SignLooks", spec := "signLooks", inPlace := ["math/bits.Sub64", "math/bits.Add64"], apart := false }
def SignLooksSaid : Prop := signLooksRow.holds Try.pinned (OpenSpec.ofChange signLooksSpec)

/-- ITS FALSE NEIGHBOUR: 'it returns false'. Refute it at one input. -/
def signLooksWrong : ChangeSpec := { name := "signLooks", fn := fun _ => fun
  | [d1, d2, d3] => { results := [.lit (.bool false)], args := [d1, d2, d3] }
  | _ => none }
def SignLooksWrongFalsely : Prop := signLooksRow.holds Try.pinned (OpenSpec.ofChange signLooksWrong)

/-- 'trystlaw09.SignLong': WHATEVER THE INPUT: true; the input reads as it did. -/
def signLongSpec : ChangeSpec := { name := "signLong", fn := fun _ => fun
  | [d1, d2] => { results := [.lit (.bool true)], args := [d1, d2] }
  | _ => none }
def signLongRow : OpenClaim := { program := "ytcgncafhonlmlaa", sum := "b5ec8b3b5ad23e2db8401427dcfafc884874d7da7ff9d66f50602028335410b6", func := "tryst/trystlaw09.SignLong", spec := "signLong", inPlace := ["math/bits.Add64", "math/bits.Sub64"], apart := false }
def SignLongSaid : Prop := signLongRow.holds Try.pinned (OpenSpec.ofChange signLongSpec)

/-- ITS FALSE NEIGHBOUR: 'it returns false'. Refute it at one input. -/
def signLongWrong : ChangeSpec := { name := "signLong", fn := fun _ => fun
  | [d1, d2] => { results := [.lit (.bool false)], args := [d1, d2] }
  | _ => none }
def SignLongWrongFalsely : Prop := signLongRow.holds Try.pinned (OpenSpec.ofChange signLongWrong)

/-- 'trystlaw09.SignNeutral': WHATEVER THE INPUT: true; the input reads as it did. -/
def signNeutralSpec : ChangeSpec := { name := "signNeutral", fn := fun _ => fun
  | [d1, d2] => { results := [.lit (.bool true)], args := [d1, d2] }
  | _ => none }
def signNeutralRow : OpenClaim := { program := "ytcgncafhonlmlaa", sum := "b5ec8b3b5ad23e2db8401427dcfafc884874d7da7ff9d66f50602028335410b6", func := "tryst/trystlaw09.SignNeutral", spec := "signNeutral", inPlace := ["math/bits.Add64", "math/bits.Sub64"], apart := false }
def SignNeutralSaid : Prop := signNeutralRow.holds Try.pinned (OpenSpec.ofChange signNeutralSpec)

/-- ITS FALSE NEIGHBOUR: 'it returns false'. Refute it at one input. -/
def signNeutralWrong : ChangeSpec := { name := "signNeutral", fn := fun _ => fun
  | [d1, d2] => { results := [.lit (.bool false)], args := [d1, d2] }
  | _ => none }
def SignNeutralWrongFalsely : Prop := signNeutralRow.holds Try.pinned (OpenSpec.ofChange signNeutralWrong)

/-- 'trystlaw09.SignBack': WHATEVER THE INPUT: true; the input reads as it did. -/
def signBackSpec : ChangeSpec := { name := "signBack", fn := fun _ => fun
  | [d1, d2] => { results := [.lit (.bool true)], args := [d1, d2] }
  | _ => none }
def signBackRow : OpenClaim := { program := "ytcgncafhonlmlaa", sum := "b5ec8b3b5ad23e2db8401427dcfafc884874d7da7ff9d66f50602028335410b6", func := "tryst/trystlaw09.SignBack", spec := "signBack", inPlace := ["math/bits.Add64", "math/bits.Sub64"], apart := false }
def SignBackSaid : Prop := signBackRow.holds Try.pinned (OpenSpec.ofChange signBackSpec)

/-- ITS FALSE NEIGHBOUR: 'it returns false'. Refute it at one input. -/
def signBackWrong : ChangeSpec := { name := "signBack", fn := fun _ => fun
  | [d1, d2] => { results := [.lit (.bool false)], args := [d1, d2] }
  | _ => none }
def SignBackWrongFalsely : Prop := signBackRow.holds Try.pinned (OpenSpec.ofChange signBackWrong)

/- THE SECOND FORM. 'bulk': how many values and letters a reading holds, each counted each time it is reached (what is shared counts as often as it is met; a slice's spare places count too). A statement '..UptoSaid' is the law's where the arguments, and the package variables that the reading takes, are together of bulk at most 1048576: NARROWER than '..Said'. Prove '..Said' where nothing that the law and all that it calls make is longer than what came in: it says more and counts as full. Else prove '..UptoSaid'. A law counts once. -/
mutual
def uptoBulk {H : Type} : DataW H → Nat
  | .lit (.string bytes) => bytes.length + 1
  | .lit _ => 1
  | .nil => 1
  | .ptr d => uptoBulk d + 1
  | .slice elems spare => uptoBulkAll elems + uptoBulkAll spare + 1
  | .agg parts => uptoBulkAll parts + 1
  | .iface _ d => uptoBulk d + 1
  | .map entries => uptoBulkEntries entries + 1
  | .held _ => 1
def uptoBulkAll {H : Type} : List (DataW H) → Nat
  | [] => 0
  | d :: r => uptoBulk d + uptoBulkAll r
def uptoBulkEntries {H : Type} : List (Lit × DataW H) → Nat
  | [] => 0
  | x :: r => uptoBulkEntry x + uptoBulkEntries r
def uptoBulkEntry {H : Type} : Lit × DataW H → Nat
  | (.string bytes, d) => bytes.length + uptoBulk d + 1
  | (_, d) => uptoBulk d + 1
 end
def uptoSmall : (H : Type) → List (DataW H) → Bool := fun _ ds => decide (uptoBulkAll ds ≤ 1048576)
def OpenSpec.upto (s : _root_.Go.ChangeSpec) : _root_.Go.OpenSpec := { _root_.Go.OpenSpec.ofChange s with cond := some uptoSmall }

/-- 'trystlaw09.SignExact', WHERE WHAT IT READS IS OF BULK AT MOST 1048576: true; the input reads as it did. -/
def signExactUptoRow : OpenClaim := { program := "ytcgncafhonlmlaa", sum := "b5ec8b3b5ad23e2db8401427dcfafc884874d7da7ff9d66f50602028335410b6", func := "tryst/trystlaw09.SignExact", spec := "signExact", inPlace := ["math/bits.Add64", "math/bits.Sub64"], apart := false, narrowed := true }
def SignExactUptoSaid : Prop := signExactUptoRow.holds Try.pinned (OpenSpec.upto signExactSpec)

/-- 'trystlaw09.SignTwice', WHERE WHAT IT READS IS OF BULK AT MOST 1048576: true; the input reads as it did. -/
def signTwiceUptoRow : OpenClaim := { program := "ytcgncafhonlmlaa", sum := "b5ec8b3b5ad23e2db8401427dcfafc884874d7da7ff9d66f50602028335410b6", func := "tryst/trystlaw09.SignTwice", spec := "signTwice", inPlace := ["math/bits.Add64", "math/bits.Sub64"], apart := false, narrowed := true }
def SignTwiceUptoSaid : Prop := signTwiceUptoRow.holds Try.pinned (OpenSpec.upto signTwiceSpec)

/-- 'trystlaw09.SignLooks', WHERE WHAT IT READS IS OF BULK AT MOST 1048576: true; the input reads as it did. -/
def signLooksUptoRow : OpenClaim := { program := "ytcgncafhonlmlaa", sum := "b5ec8b3b5ad23e2db8401427dcfafc884874d7da7ff9d66f50602028335410b6", func := "tryst/trystlaw09.SignLooks", spec := "signLooks", inPlace := ["math/bits.Sub64", "math/bits.Add64"], apart := false, narrowed := true }
def SignLooksUptoSaid : Prop := signLooksUptoRow.holds Try.pinned (OpenSpec.upto signLooksSpec)

/-- 'trystlaw09.SignLong', WHERE WHAT IT READS IS OF BULK AT MOST 1048576: true; the input reads as it did. -/
def signLongUptoRow : OpenClaim := { program := "ytcgncafhonlmlaa", sum := "b5ec8b3b5ad23e2db8401427dcfafc884874d7da7ff9d66f50602028335410b6", func := "tryst/trystlaw09.SignLong", spec := "signLong", inPlace := ["math/bits.Add64", "math/bits.Sub64"], apart := false, narrowed := true }
def SignLongUptoSaid : Prop := signLongUptoRow.holds Try.pinned (OpenSpec.upto signLongSpec)

/-- 'trystlaw09.SignNeutral', WHERE WHAT IT READS IS OF BULK AT MOST 1048576: true; the input reads as it did. -/
def signNeutralUptoRow : OpenClaim := { program := "ytcgncafhonlmlaa", sum := "b5ec8b3b5ad23e2db8401427dcfafc884874d7da7ff9d66f50602028335410b6", func := "tryst/trystlaw09.SignNeutral", spec := "signNeutral", inPlace := ["math/bits.Add64", "math/bits.Sub64"], apart := false, narrowed := true }
def SignNeutralUptoSaid : Prop := signNeutralUptoRow.holds Try.pinned (OpenSpec.upto signNeutralSpec)

/-- 'trystlaw09.SignBack', WHERE WHAT IT READS IS OF BULK AT MOST 1048576: true; the input reads as it did. -/
def signBackUptoRow : OpenClaim := { program := "ytcgncafhonlmlaa", sum := "b5ec8b3b5ad23e2db8401427dcfafc884874d7da7ff9d66f50602028335410b6", func := "tryst/trystlaw09.SignBack", spec := "signBack", inPlace := ["math/bits.Add64", "math/bits.Sub64"], apart := false, narrowed := true }
def SignBackUptoSaid : Prop := signBackUptoRow.holds Try.pinned (OpenSpec.upto signBackSpec)

end Rows
end Go.Proofs.Ytcgncafhonlmlaa
