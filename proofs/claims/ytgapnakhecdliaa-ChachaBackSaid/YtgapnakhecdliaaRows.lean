/-
  No cell of these rows narrows 'for every input' (looked for: loops, veiled, ifaces, maps, wideKeys, modest, calm, conditions, laid).
  DERIVED. THE GIVEN ROWS OF THIS SEAT. 3 by the template 'for every input the law returns true; each argument reads behind the call as it read before'; 0 by the template 'total and deterministic' (their statements: YtgapnakhecdliaaTotals.lean).
  GIVEN WITH THE SEED: the statements are not yours to turn. If you find one false, say at which input.
  Laid BY PROGRAM, IN A SANDBOX (cutbox-rows.mjs): the forced cells as the released guide's own fill.sh prints them over the translation 8c106eab5ca4512a… (all of the seat's roots in one cut). By AI agents, Wed Nov 11 2026. No macro, syntax, notation, axiom, sorry.
-/
import Derived.Test.YtgapnakhecdliaaChecked
import GoSem.Claim
import GoSem.ClaimJoined
import GoSem.ClaimMapViews
import Derived.JoinedTies
import Derived.KernelRfl
namespace Go.Proofs.Ytgapnakhecdliaa
/- THE CELL 'sum', in the pinned program and in every row, IS THE sha256 OF THE DUMP (.gsa) THAT YtgapnakhecdliaaProg.lean LOADS. Nothing in Lean hashes anything: it is a label: what it is worth is what the hold of that sum in a sandbox is worth. -/
noncomputable def Try.pinned : Pinned := { name := "ytgapnakhecdliaa", sum := "8c106eab5ca4512a5a52b2c9ae36add79219adbab4cd1d2a3586f58606c44268", checked := Try.checked }
namespace Rows
def none {H : Type} : Left H := { results := [], args := [] }

/-- 'trystlaw03.ChachaExact': WHATEVER THE INPUT: true; the input reads as it did. -/
def chachaExactSpec : ChangeSpec := { name := "chachaExact", fn := fun _ => fun
  | [d1, d2, d3, d4] => { results := [.lit (.bool true)], args := [d1, d2, d3, d4] }
  | _ => none }
def chachaExactRow : OpenClaim := { program := "ytgapnakhecdliaa", sum := "8c106eab5ca4512a5a52b2c9ae36add79219adbab4cd1d2a3586f58606c44268", func := "tryst/trystlaw03.ChachaExact", spec := "chachaExact", apart := false }
def ChachaExactSaid : Prop := chachaExactRow.holds Try.pinned (OpenSpec.ofChange chachaExactSpec)

/-- ITS FALSE NEIGHBOUR: 'it returns false'. Refute it at one input. -/
def chachaExactWrong : ChangeSpec := { name := "chachaExact", fn := fun _ => fun
  | [d1, d2, d3, d4] => { results := [.lit (.bool false)], args := [d1, d2, d3, d4] }
  | _ => none }
def ChachaExactWrongFalsely : Prop := chachaExactRow.holds Try.pinned (OpenSpec.ofChange chachaExactWrong)

/-- 'trystlaw03.ChachaBack': WHATEVER THE INPUT: true; the input reads as it did. -/
def chachaBackSpec : ChangeSpec := { name := "chachaBack", fn := fun _ => fun
  | [d1, d2, d3, d4, d5] => { results := [.lit (.bool true)], args := [d1, d2, d3, d4, d5] }
  | _ => none }
def chachaBackRow : OpenClaim := { program := "ytgapnakhecdliaa", sum := "8c106eab5ca4512a5a52b2c9ae36add79219adbab4cd1d2a3586f58606c44268", func := "tryst/trystlaw03.ChachaBack", spec := "chachaBack", apart := false }
def ChachaBackSaid : Prop := chachaBackRow.holds Try.pinned (OpenSpec.ofChange chachaBackSpec)

/-- ITS FALSE NEIGHBOUR: 'it returns false'. Refute it at one input. -/
def chachaBackWrong : ChangeSpec := { name := "chachaBack", fn := fun _ => fun
  | [d1, d2, d3, d4, d5] => { results := [.lit (.bool false)], args := [d1, d2, d3, d4, d5] }
  | _ => none }
def ChachaBackWrongFalsely : Prop := chachaBackRow.holds Try.pinned (OpenSpec.ofChange chachaBackWrong)

/-- 'trystlaw03.ChachaMixes': WHATEVER THE INPUT: true; the input reads as it did. -/
def chachaMixesSpec : ChangeSpec := { name := "chachaMixes", fn := fun _ => fun
  | [d1, d2, d3, d4, d5] => { results := [.lit (.bool true)], args := [d1, d2, d3, d4, d5] }
  | _ => none }
def chachaMixesRow : OpenClaim := { program := "ytgapnakhecdliaa", sum := "8c106eab5ca4512a5a52b2c9ae36add79219adbab4cd1d2a3586f58606c44268", func := "tryst/trystlaw03.ChachaMixes", spec := "chachaMixes", apart := false }
def ChachaMixesSaid : Prop := chachaMixesRow.holds Try.pinned (OpenSpec.ofChange chachaMixesSpec)

/-- ITS FALSE NEIGHBOUR: 'it returns false'. Refute it at one input. -/
def chachaMixesWrong : ChangeSpec := { name := "chachaMixes", fn := fun _ => fun
  | [d1, d2, d3, d4, d5] => { results := [.lit (.bool false)], args := [d1, d2, d3, d4, d5] }
  | _ => none }
def ChachaMixesWrongFalsely : Prop := chachaMixesRow.holds Try.pinned (OpenSpec.ofChange chachaMixesWrong)

/- THE SECOND FORM. 'bulk': how many values and letters a reading holds, each counted each time it is reached (what is shared counts as often as it is met; a slice's spare places count too). A statement '..UptoSaid' is the law's where the arguments, and the package variables that the reading takes, are together of bulk at most 1048576: NARROWER than '..Said'. Prove '..Said' where nothing that the law and all that it calls make is longer than what came in: it says more and counts as full. Else prove '..UptoSaid'. A law counts once. -/
mutual
def uptoBulk {H : Type} : DataW H → Nat
  | .lit (.string bytes) => bytes.length + 1
  | .lit _ => 1
  | .nil => 1
  | .ptr d => uptoBulk d + 1
  | .slice elems spare => uptoBulkAll elems + uptoBulkAll spare + 1
  | .agg parts => uptoBulkAll parts + 1
  | .iface _ d => uptoBulk d + 1
  | .map entries => uptoBulkEntries entries + 1
  | .held _ => 1
def uptoBulkAll {H : Type} : List (DataW H) → Nat
  | [] => 0
  | d :: r => uptoBulk d + uptoBulkAll r
def uptoBulkEntries {H : Type} : List (Lit × DataW H) → Nat
  | [] => 0
  | x :: r => uptoBulkEntry x + uptoBulkEntries r
def uptoBulkEntry {H : Type} : Lit × DataW H → Nat
  | (.string bytes, d) => bytes.length + uptoBulk d + 1
  | (_, d) => uptoBulk d + 1
 end
def uptoSmall : (H : Type) → List (DataW H) → Bool := fun _ ds => decide (uptoBulkAll ds ≤ 1048576)
def OpenSpec.upto (s : _root_.Go.ChangeSpec) : _root_.Go.OpenSpec := { _root_.Go.OpenSpec.ofChange s with cond := some uptoSmall }

/-- 'trystlaw03.ChachaExact', WHERE WHAT IT READS IS OF BULK AT MOST 1048576: true; the input reads as it did. -/
def chachaExactUptoRow : OpenClaim := { program := "ytgapnakhecdliaa", sum := "8c106eab5ca4512a5a52b2c9ae36add79219adbab4cd1d2a3586f58606c44268", func := "tryst/trystlaw03.ChachaExact", spec := "chachaExact", apart := false, narrowed := true }
def ChachaExactUptoSaid : Prop := chachaExactUptoRow.holds Try.pinned (OpenSpec.upto chachaExactSpec)

/-- 'trystlaw03.ChachaBack', WHERE WHAT IT READS IS OF BULK AT MOST 1048576: true; the input reads as it did. -/
def chachaBackUptoRow : OpenClaim := { program := "ytgapnakhecdliaa", sum := "8c106eab5ca4512a5a52b2c9ae36add79219adbab4cd1d2a3586f58606c44268", func := "tryst/trystlaw03.ChachaBack", spec := "chachaBack", apart := false, narrowed := true }
def ChachaBackUptoSaid : Prop := chachaBackUptoRow.holds Try.pinned (OpenSpec.upto chachaBackSpec)

/-- 'trystlaw03.ChachaMixes', WHERE WHAT IT READS IS OF BULK AT MOST 1048576: true; the input reads as it did. -/
def chachaMixesUptoRow : OpenClaim := { program := "ytgapnakhecdliaa", sum := "8c106eab5ca4512a5a52b2c9ae36add79219adbab4cd1d2a3586f58606c44268", func := "tryst/trystlaw03.ChachaMixes", spec := "chachaMixes", apart := false, narrowed := true }
def ChachaMixesUptoSaid : Prop := chachaMixesUptoRow.holds Try.pinned (OpenSpec.upto chachaMixesSpec)

end Rows
end Go.Proofs.Ytgapnakhecdliaa
