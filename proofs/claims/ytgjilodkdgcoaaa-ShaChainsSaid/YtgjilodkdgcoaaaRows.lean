/-
  No cell of these rows narrows 'for every input' (looked for: loops, veiled, ifaces, maps, wideKeys, modest, calm, conditions, laid).
  DERIVED. THE GIVEN ROWS OF THIS SEAT. 5 by the template 'for every input the law returns true; each argument reads behind the call as it read before'; 0 by the template 'total and deterministic' (their statements: YtgjilodkdgcoaaaTotals.lean).
  GIVEN WITH THE SEED: the statements are not yours to turn. If you find one false, say at which input.
  Laid BY PROGRAM, IN A SANDBOX (cutbox-rows.mjs): the forced cells as the released guide's own fill.sh prints them over the translation 591d889e67c39163… (all of the seat's roots in one cut). By AI agents, Wed Nov 11 2026. No macro, syntax, notation, axiom, sorry.
-/
import Derived.Test.YtgjilodkdgcoaaaChecked
import GoSem.Claim
import GoSem.ClaimJoined
import GoSem.ClaimMapViews
import Derived.JoinedTies
import Derived.KernelRfl
namespace Go.Proofs.Ytgjilodkdgcoaaa
/- THE CELL 'sum', in the pinned program and in every row, IS THE sha256 OF THE DUMP (.gsa) THAT YtgjilodkdgcoaaaProg.lean LOADS. Nothing in Lean hashes anything: it is a label: what it is worth is what the hold of that sum in a sandbox is worth. -/
noncomputable def Try.pinned : Pinned := { name := "ytgjilodkdgcoaaa", sum := "591d889e67c391631a00d4b5b17aba7b99f8a5f4caed7b44b79628a3ff5b7254", checked := Try.checked }
namespace Rows
def none {H : Type} : Left H := { results := [], args := [] }

/-- 'trystlaw01.ShaExact': WHATEVER THE INPUT: true; the input reads as it did. -/
def shaExactSpec : ChangeSpec := { name := "shaExact", fn := fun _ => fun
  | [d] => { results := [.lit (.bool true)], args := [d] }
  | _ => none }
def shaExactRow : OpenClaim := { program := "ytgjilodkdgcoaaa", sum := "591d889e67c391631a00d4b5b17aba7b99f8a5f4caed7b44b79628a3ff5b7254", func := "tryst/trystlaw01.ShaExact", spec := "shaExact", apart := false }
def ShaExactSaid : Prop := shaExactRow.holds Try.pinned (OpenSpec.ofChange shaExactSpec)

/-- ITS FALSE NEIGHBOUR: 'it returns false'. Refute it at one input. -/
def shaExactWrong : ChangeSpec := { name := "shaExact", fn := fun _ => fun
  | [d] => { results := [.lit (.bool false)], args := [d] }
  | _ => none }
def ShaExactWrongFalsely : Prop := shaExactRow.holds Try.pinned (OpenSpec.ofChange shaExactWrong)

/-- 'trystlaw01.ShaRuns': WHATEVER THE INPUT: true; the input reads as it did. -/
def shaRunsSpec : ChangeSpec := { name := "shaRuns", fn := fun _ => fun
  | [d1, d2] => { results := [.lit (.bool true)], args := [d1, d2] }
  | _ => none }
def shaRunsRow : OpenClaim := { program := "ytgjilodkdgcoaaa", sum := "591d889e67c391631a00d4b5b17aba7b99f8a5f4caed7b44b79628a3ff5b7254", func := "tryst/trystlaw01.ShaRuns", spec := "shaRuns", apart := false }
def ShaRunsSaid : Prop := shaRunsRow.holds Try.pinned (OpenSpec.ofChange shaRunsSpec)

/-- ITS FALSE NEIGHBOUR: 'it returns false'. Refute it at one input. -/
def shaRunsWrong : ChangeSpec := { name := "shaRuns", fn := fun _ => fun
  | [d1, d2] => { results := [.lit (.bool false)], args := [d1, d2] }
  | _ => none }
def ShaRunsWrongFalsely : Prop := shaRunsRow.holds Try.pinned (OpenSpec.ofChange shaRunsWrong)

/-- 'trystlaw01.ShaAlone': WHATEVER THE INPUT: true; the input reads as it did. -/
def shaAloneSpec : ChangeSpec := { name := "shaAlone", fn := fun _ => fun
  | [d1, d2, d3] => { results := [.lit (.bool true)], args := [d1, d2, d3] }
  | _ => none }
def shaAloneRow : OpenClaim := { program := "ytgjilodkdgcoaaa", sum := "591d889e67c391631a00d4b5b17aba7b99f8a5f4caed7b44b79628a3ff5b7254", func := "tryst/trystlaw01.ShaAlone", spec := "shaAlone", apart := false }
def ShaAloneSaid : Prop := shaAloneRow.holds Try.pinned (OpenSpec.ofChange shaAloneSpec)

/-- ITS FALSE NEIGHBOUR: 'it returns false'. Refute it at one input. -/
def shaAloneWrong : ChangeSpec := { name := "shaAlone", fn := fun _ => fun
  | [d1, d2, d3] => { results := [.lit (.bool false)], args := [d1, d2, d3] }
  | _ => none }
def ShaAloneWrongFalsely : Prop := shaAloneRow.holds Try.pinned (OpenSpec.ofChange shaAloneWrong)

/-- 'trystlaw01.ShaLengths': WHATEVER THE INPUT: true; the input reads as it did. -/
def shaLengthsSpec : ChangeSpec := { name := "shaLengths", fn := fun _ => fun
  | [] => { results := [.lit (.bool true)], args := [] }
  | _ => none }
def shaLengthsRow : OpenClaim := { program := "ytgjilodkdgcoaaa", sum := "591d889e67c391631a00d4b5b17aba7b99f8a5f4caed7b44b79628a3ff5b7254", func := "tryst/trystlaw01.ShaLengths", spec := "shaLengths", apart := false }
def ShaLengthsSaid : Prop := shaLengthsRow.holds Try.pinned (OpenSpec.ofChange shaLengthsSpec)

/-- ITS FALSE NEIGHBOUR: 'it returns false'. Refute it at one input. -/
def shaLengthsWrong : ChangeSpec := { name := "shaLengths", fn := fun _ => fun
  | [] => { results := [.lit (.bool false)], args := [] }
  | _ => none }
def ShaLengthsWrongFalsely : Prop := shaLengthsRow.holds Try.pinned (OpenSpec.ofChange shaLengthsWrong)

/-- 'trystlaw01.ShaChains': WHATEVER THE INPUT: true; the input reads as it did. -/
def shaChainsSpec : ChangeSpec := { name := "shaChains", fn := fun _ => fun
  | [d1, d2] => { results := [.lit (.bool true)], args := [d1, d2] }
  | _ => none }
def shaChainsRow : OpenClaim := { program := "ytgjilodkdgcoaaa", sum := "591d889e67c391631a00d4b5b17aba7b99f8a5f4caed7b44b79628a3ff5b7254", func := "tryst/trystlaw01.ShaChains", spec := "shaChains", apart := false }
def ShaChainsSaid : Prop := shaChainsRow.holds Try.pinned (OpenSpec.ofChange shaChainsSpec)

/-- ITS FALSE NEIGHBOUR: 'it returns false'. Refute it at one input. -/
def shaChainsWrong : ChangeSpec := { name := "shaChains", fn := fun _ => fun
  | [d1, d2] => { results := [.lit (.bool false)], args := [d1, d2] }
  | _ => none }
def ShaChainsWrongFalsely : Prop := shaChainsRow.holds Try.pinned (OpenSpec.ofChange shaChainsWrong)

/- THE SECOND FORM. 'bulk': how many values and letters a reading holds, each counted each time it is reached (what is shared counts as often as it is met; a slice's spare places count too). A statement '..UptoSaid' is the law's where the arguments, and the package variables that the reading takes, are together of bulk at most 1048576: NARROWER than '..Said'. Prove '..Said' where nothing that the law and all that it calls make is longer than what came in: it says more and counts as full. Else prove '..UptoSaid'. A law counts once. -/
mutual
def uptoBulk {H : Type} : DataW H → Nat
  | .lit (.string bytes) => bytes.length + 1
  | .lit _ => 1
  | .nil => 1
  | .ptr d => uptoBulk d + 1
  | .slice elems spare => uptoBulkAll elems + uptoBulkAll spare + 1
  | .agg parts => uptoBulkAll parts + 1
  | .iface _ d => uptoBulk d + 1
  | .map entries => uptoBulkEntries entries + 1
  | .held _ => 1
def uptoBulkAll {H : Type} : List (DataW H) → Nat
  | [] => 0
  | d :: r => uptoBulk d + uptoBulkAll r
def uptoBulkEntries {H : Type} : List (Lit × DataW H) → Nat
  | [] => 0
  | x :: r => uptoBulkEntry x + uptoBulkEntries r
def uptoBulkEntry {H : Type} : Lit × DataW H → Nat
  | (.string bytes, d) => bytes.length + uptoBulk d + 1
  | (_, d) => uptoBulk d + 1
 end
def uptoSmall : (H : Type) → List (DataW H) → Bool := fun _ ds => decide (uptoBulkAll ds ≤ 1048576)
def OpenSpec.upto (s : _root_.Go.ChangeSpec) : _root_.Go.OpenSpec := { _root_.Go.OpenSpec.ofChange s with cond := some uptoSmall }

/-- 'trystlaw01.ShaExact', WHERE WHAT IT READS IS OF BULK AT MOST 1048576: true; the input reads as it did. -/
def shaExactUptoRow : OpenClaim := { program := "ytgjilodkdgcoaaa", sum := "591d889e67c391631a00d4b5b17aba7b99f8a5f4caed7b44b79628a3ff5b7254", func := "tryst/trystlaw01.ShaExact", spec := "shaExact", apart := false, narrowed := true }
def ShaExactUptoSaid : Prop := shaExactUptoRow.holds Try.pinned (OpenSpec.upto shaExactSpec)

/-- 'trystlaw01.ShaRuns', WHERE WHAT IT READS IS OF BULK AT MOST 1048576: true; the input reads as it did. -/
def shaRunsUptoRow : OpenClaim := { program := "ytgjilodkdgcoaaa", sum := "591d889e67c391631a00d4b5b17aba7b99f8a5f4caed7b44b79628a3ff5b7254", func := "tryst/trystlaw01.ShaRuns", spec := "shaRuns", apart := false, narrowed := true }
def ShaRunsUptoSaid : Prop := shaRunsUptoRow.holds Try.pinned (OpenSpec.upto shaRunsSpec)

/-- 'trystlaw01.ShaAlone', WHERE WHAT IT READS IS OF BULK AT MOST 1048576: true; the input reads as it did. -/
def shaAloneUptoRow : OpenClaim := { program := "ytgjilodkdgcoaaa", sum := "591d889e67c391631a00d4b5b17aba7b99f8a5f4caed7b44b79628a3ff5b7254", func := "tryst/trystlaw01.ShaAlone", spec := "shaAlone", apart := false, narrowed := true }
def ShaAloneUptoSaid : Prop := shaAloneUptoRow.holds Try.pinned (OpenSpec.upto shaAloneSpec)

/-- 'trystlaw01.ShaLengths', WHERE WHAT IT READS IS OF BULK AT MOST 1048576: true; the input reads as it did. -/
def shaLengthsUptoRow : OpenClaim := { program := "ytgjilodkdgcoaaa", sum := "591d889e67c391631a00d4b5b17aba7b99f8a5f4caed7b44b79628a3ff5b7254", func := "tryst/trystlaw01.ShaLengths", spec := "shaLengths", apart := false, narrowed := true }
def ShaLengthsUptoSaid : Prop := shaLengthsUptoRow.holds Try.pinned (OpenSpec.upto shaLengthsSpec)

/-- 'trystlaw01.ShaChains', WHERE WHAT IT READS IS OF BULK AT MOST 1048576: true; the input reads as it did. -/
def shaChainsUptoRow : OpenClaim := { program := "ytgjilodkdgcoaaa", sum := "591d889e67c391631a00d4b5b17aba7b99f8a5f4caed7b44b79628a3ff5b7254", func := "tryst/trystlaw01.ShaChains", spec := "shaChains", apart := false, narrowed := true }
def ShaChainsUptoSaid : Prop := shaChainsUptoRow.holds Try.pinned (OpenSpec.upto shaChainsSpec)

end Rows
end Go.Proofs.Ytgjilodkdgcoaaa
