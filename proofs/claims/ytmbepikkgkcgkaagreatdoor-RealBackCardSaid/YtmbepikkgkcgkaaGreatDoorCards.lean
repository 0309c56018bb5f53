/-
  DERIVED. GIVEN WITH THE SEED: THE CARDS: each row of YtmbepikkgkcgkaaGreatDoorRows.lean that lists a variable, with what it lists TIED to the program's text (the seventh form; the later family's looks); each row that meets fmt, with fmt's text TOLD by the authors' own Lean function (tested against real Go, not proved from fmt's source: count such statements apart). THE CARD IS WHAT COUNTS. Prove the row's statement (the work); the ties are given (YtmbepikkgkcgkaaGreatDoorTie.lean); close each card by the builder's one call (the guide's Derived/Test/ToyasCard.lean, 'card_holds'). Laid BY PROGRAM, IN A SANDBOX (cutbox-door.mjs). By AI agents, Wed Nov 11 2026. No macro, syntax, notation, axiom, sorry.
-/
import Derived.Test.YtmbepikkgkcgkaaGreatDoorRows
import GoSem.ClaimSeven
namespace Go.Proofs.YtmbepikkgkcgkaaGreatDoor
namespace Rows

/-- THE TIED CARD OF 'trystlaw12.RealParts'. -/
def realPartsCard : Claim7 := { stood := { row := realPartsRow, standIns := [], harness := (true, "f5ba73b92c82f20ae633c3d3275626f54160b228337a868e8977dc988158c5ae"), looks := false }, kinds := [], alts := [], laidByText := true, laidKinds := [.data, .data, .data], laidTests := true, laidLooks := .later }
def RealPartsCardSaid : Prop := Claim7.holds Tryz.pinned (.plain (OpenSpec.ofChange realPartsSpec)) realPartsCard

/-- THE TIED CARD OF 'trystlaw12.RealAlike'. -/
def realAlikeCard : Claim7 := { stood := { row := realAlikeRow, standIns := [], harness := (true, "f5ba73b92c82f20ae633c3d3275626f54160b228337a868e8977dc988158c5ae"), looks := false }, kinds := [], alts := [], laidByText := true, laidKinds := [.data, .data, .data], laidTests := true, laidLooks := .later }
def RealAlikeCardSaid : Prop := Claim7.holds Tryz.pinned (.plain (OpenSpec.ofChange realAlikeSpec)) realAlikeCard

/-- THE TIED CARD OF 'trystlaw12.RealLengths'. -/
def realLengthsCard : Claim7 := { stood := { row := realLengthsRow, standIns := [], harness := (true, "f5ba73b92c82f20ae633c3d3275626f54160b228337a868e8977dc988158c5ae"), looks := false }, kinds := [], alts := [], laidByText := true, laidKinds := [.data, .data, .data], laidTests := true, laidLooks := .later }
def RealLengthsCardSaid : Prop := Claim7.holds Tryz.pinned (.plain (OpenSpec.ofChange realLengthsSpec)) realLengthsCard

/-- THE TIED CARD OF 'trystlaw12.RealOpens'. -/
def realOpensCard : Claim7 := { stood := { row := realOpensRow, standIns := [], harness := (true, "f5ba73b92c82f20ae633c3d3275626f54160b228337a868e8977dc988158c5ae"), looks := false }, kinds := [], alts := [], laidByText := true, laidKinds := [.data, .data, .data], laidTests := true, laidLooks := .later }
def RealOpensCardSaid : Prop := Claim7.holds Tryz.pinned (.plain (OpenSpec.ofChange realOpensSpec)) realOpensCard

/-- THE TIED CARD OF 'trystlaw12.RealKinds'. -/
def realKindsCard : Claim7 := { stood := { row := realKindsRow, standIns := [], harness := (true, "f5ba73b92c82f20ae633c3d3275626f54160b228337a868e8977dc988158c5ae"), looks := false }, kinds := [], alts := [], laidByText := true, laidKinds := [.data, .data, .data], laidTests := true, laidLooks := .later }
def RealKindsCardSaid : Prop := Claim7.holds Tryz.pinned (.plain (OpenSpec.ofChange realKindsSpec)) realKindsCard

/-- THE TIED CARD OF 'trystlaw12.RealBack'. -/
def realBackCard : Claim7 := { stood := { row := realBackRow, standIns := [], harness := (true, "f5ba73b92c82f20ae633c3d3275626f54160b228337a868e8977dc988158c5ae"), looks := false }, kinds := [], alts := [], laidByText := true, laidKinds := [.data, .data, .data], laidTests := true, laidLooks := .later }
def RealBackCardSaid : Prop := Claim7.holds Tryz.pinned (.plain (OpenSpec.ofChange realBackSpec)) realBackCard

/-- THE SECOND FORM's CARD OF 'trystlaw12.RealParts'. -/
def realPartsUptoCard : Claim7 := { stood := { row := realPartsUptoRow, standIns := [], harness := (true, "f5ba73b92c82f20ae633c3d3275626f54160b228337a868e8977dc988158c5ae"), looks := false }, kinds := [], alts := [], laidByText := true, laidKinds := [.data, .data, .data], laidTests := true, laidLooks := .later }
def RealPartsUptoCardSaid : Prop := Claim7.holds Tryz.pinned (.plain (OpenSpec.upto realPartsSpec)) realPartsUptoCard

/-- THE SECOND FORM's CARD OF 'trystlaw12.RealAlike'. -/
def realAlikeUptoCard : Claim7 := { stood := { row := realAlikeUptoRow, standIns := [], harness := (true, "f5ba73b92c82f20ae633c3d3275626f54160b228337a868e8977dc988158c5ae"), looks := false }, kinds := [], alts := [], laidByText := true, laidKinds := [.data, .data, .data], laidTests := true, laidLooks := .later }
def RealAlikeUptoCardSaid : Prop := Claim7.holds Tryz.pinned (.plain (OpenSpec.upto realAlikeSpec)) realAlikeUptoCard

/-- THE SECOND FORM's CARD OF 'trystlaw12.RealLengths'. -/
def realLengthsUptoCard : Claim7 := { stood := { row := realLengthsUptoRow, standIns := [], harness := (true, "f5ba73b92c82f20ae633c3d3275626f54160b228337a868e8977dc988158c5ae"), looks := false }, kinds := [], alts := [], laidByText := true, laidKinds := [.data, .data, .data], laidTests := true, laidLooks := .later }
def RealLengthsUptoCardSaid : Prop := Claim7.holds Tryz.pinned (.plain (OpenSpec.upto realLengthsSpec)) realLengthsUptoCard

/-- THE SECOND FORM's CARD OF 'trystlaw12.RealOpens'. -/
def realOpensUptoCard : Claim7 := { stood := { row := realOpensUptoRow, standIns := [], harness := (true, "f5ba73b92c82f20ae633c3d3275626f54160b228337a868e8977dc988158c5ae"), looks := false }, kinds := [], alts := [], laidByText := true, laidKinds := [.data, .data, .data], laidTests := true, laidLooks := .later }
def RealOpensUptoCardSaid : Prop := Claim7.holds Tryz.pinned (.plain (OpenSpec.upto realOpensSpec)) realOpensUptoCard

/-- THE SECOND FORM's CARD OF 'trystlaw12.RealKinds'. -/
def realKindsUptoCard : Claim7 := { stood := { row := realKindsUptoRow, standIns := [], harness := (true, "f5ba73b92c82f20ae633c3d3275626f54160b228337a868e8977dc988158c5ae"), looks := false }, kinds := [], alts := [], laidByText := true, laidKinds := [.data, .data, .data], laidTests := true, laidLooks := .later }
def RealKindsUptoCardSaid : Prop := Claim7.holds Tryz.pinned (.plain (OpenSpec.upto realKindsSpec)) realKindsUptoCard

/-- THE SECOND FORM's CARD OF 'trystlaw12.RealBack'. -/
def realBackUptoCard : Claim7 := { stood := { row := realBackUptoRow, standIns := [], harness := (true, "f5ba73b92c82f20ae633c3d3275626f54160b228337a868e8977dc988158c5ae"), looks := false }, kinds := [], alts := [], laidByText := true, laidKinds := [.data, .data, .data], laidTests := true, laidLooks := .later }
def RealBackUptoCardSaid : Prop := Claim7.holds Tryz.pinned (.plain (OpenSpec.upto realBackSpec)) realBackUptoCard
end Rows
end Go.Proofs.YtmbepikkgkcgkaaGreatDoor
