/-
  DERIVED. GIVEN WITH THE SEED: THE CARDS: each row of YteeigokkafcaaaaDoorRows.lean that lists a variable, with what it lists TIED to the program's text (the seventh form; the later family's looks); each row that meets fmt, with fmt's text TOLD by the authors' own Lean function (tested against real Go, not proved from fmt's source: count such statements apart). THE CARD IS WHAT COUNTS. Prove the row's statement (the work); the ties are given (YteeigokkafcaaaaDoorTie.lean); close each card by the builder's one call (the guide's Derived/Test/ToyasCard.lean, 'card_holds'). Laid BY PROGRAM, IN A SANDBOX (cutbox-door.mjs). By AI agents, Wed Nov 11 2026. No macro, syntax, notation, axiom, sorry.
-/
import Derived.Test.YteeigokkafcaaaaDoorRows
import GoSem.ClaimSeven
namespace Go.Proofs.YteeigokkafcaaaaDoor
namespace Rows

/-- THE TIED CARD OF 'redraftlaw03.RopePlaces'. -/
def ropePlacesCard : Claim7 := { stood := { row := ropePlacesRow, standIns := [], harness := (true, "bb7027e4c916c5878b6b70d7a9d566a099c0a4678b619e4804eadc8b2e32d8a8"), looks := false }, kinds := [], alts := [], laidByText := true, laidKinds := [.data], laidTests := true, laidLooks := .later }
def RopePlacesCardSaid : Prop := Claim7.holds Tryd.pinned (.plain (OpenSpec.ofChange ropePlacesSpec)) ropePlacesCard

/-- THE TIED CARD OF 'redraftlaw03.RopeKept'. -/
def ropeKeptCard : Claim7 := { stood := { row := ropeKeptRow, standIns := [], harness := (true, "bb7027e4c916c5878b6b70d7a9d566a099c0a4678b619e4804eadc8b2e32d8a8"), looks := false }, kinds := [], alts := [], laidByText := true, laidKinds := [.data], laidTests := true, laidLooks := .later }
def RopeKeptCardSaid : Prop := Claim7.holds Tryd.pinned (.plain (OpenSpec.ofChange ropeKeptSpec)) ropeKeptCard

/-- THE TIED CARD OF 'redraftlaw03.RopeLands'. -/
def ropeLandsCard : Claim7 := { stood := { row := ropeLandsRow, standIns := [], harness := (true, "bb7027e4c916c5878b6b70d7a9d566a099c0a4678b619e4804eadc8b2e32d8a8"), looks := false }, kinds := [], alts := [], laidByText := true, laidKinds := [.data], laidTests := true, laidLooks := .later }
def RopeLandsCardSaid : Prop := Claim7.holds Tryd.pinned (.plain (OpenSpec.ofChange ropeLandsSpec)) ropeLandsCard

/-- THE TIED CARD OF 'redraftlaw03.RopeGrows'. -/
def ropeGrowsCard : Claim7 := { stood := { row := ropeGrowsRow, standIns := [], harness := (true, "bb7027e4c916c5878b6b70d7a9d566a099c0a4678b619e4804eadc8b2e32d8a8"), looks := false }, kinds := [], alts := [], laidByText := true, laidKinds := [.data], laidTests := true, laidLooks := .later }
def RopeGrowsCardSaid : Prop := Claim7.holds Tryd.pinned (.plain (OpenSpec.ofChange ropeGrowsSpec)) ropeGrowsCard

/-- THE TIED CARD OF 'redraftlaw03.RopeRunsBack'. -/
def ropeRunsBackCard : Claim7 := { stood := { row := ropeRunsBackRow, standIns := [], harness := (true, "bb7027e4c916c5878b6b70d7a9d566a099c0a4678b619e4804eadc8b2e32d8a8"), looks := false }, kinds := [], alts := [], laidByText := true, laidKinds := [.data], laidTests := true, laidLooks := .later }
def RopeRunsBackCardSaid : Prop := Claim7.holds Tryd.pinned (.plain (OpenSpec.ofChange ropeRunsBackSpec)) ropeRunsBackCard

/-- THE TIED CARD OF 'redraftlaw03.RopeHides'. -/
def ropeHidesCard : Claim7 := { stood := { row := ropeHidesRow, standIns := [], harness := (true, "bb7027e4c916c5878b6b70d7a9d566a099c0a4678b619e4804eadc8b2e32d8a8"), looks := false }, kinds := [], alts := [], laidByText := true, laidKinds := [.data], laidTests := true, laidLooks := .later }
def RopeHidesCardSaid : Prop := Claim7.holds Tryd.pinned (.plain (OpenSpec.ofChange ropeHidesSpec)) ropeHidesCard

/-- THE TIED CARD OF 'redraftlaw03.RopeIsRow'. -/
def ropeIsRowCard : Claim7 := { stood := { row := ropeIsRowRow, standIns := [], harness := (true, "bb7027e4c916c5878b6b70d7a9d566a099c0a4678b619e4804eadc8b2e32d8a8"), looks := false }, kinds := [], alts := [], laidByText := true, laidKinds := [.data], laidTests := true, laidLooks := .later }
def RopeIsRowCardSaid : Prop := Claim7.holds Tryd.pinned (.plain (OpenSpec.ofChange ropeIsRowSpec)) ropeIsRowCard

/-- THE TIED CARD OF 'redraftlaw03.RopeSequence'. -/
def ropeSequenceCard : Claim7 := { stood := { row := ropeSequenceRow, standIns := [], harness := (true, "bb7027e4c916c5878b6b70d7a9d566a099c0a4678b619e4804eadc8b2e32d8a8"), looks := false }, kinds := [], alts := [], laidByText := true, laidKinds := [.data], laidTests := true, laidLooks := .later }
def RopeSequenceCardSaid : Prop := Claim7.holds Tryd.pinned (.plain (OpenSpec.ofChange ropeSequenceSpec)) ropeSequenceCard

/-- THE TIED CARD OF 'redraftlaw03.RopeCopies'. -/
def ropeCopiesCard : Claim7 := { stood := { row := ropeCopiesRow, standIns := [], harness := (true, "bb7027e4c916c5878b6b70d7a9d566a099c0a4678b619e4804eadc8b2e32d8a8"), looks := false }, kinds := [], alts := [], laidByText := true, laidKinds := [.data], laidTests := true, laidLooks := .later }
def RopeCopiesCardSaid : Prop := Claim7.holds Tryd.pinned (.plain (OpenSpec.ofChange ropeCopiesSpec)) ropeCopiesCard

/-- THE TIED CARD OF 'redraftlaw03.RopeExact'. -/
def ropeExactCard : Claim7 := { stood := { row := ropeExactRow, standIns := [], harness := (true, "bb7027e4c916c5878b6b70d7a9d566a099c0a4678b619e4804eadc8b2e32d8a8"), looks := false }, kinds := [], alts := [], laidByText := true, laidKinds := [.data], laidTests := true, laidLooks := .later }
def RopeExactCardSaid : Prop := Claim7.holds Tryd.pinned (.plain (OpenSpec.ofChange ropeExactSpec)) ropeExactCard

/-- THE TIED CARD OF 'redraftlaw03.RopeAdds'. -/
def ropeAddsCard : Claim7 := { stood := { row := ropeAddsRow, standIns := [], harness := (true, "bb7027e4c916c5878b6b70d7a9d566a099c0a4678b619e4804eadc8b2e32d8a8"), looks := false }, kinds := [], alts := [], laidByText := true, laidKinds := [.data], laidTests := true, laidLooks := .later }
def RopeAddsCardSaid : Prop := Claim7.holds Tryd.pinned (.plain (OpenSpec.ofChange ropeAddsSpec)) ropeAddsCard

/-- THE TIED CARD OF 'redraftlaw03.RopeThrough'. -/
def ropeThroughCard : Claim7 := { stood := { row := ropeThroughRow, standIns := [], harness := (true, "bb7027e4c916c5878b6b70d7a9d566a099c0a4678b619e4804eadc8b2e32d8a8"), looks := false }, kinds := [], alts := [], laidByText := true, laidKinds := [.data], laidTests := true, laidLooks := .later }
def RopeThroughCardSaid : Prop := Claim7.holds Tryd.pinned (.plain (OpenSpec.ofChange ropeThroughSpec)) ropeThroughCard

/-- THE SECOND FORM's CARD OF 'redraftlaw03.RopePlaces'. -/
def ropePlacesUptoCard : Claim7 := { stood := { row := ropePlacesUptoRow, standIns := [], harness := (true, "bb7027e4c916c5878b6b70d7a9d566a099c0a4678b619e4804eadc8b2e32d8a8"), looks := false }, kinds := [], alts := [], laidByText := true, laidKinds := [.data], laidTests := true, laidLooks := .later }
def RopePlacesUptoCardSaid : Prop := Claim7.holds Tryd.pinned (.plain (OpenSpec.upto ropePlacesSpec)) ropePlacesUptoCard

/-- THE SECOND FORM's CARD OF 'redraftlaw03.RopeKept'. -/
def ropeKeptUptoCard : Claim7 := { stood := { row := ropeKeptUptoRow, standIns := [], harness := (true, "bb7027e4c916c5878b6b70d7a9d566a099c0a4678b619e4804eadc8b2e32d8a8"), looks := false }, kinds := [], alts := [], laidByText := true, laidKinds := [.data], laidTests := true, laidLooks := .later }
def RopeKeptUptoCardSaid : Prop := Claim7.holds Tryd.pinned (.plain (OpenSpec.upto ropeKeptSpec)) ropeKeptUptoCard

/-- THE SECOND FORM's CARD OF 'redraftlaw03.RopeLands'. -/
def ropeLandsUptoCard : Claim7 := { stood := { row := ropeLandsUptoRow, standIns := [], harness := (true, "bb7027e4c916c5878b6b70d7a9d566a099c0a4678b619e4804eadc8b2e32d8a8"), looks := false }, kinds := [], alts := [], laidByText := true, laidKinds := [.data], laidTests := true, laidLooks := .later }
def RopeLandsUptoCardSaid : Prop := Claim7.holds Tryd.pinned (.plain (OpenSpec.upto ropeLandsSpec)) ropeLandsUptoCard

/-- THE SECOND FORM's CARD OF 'redraftlaw03.RopeGrows'. -/
def ropeGrowsUptoCard : Claim7 := { stood := { row := ropeGrowsUptoRow, standIns := [], harness := (true, "bb7027e4c916c5878b6b70d7a9d566a099c0a4678b619e4804eadc8b2e32d8a8"), looks := false }, kinds := [], alts := [], laidByText := true, laidKinds := [.data], laidTests := true, laidLooks := .later }
def RopeGrowsUptoCardSaid : Prop := Claim7.holds Tryd.pinned (.plain (OpenSpec.upto ropeGrowsSpec)) ropeGrowsUptoCard

/-- THE SECOND FORM's CARD OF 'redraftlaw03.RopeRunsBack'. -/
def ropeRunsBackUptoCard : Claim7 := { stood := { row := ropeRunsBackUptoRow, standIns := [], harness := (true, "bb7027e4c916c5878b6b70d7a9d566a099c0a4678b619e4804eadc8b2e32d8a8"), looks := false }, kinds := [], alts := [], laidByText := true, laidKinds := [.data], laidTests := true, laidLooks := .later }
def RopeRunsBackUptoCardSaid : Prop := Claim7.holds Tryd.pinned (.plain (OpenSpec.upto ropeRunsBackSpec)) ropeRunsBackUptoCard

/-- THE SECOND FORM's CARD OF 'redraftlaw03.RopeHides'. -/
def ropeHidesUptoCard : Claim7 := { stood := { row := ropeHidesUptoRow, standIns := [], harness := (true, "bb7027e4c916c5878b6b70d7a9d566a099c0a4678b619e4804eadc8b2e32d8a8"), looks := false }, kinds := [], alts := [], laidByText := true, laidKinds := [.data], laidTests := true, laidLooks := .later }
def RopeHidesUptoCardSaid : Prop := Claim7.holds Tryd.pinned (.plain (OpenSpec.upto ropeHidesSpec)) ropeHidesUptoCard

/-- THE SECOND FORM's CARD OF 'redraftlaw03.RopeIsRow'. -/
def ropeIsRowUptoCard : Claim7 := { stood := { row := ropeIsRowUptoRow, standIns := [], harness := (true, "bb7027e4c916c5878b6b70d7a9d566a099c0a4678b619e4804eadc8b2e32d8a8"), looks := false }, kinds := [], alts := [], laidByText := true, laidKinds := [.data], laidTests := true, laidLooks := .later }
def RopeIsRowUptoCardSaid : Prop := Claim7.holds Tryd.pinned (.plain (OpenSpec.upto ropeIsRowSpec)) ropeIsRowUptoCard

/-- THE SECOND FORM's CARD OF 'redraftlaw03.RopeSequence'. -/
def ropeSequenceUptoCard : Claim7 := { stood := { row := ropeSequenceUptoRow, standIns := [], harness := (true, "bb7027e4c916c5878b6b70d7a9d566a099c0a4678b619e4804eadc8b2e32d8a8"), looks := false }, kinds := [], alts := [], laidByText := true, laidKinds := [.data], laidTests := true, laidLooks := .later }
def RopeSequenceUptoCardSaid : Prop := Claim7.holds Tryd.pinned (.plain (OpenSpec.upto ropeSequenceSpec)) ropeSequenceUptoCard

/-- THE SECOND FORM's CARD OF 'redraftlaw03.RopeCopies'. -/
def ropeCopiesUptoCard : Claim7 := { stood := { row := ropeCopiesUptoRow, standIns := [], harness := (true, "bb7027e4c916c5878b6b70d7a9d566a099c0a4678b619e4804eadc8b2e32d8a8"), looks := false }, kinds := [], alts := [], laidByText := true, laidKinds := [.data], laidTests := true, laidLooks := .later }
def RopeCopiesUptoCardSaid : Prop := Claim7.holds Tryd.pinned (.plain (OpenSpec.upto ropeCopiesSpec)) ropeCopiesUptoCard

/-- THE SECOND FORM's CARD OF 'redraftlaw03.RopeExact'. -/
def ropeExactUptoCard : Claim7 := { stood := { row := ropeExactUptoRow, standIns := [], harness := (true, "bb7027e4c916c5878b6b70d7a9d566a099c0a4678b619e4804eadc8b2e32d8a8"), looks := false }, kinds := [], alts := [], laidByText := true, laidKinds := [.data], laidTests := true, laidLooks := .later }
def RopeExactUptoCardSaid : Prop := Claim7.holds Tryd.pinned (.plain (OpenSpec.upto ropeExactSpec)) ropeExactUptoCard

/-- THE SECOND FORM's CARD OF 'redraftlaw03.RopeAdds'. -/
def ropeAddsUptoCard : Claim7 := { stood := { row := ropeAddsUptoRow, standIns := [], harness := (true, "bb7027e4c916c5878b6b70d7a9d566a099c0a4678b619e4804eadc8b2e32d8a8"), looks := false }, kinds := [], alts := [], laidByText := true, laidKinds := [.data], laidTests := true, laidLooks := .later }
def RopeAddsUptoCardSaid : Prop := Claim7.holds Tryd.pinned (.plain (OpenSpec.upto ropeAddsSpec)) ropeAddsUptoCard

/-- THE SECOND FORM's CARD OF 'redraftlaw03.RopeThrough'. -/
def ropeThroughUptoCard : Claim7 := { stood := { row := ropeThroughUptoRow, standIns := [], harness := (true, "bb7027e4c916c5878b6b70d7a9d566a099c0a4678b619e4804eadc8b2e32d8a8"), looks := false }, kinds := [], alts := [], laidByText := true, laidKinds := [.data], laidTests := true, laidLooks := .later }
def RopeThroughUptoCardSaid : Prop := Claim7.holds Tryd.pinned (.plain (OpenSpec.upto ropeThroughSpec)) ropeThroughUptoCard
end Rows
end Go.Proofs.YteeigokkafcaaaaDoor
