/-
  DERIVED. GIVEN WITH THE SEED: THE CARDS: each row of YtgiiiolnagddnaaDoorRows.lean that lists a variable, with what it lists TIED to the program's text (the seventh form; the later family's looks); each row that meets fmt, with fmt's text TOLD by the authors' own Lean function (tested against real Go, not proved from fmt's source: count such statements apart). THE CARD IS WHAT COUNTS. Prove the row's statement (the work); the ties are given (YtgiiiolnagddnaaDoorTie.lean); close each card by the builder's one call (the guide's Derived/Test/ToyasCard.lean, 'card_holds'). Laid BY PROGRAM, IN A SANDBOX (cutbox-door.mjs). By AI agents, Wed Nov 11 2026. No macro, syntax, notation, axiom, sorry.
-/
import Derived.Test.YtgiiiolnagddnaaDoorRows
import GoSem.ClaimSeven
namespace Go.Proofs.YtgiiiolnagddnaaDoor
namespace Rows

/-- THE TIED CARD OF 'redraftlaw20.MarksGrow'. -/
def marksGrowCard : Claim7 := { stood := { row := marksGrowRow, standIns := [], harness := (true, "3e2e069c572a06a8775d40d39d81c16b0a4f64c1e3c2dc36b5b70ccf87763d8e"), looks := false }, kinds := [], alts := [], laidByText := true, laidKinds := [.data], laidTests := true, laidLooks := .later }
def MarksGrowCardSaid : Prop := Claim7.holds Tryd.pinned (.plain (OpenSpec.ofChange marksGrowSpec)) marksGrowCard

/-- THE SECOND FORM's CARD OF 'redraftlaw20.MarksGrow'. -/
def marksGrowUptoCard : Claim7 := { stood := { row := marksGrowUptoRow, standIns := [], harness := (true, "3e2e069c572a06a8775d40d39d81c16b0a4f64c1e3c2dc36b5b70ccf87763d8e"), looks := false }, kinds := [], alts := [], laidByText := true, laidKinds := [.data], laidTests := true, laidLooks := .later }
def MarksGrowUptoCardSaid : Prop := Claim7.holds Tryd.pinned (.plain (OpenSpec.upto marksGrowSpec)) marksGrowUptoCard
end Rows
end Go.Proofs.YtgiiiolnagddnaaDoor
