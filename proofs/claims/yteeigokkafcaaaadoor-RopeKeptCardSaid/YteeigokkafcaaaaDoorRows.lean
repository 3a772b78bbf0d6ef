/-
  NARROWER THAN 'FOR EVERY INPUT', by the rows' own cells (each row's printed sentence says how): RopePlaces: laid · RopeKept: laid · RopeLands: laid · RopeGrows: laid · RopeRunsBack: laid · RopeHides: laid · RopeIsRow: laid · RopeSequence: laid · RopeCopies: laid · RopeExact: laid · RopeAdds: laid · RopeThrough: laid.
  DERIVED. THE GIVEN ROWS OF THIS SEAT. 12 by the template 'for every input the law returns true; each argument reads behind the call as it read before'; 0 by the template 'total and deterministic' (their statements: YteeigokkafcaaaaDoorTotals.lean).
  GIVEN WITH THE SEED: the statements are not yours to turn. If you find one false, say at which input.
  Laid BY PROGRAM, IN A SANDBOX (cutbox-rows.mjs): the forced cells as the released guide's own fill.sh prints them over the translation c97b36a569ddbb45… (all of the seat's roots in one cut). By AI agents, Wed Nov 11 2026. No macro, syntax, notation, axiom, sorry.
-/
import Derived.Test.YteeigokkafcaaaaDoorChecked
import GoSem.Claim
import GoSem.ClaimJoined
import GoSem.ClaimMapViews
import Derived.JoinedTies
import Derived.KernelRfl
namespace Go.Proofs.YteeigokkafcaaaaDoor
/- THE CELL 'sum', in the pinned program and in every row, IS THE sha256 OF THE DUMP (.gsa) THAT YteeigokkafcaaaaDoorProg.lean LOADS. Nothing in Lean hashes anything: it is a label: what it is worth is what the hold of that sum in a sandbox is worth. -/
noncomputable def Tryd.pinned : Pinned := { name := "yteeigokkafcaaaadoor", sum := "c97b36a569ddbb455ad1f11abccd42f479aa79ed1ab0269c24b556792218772a", checked := Tryd.checked }
namespace Rows
def none {H : Type} : Left H := { results := [], args := [] }

/- WHAT THE LISTED PACKAGE-LEVEL VARIABLES READ AS WHEN THE CALL BEGINS. Each datum BY PROGRAM (the guide's laid-datum.mjs) off the statement by which the dump's own 'gosem.cut.vars' lays the variable. In a bare row this is a premise. The card (YteeigokkafcaaaaDoorCards.lean) ties it to the program's text. -/
def laid_redraft_utext_bars {H : Type} : DataW H := .agg [.agg [.lit (.int .i32 0), .lit (.int .i32 8)], .agg [.lit (.int .i32 11), .lit (.int .i32 31)], .agg [.lit (.int .i32 127), .lit (.int .i32 159)], .agg [.lit (.int .i32 64976), .lit (.int .i32 65007)], .agg [.lit (.int .i32 65279), .lit (.int .i32 65279)]]

/-- 'redraftlaw03.RopePlaces': WHATEVER THE INPUT: true; the input reads as it did. -/
def ropePlacesSpec : ChangeSpec := { name := "ropePlaces", fn := fun _ => fun
  | [d] => { results := [.lit (.bool true)], args := [d] }
  | _ => none }
def ropePlacesRow : OpenClaim := { program := "yteeigokkafcaaaadoor", sum := "c97b36a569ddbb455ad1f11abccd42f479aa79ed1ab0269c24b556792218772a", func := "redraft/redraftlaw03.RopePlaces", spec := "ropePlaces", recurses := true, named := ["redraft/utext.bars"], apart := false, laid := [("redraft/utext.bars", laid_redraft_utext_bars)] }
def RopePlacesSaid : Prop := ropePlacesRow.holds Tryd.pinned (OpenSpec.ofChange ropePlacesSpec)

/-- ITS FALSE NEIGHBOUR: 'it returns false'. Refute it at one input. -/
def ropePlacesWrong : ChangeSpec := { name := "ropePlaces", fn := fun _ => fun
  | [d] => { results := [.lit (.bool false)], args := [d] }
  | _ => none }
def RopePlacesWrongFalsely : Prop := ropePlacesRow.holds Tryd.pinned (OpenSpec.ofChange ropePlacesWrong)

/-- 'redraftlaw03.RopeKept': WHATEVER THE INPUT: true; the input reads as it did. -/
def ropeKeptSpec : ChangeSpec := { name := "ropeKept", fn := fun _ => fun
  | [d1, d2] => { results := [.lit (.bool true)], args := [d1, d2] }
  | _ => none }
def ropeKeptRow : OpenClaim := { program := "yteeigokkafcaaaadoor", sum := "c97b36a569ddbb455ad1f11abccd42f479aa79ed1ab0269c24b556792218772a", func := "redraft/redraftlaw03.RopeKept", spec := "ropeKept", inPlace := ["internal/abi.NoEscape"], unfollowed := true, recurses := true, named := ["redraft/utext.bars"], apart := false, laid := [("redraft/utext.bars", laid_redraft_utext_bars)] }
def RopeKeptSaid : Prop := ropeKeptRow.holds Tryd.pinned (OpenSpec.ofChange ropeKeptSpec)

/-- ITS FALSE NEIGHBOUR: 'it returns false'. Refute it at one input. -/
def ropeKeptWrong : ChangeSpec := { name := "ropeKept", fn := fun _ => fun
  | [d1, d2] => { results := [.lit (.bool false)], args := [d1, d2] }
  | _ => none }
def RopeKeptWrongFalsely : Prop := ropeKeptRow.holds Tryd.pinned (OpenSpec.ofChange ropeKeptWrong)

/-- 'redraftlaw03.RopeLands': WHATEVER THE INPUT: true; the input reads as it did. -/
def ropeLandsSpec : ChangeSpec := { name := "ropeLands", fn := fun _ => fun
  | [d1, d2, d3, d4] => { results := [.lit (.bool true)], args := [d1, d2, d3, d4] }
  | _ => none }
def ropeLandsRow : OpenClaim := { program := "yteeigokkafcaaaadoor", sum := "c97b36a569ddbb455ad1f11abccd42f479aa79ed1ab0269c24b556792218772a", func := "redraft/redraftlaw03.RopeLands", spec := "ropeLands", inPlace := ["internal/abi.NoEscape"], unfollowed := true, recurses := true, named := ["redraft/utext.bars"], apart := false, laid := [("redraft/utext.bars", laid_redraft_utext_bars)] }
def RopeLandsSaid : Prop := ropeLandsRow.holds Tryd.pinned (OpenSpec.ofChange ropeLandsSpec)

/-- ITS FALSE NEIGHBOUR: 'it returns false'. Refute it at one input. -/
def ropeLandsWrong : ChangeSpec := { name := "ropeLands", fn := fun _ => fun
  | [d1, d2, d3, d4] => { results := [.lit (.bool false)], args := [d1, d2, d3, d4] }
  | _ => none }
def RopeLandsWrongFalsely : Prop := ropeLandsRow.holds Tryd.pinned (OpenSpec.ofChange ropeLandsWrong)

/-- 'redraftlaw03.RopeGrows': WHATEVER THE INPUT: true; the input reads as it did. -/
def ropeGrowsSpec : ChangeSpec := { name := "ropeGrows", fn := fun _ => fun
  | [] => { results := [.lit (.bool true)], args := [] }
  | _ => none }
def ropeGrowsRow : OpenClaim := { program := "yteeigokkafcaaaadoor", sum := "c97b36a569ddbb455ad1f11abccd42f479aa79ed1ab0269c24b556792218772a", func := "redraft/redraftlaw03.RopeGrows", spec := "ropeGrows", inPlace := ["internal/abi.NoEscape"], unfollowed := true, recurses := true, named := ["redraft/utext.bars"], apart := false, laid := [("redraft/utext.bars", laid_redraft_utext_bars)] }
def RopeGrowsSaid : Prop := ropeGrowsRow.holds Tryd.pinned (OpenSpec.ofChange ropeGrowsSpec)

/-- ITS FALSE NEIGHBOUR: 'it returns false'. Refute it at one input. -/
def ropeGrowsWrong : ChangeSpec := { name := "ropeGrows", fn := fun _ => fun
  | [] => { results := [.lit (.bool false)], args := [] }
  | _ => none }
def RopeGrowsWrongFalsely : Prop := ropeGrowsRow.holds Tryd.pinned (OpenSpec.ofChange ropeGrowsWrong)

/-- 'redraftlaw03.RopeRunsBack': WHATEVER THE INPUT: true; the input reads as it did. -/
def ropeRunsBackSpec : ChangeSpec := { name := "ropeRunsBack", fn := fun _ => fun
  | [d1, d2] => { results := [.lit (.bool true)], args := [d1, d2] }
  | _ => none }
def ropeRunsBackRow : OpenClaim := { program := "yteeigokkafcaaaadoor", sum := "c97b36a569ddbb455ad1f11abccd42f479aa79ed1ab0269c24b556792218772a", func := "redraft/redraftlaw03.RopeRunsBack", spec := "ropeRunsBack", inPlace := ["internal/abi.NoEscape"], unfollowed := true, recurses := true, named := ["redraft/utext.bars"], apart := false, laid := [("redraft/utext.bars", laid_redraft_utext_bars)] }
def RopeRunsBackSaid : Prop := ropeRunsBackRow.holds Tryd.pinned (OpenSpec.ofChange ropeRunsBackSpec)

/-- ITS FALSE NEIGHBOUR: 'it returns false'. Refute it at one input. -/
def ropeRunsBackWrong : ChangeSpec := { name := "ropeRunsBack", fn := fun _ => fun
  | [d1, d2] => { results := [.lit (.bool false)], args := [d1, d2] }
  | _ => none }
def RopeRunsBackWrongFalsely : Prop := ropeRunsBackRow.holds Tryd.pinned (OpenSpec.ofChange ropeRunsBackWrong)

/-- 'redraftlaw03.RopeHides': WHATEVER THE INPUT: true; the input reads as it did. -/
def ropeHidesSpec : ChangeSpec := { name := "ropeHides", fn := fun _ => fun
  | [d1, d2, d3] => { results := [.lit (.bool true)], args := [d1, d2, d3] }
  | _ => none }
def ropeHidesRow : OpenClaim := { program := "yteeigokkafcaaaadoor", sum := "c97b36a569ddbb455ad1f11abccd42f479aa79ed1ab0269c24b556792218772a", func := "redraft/redraftlaw03.RopeHides", spec := "ropeHides", inPlace := ["internal/abi.NoEscape"], unfollowed := true, recurses := true, named := ["redraft/utext.bars"], apart := false, laid := [("redraft/utext.bars", laid_redraft_utext_bars)] }
def RopeHidesSaid : Prop := ropeHidesRow.holds Tryd.pinned (OpenSpec.ofChange ropeHidesSpec)

/-- ITS FALSE NEIGHBOUR: 'it returns false'. Refute it at one input. -/
def ropeHidesWrong : ChangeSpec := { name := "ropeHides", fn := fun _ => fun
  | [d1, d2, d3] => { results := [.lit (.bool false)], args := [d1, d2, d3] }
  | _ => none }
def RopeHidesWrongFalsely : Prop := ropeHidesRow.holds Tryd.pinned (OpenSpec.ofChange ropeHidesWrong)

/-- 'redraftlaw03.RopeIsRow': WHATEVER THE INPUT: true; the input reads as it did. -/
def ropeIsRowSpec : ChangeSpec := { name := "ropeIsRow", fn := fun _ => fun
  | [d1, d2] => { results := [.lit (.bool true)], args := [d1, d2] }
  | _ => none }
def ropeIsRowRow : OpenClaim := { program := "yteeigokkafcaaaadoor", sum := "c97b36a569ddbb455ad1f11abccd42f479aa79ed1ab0269c24b556792218772a", func := "redraft/redraftlaw03.RopeIsRow", spec := "ropeIsRow", inPlace := ["internal/abi.NoEscape"], unfollowed := true, recurses := true, named := ["redraft/utext.bars"], apart := false, laid := [("redraft/utext.bars", laid_redraft_utext_bars)] }
def RopeIsRowSaid : Prop := ropeIsRowRow.holds Tryd.pinned (OpenSpec.ofChange ropeIsRowSpec)

/-- ITS FALSE NEIGHBOUR: 'it returns false'. Refute it at one input. -/
def ropeIsRowWrong : ChangeSpec := { name := "ropeIsRow", fn := fun _ => fun
  | [d1, d2] => { results := [.lit (.bool false)], args := [d1, d2] }
  | _ => none }
def RopeIsRowWrongFalsely : Prop := ropeIsRowRow.holds Tryd.pinned (OpenSpec.ofChange ropeIsRowWrong)

/-- 'redraftlaw03.RopeSequence': WHATEVER THE INPUT: true; the input reads as it did. -/
def ropeSequenceSpec : ChangeSpec := { name := "ropeSequence", fn := fun _ => fun
  | [d1, d2, d3, d4] => { results := [.lit (.bool true)], args := [d1, d2, d3, d4] }
  | _ => none }
def ropeSequenceRow : OpenClaim := { program := "yteeigokkafcaaaadoor", sum := "c97b36a569ddbb455ad1f11abccd42f479aa79ed1ab0269c24b556792218772a", func := "redraft/redraftlaw03.RopeSequence", spec := "ropeSequence", inPlace := ["internal/abi.NoEscape"], unfollowed := true, recurses := true, named := ["redraft/utext.bars"], apart := false, laid := [("redraft/utext.bars", laid_redraft_utext_bars)] }
def RopeSequenceSaid : Prop := ropeSequenceRow.holds Tryd.pinned (OpenSpec.ofChange ropeSequenceSpec)

/-- ITS FALSE NEIGHBOUR: 'it returns false'. Refute it at one input. -/
def ropeSequenceWrong : ChangeSpec := { name := "ropeSequence", fn := fun _ => fun
  | [d1, d2, d3, d4] => { results := [.lit (.bool false)], args := [d1, d2, d3, d4] }
  | _ => none }
def RopeSequenceWrongFalsely : Prop := ropeSequenceRow.holds Tryd.pinned (OpenSpec.ofChange ropeSequenceWrong)

/-- 'redraftlaw03.RopeCopies': WHATEVER THE INPUT: true; the input reads as it did. -/
def ropeCopiesSpec : ChangeSpec := { name := "ropeCopies", fn := fun _ => fun
  | [d1, d2, d3] => { results := [.lit (.bool true)], args := [d1, d2, d3] }
  | _ => none }
def ropeCopiesRow : OpenClaim := { program := "yteeigokkafcaaaadoor", sum := "c97b36a569ddbb455ad1f11abccd42f479aa79ed1ab0269c24b556792218772a", func := "redraft/redraftlaw03.RopeCopies", spec := "ropeCopies", inPlace := ["internal/abi.NoEscape"], unfollowed := true, recurses := true, named := ["redraft/utext.bars"], apart := false, laid := [("redraft/utext.bars", laid_redraft_utext_bars)] }
def RopeCopiesSaid : Prop := ropeCopiesRow.holds Tryd.pinned (OpenSpec.ofChange ropeCopiesSpec)

/-- ITS FALSE NEIGHBOUR: 'it returns false'. Refute it at one input. -/
def ropeCopiesWrong : ChangeSpec := { name := "ropeCopies", fn := fun _ => fun
  | [d1, d2, d3] => { results := [.lit (.bool false)], args := [d1, d2, d3] }
  | _ => none }
def RopeCopiesWrongFalsely : Prop := ropeCopiesRow.holds Tryd.pinned (OpenSpec.ofChange ropeCopiesWrong)

/-- 'redraftlaw03.RopeExact': WHATEVER THE INPUT: true; the input reads as it did. -/
def ropeExactSpec : ChangeSpec := { name := "ropeExact", fn := fun _ => fun
  | [d] => { results := [.lit (.bool true)], args := [d] }
  | _ => none }
def ropeExactRow : OpenClaim := { program := "yteeigokkafcaaaadoor", sum := "c97b36a569ddbb455ad1f11abccd42f479aa79ed1ab0269c24b556792218772a", func := "redraft/redraftlaw03.RopeExact", spec := "ropeExact", inPlace := ["internal/abi.NoEscape"], unfollowed := true, recurses := true, named := ["redraft/utext.bars"], apart := false, laid := [("redraft/utext.bars", laid_redraft_utext_bars)] }
def RopeExactSaid : Prop := ropeExactRow.holds Tryd.pinned (OpenSpec.ofChange ropeExactSpec)

/-- ITS FALSE NEIGHBOUR: 'it returns false'. Refute it at one input. -/
def ropeExactWrong : ChangeSpec := { name := "ropeExact", fn := fun _ => fun
  | [d] => { results := [.lit (.bool false)], args := [d] }
  | _ => none }
def RopeExactWrongFalsely : Prop := ropeExactRow.holds Tryd.pinned (OpenSpec.ofChange ropeExactWrong)

/-- 'redraftlaw03.RopeAdds': WHATEVER THE INPUT: true; the input reads as it did. -/
def ropeAddsSpec : ChangeSpec := { name := "ropeAdds", fn := fun _ => fun
  | [d1, d2, d3] => { results := [.lit (.bool true)], args := [d1, d2, d3] }
  | _ => none }
def ropeAddsRow : OpenClaim := { program := "yteeigokkafcaaaadoor", sum := "c97b36a569ddbb455ad1f11abccd42f479aa79ed1ab0269c24b556792218772a", func := "redraft/redraftlaw03.RopeAdds", spec := "ropeAdds", inPlace := ["internal/abi.NoEscape"], unfollowed := true, recurses := true, named := ["redraft/utext.bars"], apart := false, laid := [("redraft/utext.bars", laid_redraft_utext_bars)] }
def RopeAddsSaid : Prop := ropeAddsRow.holds Tryd.pinned (OpenSpec.ofChange ropeAddsSpec)

/-- ITS FALSE NEIGHBOUR: 'it returns false'. Refute it at one input. -/
def ropeAddsWrong : ChangeSpec := { name := "ropeAdds", fn := fun _ => fun
  | [d1, d2, d3] => { results := [.lit (.bool false)], args := [d1, d2, d3] }
  | _ => none }
def RopeAddsWrongFalsely : Prop := ropeAddsRow.holds Tryd.pinned (OpenSpec.ofChange ropeAddsWrong)

/-- 'redraftlaw03.RopeThrough': WHATEVER THE INPUT: true; the input reads as it did. -/
def ropeThroughSpec : ChangeSpec := { name := "ropeThrough", fn := fun _ => fun
  | [d1, d2, d3, d4] => { results := [.lit (.bool true)], args := [d1, d2, d3, d4] }
  | _ => none }
def ropeThroughRow : OpenClaim := { program := "yteeigokkafcaaaadoor", sum := "c97b36a569ddbb455ad1f11abccd42f479aa79ed1ab0269c24b556792218772a", func := "redraft/redraftlaw03.RopeThrough", spec := "ropeThrough", inPlace := ["internal/abi.NoEscape"], unfollowed := true, recurses := true, named := ["redraft/utext.bars"], apart := false, laid := [("redraft/utext.bars", laid_redraft_utext_bars)] }
def RopeThroughSaid : Prop := ropeThroughRow.holds Tryd.pinned (OpenSpec.ofChange ropeThroughSpec)

/-- ITS FALSE NEIGHBOUR: 'it returns false'. Refute it at one input. -/
def ropeThroughWrong : ChangeSpec := { name := "ropeThrough", fn := fun _ => fun
  | [d1, d2, d3, d4] => { results := [.lit (.bool false)], args := [d1, d2, d3, d4] }
  | _ => none }
def RopeThroughWrongFalsely : Prop := ropeThroughRow.holds Tryd.pinned (OpenSpec.ofChange ropeThroughWrong)

/- THE SECOND FORM. 'bulk': how many values and letters a reading holds, each counted each time it is reached (what is shared counts as often as it is met; a slice's spare places count too). A statement '..UptoSaid' is the law's where the arguments, and the package variables that the reading takes, are together of bulk at most 1048576: NARROWER than '..Said'. Prove '..Said' where nothing that the law and all that it calls make is longer than what came in: it says more and counts as full. Else prove '..UptoSaid'. A law counts once. -/
mutual
def uptoBulk {H : Type} : DataW H → Nat
  | .lit (.string bytes) => bytes.length + 1
  | .lit _ => 1
  | .nil => 1
  | .ptr d => uptoBulk d + 1
  | .slice elems spare => uptoBulkAll elems + uptoBulkAll spare + 1
  | .agg parts => uptoBulkAll parts + 1
  | .iface _ d => uptoBulk d + 1
  | .map entries => uptoBulkEntries entries + 1
  | .held _ => 1
def uptoBulkAll {H : Type} : List (DataW H) → Nat
  | [] => 0
  | d :: r => uptoBulk d + uptoBulkAll r
def uptoBulkEntries {H : Type} : List (Lit × DataW H) → Nat
  | [] => 0
  | x :: r => uptoBulkEntry x + uptoBulkEntries r
def uptoBulkEntry {H : Type} : Lit × DataW H → Nat
  | (.string bytes, d) => bytes.length + uptoBulk d + 1
  | (_, d) => uptoBulk d + 1
 end
def uptoSmall : (H : Type) → List (DataW H) → Bool := fun _ ds => decide (uptoBulkAll ds ≤ 1048576)
def OpenSpec.upto (s : _root_.Go.ChangeSpec) : _root_.Go.OpenSpec := { _root_.Go.OpenSpec.ofChange s with cond := some uptoSmall }

/-- 'redraftlaw03.RopePlaces', WHERE WHAT IT READS IS OF BULK AT MOST 1048576: true; the input reads as it did. -/
def ropePlacesUptoRow : OpenClaim := { program := "yteeigokkafcaaaadoor", sum := "c97b36a569ddbb455ad1f11abccd42f479aa79ed1ab0269c24b556792218772a", func := "redraft/redraftlaw03.RopePlaces", spec := "ropePlaces", recurses := true, named := ["redraft/utext.bars"], apart := false, laid := [("redraft/utext.bars", laid_redraft_utext_bars)], narrowed := true }
def RopePlacesUptoSaid : Prop := ropePlacesUptoRow.holds Tryd.pinned (OpenSpec.upto ropePlacesSpec)

/-- 'redraftlaw03.RopeKept', WHERE WHAT IT READS IS OF BULK AT MOST 1048576: true; the input reads as it did. -/
def ropeKeptUptoRow : OpenClaim := { program := "yteeigokkafcaaaadoor", sum := "c97b36a569ddbb455ad1f11abccd42f479aa79ed1ab0269c24b556792218772a", func := "redraft/redraftlaw03.RopeKept", spec := "ropeKept", inPlace := ["internal/abi.NoEscape"], unfollowed := true, recurses := true, named := ["redraft/utext.bars"], apart := false, laid := [("redraft/utext.bars", laid_redraft_utext_bars)], narrowed := true }
def RopeKeptUptoSaid : Prop := ropeKeptUptoRow.holds Tryd.pinned (OpenSpec.upto ropeKeptSpec)

/-- 'redraftlaw03.RopeLands', WHERE WHAT IT READS IS OF BULK AT MOST 1048576: true; the input reads as it did. -/
def ropeLandsUptoRow : OpenClaim := { program := "yteeigokkafcaaaadoor", sum := "c97b36a569ddbb455ad1f11abccd42f479aa79ed1ab0269c24b556792218772a", func := "redraft/redraftlaw03.RopeLands", spec := "ropeLands", inPlace := ["internal/abi.NoEscape"], unfollowed := true, recurses := true, named := ["redraft/utext.bars"], apart := false, laid := [("redraft/utext.bars", laid_redraft_utext_bars)], narrowed := true }
def RopeLandsUptoSaid : Prop := ropeLandsUptoRow.holds Tryd.pinned (OpenSpec.upto ropeLandsSpec)

/-- 'redraftlaw03.RopeGrows', WHERE WHAT IT READS IS OF BULK AT MOST 1048576: true; the input reads as it did. -/
def ropeGrowsUptoRow : OpenClaim := { program := "yteeigokkafcaaaadoor", sum := "c97b36a569ddbb455ad1f11abccd42f479aa79ed1ab0269c24b556792218772a", func := "redraft/redraftlaw03.RopeGrows", spec := "ropeGrows", inPlace := ["internal/abi.NoEscape"], unfollowed := true, recurses := true, named := ["redraft/utext.bars"], apart := false, laid := [("redraft/utext.bars", laid_redraft_utext_bars)], narrowed := true }
def RopeGrowsUptoSaid : Prop := ropeGrowsUptoRow.holds Tryd.pinned (OpenSpec.upto ropeGrowsSpec)

/-- 'redraftlaw03.RopeRunsBack', WHERE WHAT IT READS IS OF BULK AT MOST 1048576: true; the input reads as it did. -/
def ropeRunsBackUptoRow : OpenClaim := { program := "yteeigokkafcaaaadoor", sum := "c97b36a569ddbb455ad1f11abccd42f479aa79ed1ab0269c24b556792218772a", func := "redraft/redraftlaw03.RopeRunsBack", spec := "ropeRunsBack", inPlace := ["internal/abi.NoEscape"], unfollowed := true, recurses := true, named := ["redraft/utext.bars"], apart := false, laid := [("redraft/utext.bars", laid_redraft_utext_bars)], narrowed := true }
def RopeRunsBackUptoSaid : Prop := ropeRunsBackUptoRow.holds Tryd.pinned (OpenSpec.upto ropeRunsBackSpec)

/-- 'redraftlaw03.RopeHides', WHERE WHAT IT READS IS OF BULK AT MOST 1048576: true; the input reads as it did. -/
def ropeHidesUptoRow : OpenClaim := { program := "yteeigokkafcaaaadoor", sum := "c97b36a569ddbb455ad1f11abccd42f479aa79ed1ab0269c24b556792218772a", func := "redraft/redraftlaw03.RopeHides", spec := "ropeHides", inPlace := ["internal/abi.NoEscape"], unfollowed := true, recurses := true, named := ["redraft/utext.bars"], apart := false, laid := [("redraft/utext.bars", laid_redraft_utext_bars)], narrowed := true }
def RopeHidesUptoSaid : Prop := ropeHidesUptoRow.holds Tryd.pinned (OpenSpec.upto ropeHidesSpec)

/-- 'redraftlaw03.RopeIsRow', WHERE WHAT IT READS IS OF BULK AT MOST 1048576: true; the input reads as it did. -/
def ropeIsRowUptoRow : OpenClaim := { program := "yteeigokkafcaaaadoor", sum := "c97b36a569ddbb455ad1f11abccd42f479aa79ed1ab0269c24b556792218772a", func := "redraft/redraftlaw03.RopeIsRow", spec := "ropeIsRow", inPlace := ["internal/abi.NoEscape"], unfollowed := true, recurses := true, named := ["redraft/utext.bars"], apart := false, laid := [("redraft/utext.bars", laid_redraft_utext_bars)], narrowed := true }
def RopeIsRowUptoSaid : Prop := ropeIsRowUptoRow.holds Tryd.pinned (OpenSpec.upto ropeIsRowSpec)

/-- 'redraftlaw03.RopeSequence', WHERE WHAT IT READS IS OF BULK AT MOST 1048576: true; the input reads as it did. -/
def ropeSequenceUptoRow : OpenClaim := { program := "yteeigokkafcaaaadoor", sum := "c97b36a569ddbb455ad1f11abccd42f479aa79ed1ab0269c24b556792218772a", func := "redraft/redraftlaw03.RopeSequence", spec := "ropeSequence", inPlace := ["internal/abi.NoEscape"], unfollowed := true, recurses := true, named := ["redraft/utext.bars"], apart := false, laid := [("redraft/utext.bars", laid_redraft_utext_bars)], narrowed := true }
def RopeSequenceUptoSaid : Prop := ropeSequenceUptoRow.holds Tryd.pinned (OpenSpec.upto ropeSequenceSpec)

/-- 'redraftlaw03.RopeCopies', WHERE WHAT IT READS IS OF BULK AT MOST 1048576: true; the input reads as it did. -/
def ropeCopiesUptoRow : OpenClaim := { program := "yteeigokkafcaaaadoor", sum := "c97b36a569ddbb455ad1f11abccd42f479aa79ed1ab0269c24b556792218772a", func := "redraft/redraftlaw03.RopeCopies", spec := "ropeCopies", inPlace := ["internal/abi.NoEscape"], unfollowed := true, recurses := true, named := ["redraft/utext.bars"], apart := false, laid := [("redraft/utext.bars", laid_redraft_utext_bars)], narrowed := true }
def RopeCopiesUptoSaid : Prop := ropeCopiesUptoRow.holds Tryd.pinned (OpenSpec.upto ropeCopiesSpec)

/-- 'redraftlaw03.RopeExact', WHERE WHAT IT READS IS OF BULK AT MOST 1048576: true; the input reads as it did. -/
def ropeExactUptoRow : OpenClaim := { program := "yteeigokkafcaaaadoor", sum := "c97b36a569ddbb455ad1f11abccd42f479aa79ed1ab0269c24b556792218772a", func := "redraft/redraftlaw03.RopeExact", spec := "ropeExact", inPlace := ["internal/abi.NoEscape"], unfollowed := true, recurses := true, named := ["redraft/utext.bars"], apart := false, laid := [("redraft/utext.bars", laid_redraft_utext_bars)], narrowed := true }
def RopeExactUptoSaid : Prop := ropeExactUptoRow.holds Tryd.pinned (OpenSpec.upto ropeExactSpec)

/-- 'redraftlaw03.RopeAdds', WHERE WHAT IT READS IS OF BULK AT MOST 1048576: true; the input reads as it did. -/
def ropeAddsUptoRow : OpenClaim := { program := "yteeigokkafcaaaadoor", sum := "c97b36a569ddbb455ad1f11abccd42f479aa79ed1ab0269c24b556792218772a", func := "redraft/redraftlaw03.RopeAdds", spec := "ropeAdds", inPlace := ["internal/abi.NoEscape"], unfollowed := true, recurses := true, named := ["redraft/utext.bars"], apart := false, laid := [("redraft/utext.bars", laid_redraft_utext_bars)], narrowed := true }
def RopeAddsUptoSaid : Prop := ropeAddsUptoRow.holds Tryd.pinned (OpenSpec.upto ropeAddsSpec)

/-- 'redraftlaw03.RopeThrough', WHERE WHAT IT READS IS OF BULK AT MOST 1048576: true; the input reads as it did. -/
def ropeThroughUptoRow : OpenClaim := { program := "yteeigokkafcaaaadoor", sum := "c97b36a569ddbb455ad1f11abccd42f479aa79ed1ab0269c24b556792218772a", func := "redraft/redraftlaw03.RopeThrough", spec := "ropeThrough", inPlace := ["internal/abi.NoEscape"], unfollowed := true, recurses := true, named := ["redraft/utext.bars"], apart := false, laid := [("redraft/utext.bars", laid_redraft_utext_bars)], narrowed := true }
def RopeThroughUptoSaid : Prop := ropeThroughUptoRow.holds Tryd.pinned (OpenSpec.upto ropeThroughSpec)

end Rows
end Go.Proofs.YteeigokkafcaaaaDoor
