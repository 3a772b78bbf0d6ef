/-
  No cell of these rows narrows 'for every input' (looked for: loops, veiled, ifaces, maps, wideKeys, modest, calm, conditions, laid).
  DERIVED. THE GIVEN ROWS OF THIS SEAT. 7 by the template 'for every input the law returns true; each argument reads behind the call as it read before'; 0 by the template 'total and deterministic' (their statements: YtmfabpkliogjlaaTotals.lean).
  GIVEN WITH THE SEED: the statements are not yours to turn. If you find one false, say at which input.
  Laid BY PROGRAM, IN A SANDBOX (cutbox-rows.mjs): the forced cells as the released guide's own fill.sh prints them over the translation a01e714530bcc10b… (all of the seat's roots in one cut). By AI agents, Wed Nov 11 2026. No macro, syntax, notation, axiom, sorry.
-/
import Derived.Test.YtmfabpkliogjlaaChecked
import GoSem.Claim
import GoSem.ClaimJoined
import GoSem.ClaimMapViews
import Derived.JoinedTies
import Derived.KernelRfl
namespace Go.Proofs.Ytmfabpkliogjlaa
/- THE CELL 'sum', in the pinned program and in every row, IS THE sha256 OF THE DUMP (.gsa) THAT YtmfabpkliogjlaaProg.lean LOADS. Nothing in Lean hashes anything: it is a label: what it is worth is what the hold of that sum in a sandbox is worth. -/
noncomputable def Try.pinned : Pinned := { name := "ytmfabpkliogjlaa", sum := "a01e714530bcc10b3b369992d1e6d4388d7f4c112669b66f6cdc9d1eb564e535", checked := Try.checked }
namespace Rows
def none {H : Type} : Left H := { results := [], args := [] }

/-- 'redraftlaw13.WindowNames': WHATEVER THE INPUT: true; the input reads as it did. -/
def windowNamesSpec : ChangeSpec := { name := "windowNames", fn := fun _ => fun
  | [] => { results := [.lit (.bool true)], args := [] }
  | _ => none }
def windowNamesRow : OpenClaim := { program := "ytmfabpkliogjlaa", sum := "a01e714530bcc10b3b369992d1e6d4388d7f4c112669b66f6cdc9d1eb564e535", func := "redraft/redraftlaw13.WindowNames", spec := "windowNames", apart := false }
def WindowNamesSaid : Prop := windowNamesRow.holds Try.pinned (OpenSpec.ofChange windowNamesSpec)

/-- ITS FALSE NEIGHBOUR: 'it returns false'. Refute it at one input. -/
def windowNamesWrong : ChangeSpec := { name := "windowNames", fn := fun _ => fun
  | [] => { results := [.lit (.bool false)], args := [] }
  | _ => none }
def WindowNamesWrongFalsely : Prop := windowNamesRow.holds Try.pinned (OpenSpec.ofChange windowNamesWrong)

/-- 'redraftlaw13.WindowWithin': WHATEVER THE INPUT: true; the input reads as it did. -/
def windowWithinSpec : ChangeSpec := { name := "windowWithin", fn := fun _ => fun
  | [d] => { results := [.lit (.bool true)], args := [d] }
  | _ => none }
def windowWithinRow : OpenClaim := { program := "ytmfabpkliogjlaa", sum := "a01e714530bcc10b3b369992d1e6d4388d7f4c112669b66f6cdc9d1eb564e535", func := "redraft/redraftlaw13.WindowWithin", spec := "windowWithin", unfollowed := true, recurses := true, apart := false }
def WindowWithinSaid : Prop := windowWithinRow.holds Try.pinned (OpenSpec.ofChange windowWithinSpec)

/-- ITS FALSE NEIGHBOUR: 'it returns false'. Refute it at one input. -/
def windowWithinWrong : ChangeSpec := { name := "windowWithin", fn := fun _ => fun
  | [d] => { results := [.lit (.bool false)], args := [d] }
  | _ => none }
def WindowWithinWrongFalsely : Prop := windowWithinRow.holds Try.pinned (OpenSpec.ofChange windowWithinWrong)

/-- 'redraftlaw13.WindowBounds': WHATEVER THE INPUT: true; the input reads as it did. -/
def windowBoundsSpec : ChangeSpec := { name := "windowBounds", fn := fun _ => fun
  | [d1, d2, d3] => { results := [.lit (.bool true)], args := [d1, d2, d3] }
  | _ => none }
def windowBoundsRow : OpenClaim := { program := "ytmfabpkliogjlaa", sum := "a01e714530bcc10b3b369992d1e6d4388d7f4c112669b66f6cdc9d1eb564e535", func := "redraft/redraftlaw13.WindowBounds", spec := "windowBounds", unfollowed := true, recurses := true, apart := false }
def WindowBoundsSaid : Prop := windowBoundsRow.holds Try.pinned (OpenSpec.ofChange windowBoundsSpec)

/-- ITS FALSE NEIGHBOUR: 'it returns false'. Refute it at one input. -/
def windowBoundsWrong : ChangeSpec := { name := "windowBounds", fn := fun _ => fun
  | [d1, d2, d3] => { results := [.lit (.bool false)], args := [d1, d2, d3] }
  | _ => none }
def WindowBoundsWrongFalsely : Prop := windowBoundsRow.holds Try.pinned (OpenSpec.ofChange windowBoundsWrong)

/-- 'redraftlaw13.WindowApart': WHATEVER THE INPUT: true; the input reads as it did. -/
def windowApartSpec : ChangeSpec := { name := "windowApart", fn := fun _ => fun
  | [d] => { results := [.lit (.bool true)], args := [d] }
  | _ => none }
def windowApartRow : OpenClaim := { program := "ytmfabpkliogjlaa", sum := "a01e714530bcc10b3b369992d1e6d4388d7f4c112669b66f6cdc9d1eb564e535", func := "redraft/redraftlaw13.WindowApart", spec := "windowApart", unfollowed := true, recurses := true, apart := false }
def WindowApartSaid : Prop := windowApartRow.holds Try.pinned (OpenSpec.ofChange windowApartSpec)

/-- ITS FALSE NEIGHBOUR: 'it returns false'. Refute it at one input. -/
def windowApartWrong : ChangeSpec := { name := "windowApart", fn := fun _ => fun
  | [d] => { results := [.lit (.bool false)], args := [d] }
  | _ => none }
def WindowApartWrongFalsely : Prop := windowApartRow.holds Try.pinned (OpenSpec.ofChange windowApartWrong)

/-- 'redraftlaw13.WindowExact': WHATEVER THE INPUT: true; the input reads as it did. -/
def windowExactSpec : ChangeSpec := { name := "windowExact", fn := fun _ => fun
  | [d1, d2, d3] => { results := [.lit (.bool true)], args := [d1, d2, d3] }
  | _ => none }
def windowExactRow : OpenClaim := { program := "ytmfabpkliogjlaa", sum := "a01e714530bcc10b3b369992d1e6d4388d7f4c112669b66f6cdc9d1eb564e535", func := "redraft/redraftlaw13.WindowExact", spec := "windowExact", unfollowed := true, recurses := true, apart := false }
def WindowExactSaid : Prop := windowExactRow.holds Try.pinned (OpenSpec.ofChange windowExactSpec)

/-- ITS FALSE NEIGHBOUR: 'it returns false'. Refute it at one input. -/
def windowExactWrong : ChangeSpec := { name := "windowExact", fn := fun _ => fun
  | [d1, d2, d3] => { results := [.lit (.bool false)], args := [d1, d2, d3] }
  | _ => none }
def WindowExactWrongFalsely : Prop := windowExactRow.holds Try.pinned (OpenSpec.ofChange windowExactWrong)

/-- 'redraftlaw13.WindowInOrder': WHATEVER THE INPUT: true; the input reads as it did. -/
def windowInOrderSpec : ChangeSpec := { name := "windowInOrder", fn := fun _ => fun
  | [d] => { results := [.lit (.bool true)], args := [d] }
  | _ => none }
def windowInOrderRow : OpenClaim := { program := "ytmfabpkliogjlaa", sum := "a01e714530bcc10b3b369992d1e6d4388d7f4c112669b66f6cdc9d1eb564e535", func := "redraft/redraftlaw13.WindowInOrder", spec := "windowInOrder", unfollowed := true, recurses := true, apart := false }
def WindowInOrderSaid : Prop := windowInOrderRow.holds Try.pinned (OpenSpec.ofChange windowInOrderSpec)

/-- ITS FALSE NEIGHBOUR: 'it returns false'. Refute it at one input. -/
def windowInOrderWrong : ChangeSpec := { name := "windowInOrder", fn := fun _ => fun
  | [d] => { results := [.lit (.bool false)], args := [d] }
  | _ => none }
def WindowInOrderWrongFalsely : Prop := windowInOrderRow.holds Try.pinned (OpenSpec.ofChange windowInOrderWrong)

/-- 'redraftlaw13.WindowStreams': WHATEVER THE INPUT: true; the input reads as it did. -/
def windowStreamsSpec : ChangeSpec := { name := "windowStreams", fn := fun _ => fun
  | [d] => { results := [.lit (.bool true)], args := [d] }
  | _ => none }
def windowStreamsRow : OpenClaim := { program := "ytmfabpkliogjlaa", sum := "a01e714530bcc10b3b369992d1e6d4388d7f4c112669b66f6cdc9d1eb564e535", func := "redraft/redraftlaw13.WindowStreams", spec := "windowStreams", unfollowed := true, recurses := true, apart := false }
def WindowStreamsSaid : Prop := windowStreamsRow.holds Try.pinned (OpenSpec.ofChange windowStreamsSpec)

/-- ITS FALSE NEIGHBOUR: 'it returns false'. Refute it at one input. -/
def windowStreamsWrong : ChangeSpec := { name := "windowStreams", fn := fun _ => fun
  | [d] => { results := [.lit (.bool false)], args := [d] }
  | _ => none }
def WindowStreamsWrongFalsely : Prop := windowStreamsRow.holds Try.pinned (OpenSpec.ofChange windowStreamsWrong)

/- THE SECOND FORM. 'bulk': how many values and letters a reading holds, each counted each time it is reached (what is shared counts as often as it is met; a slice's spare places count too). A statement '..UptoSaid' is the law's where the arguments, and the package variables that the reading takes, are together of bulk at most 1048576: NARROWER than '..Said'. Prove '..Said' where nothing that the law and all that it calls make is longer than what came in: it says more and counts as full. Else prove '..UptoSaid'. A law counts once. -/
mutual
def uptoBulk {H : Type} : DataW H → Nat
  | .lit (.string bytes) => bytes.length + 1
  | .lit _ => 1
  | .nil => 1
  | .ptr d => uptoBulk d + 1
  | .slice elems spare => uptoBulkAll elems + uptoBulkAll spare + 1
  | .agg parts => uptoBulkAll parts + 1
  | .iface _ d => uptoBulk d + 1
  | .map entries => uptoBulkEntries entries + 1
  | .held _ => 1
def uptoBulkAll {H : Type} : List (DataW H) → Nat
  | [] => 0
  | d :: r => uptoBulk d + uptoBulkAll r
def uptoBulkEntries {H : Type} : List (Lit × DataW H) → Nat
  | [] => 0
  | x :: r => uptoBulkEntry x + uptoBulkEntries r
def uptoBulkEntry {H : Type} : Lit × DataW H → Nat
  | (.string bytes, d) => bytes.length + uptoBulk d + 1
  | (_, d) => uptoBulk d + 1
 end
def uptoSmall : (H : Type) → List (DataW H) → Bool := fun _ ds => decide (uptoBulkAll ds ≤ 1048576)
def OpenSpec.upto (s : _root_.Go.ChangeSpec) : _root_.Go.OpenSpec := { _root_.Go.OpenSpec.ofChange s with cond := some uptoSmall }

/-- 'redraftlaw13.WindowNames', WHERE WHAT IT READS IS OF BULK AT MOST 1048576: true; the input reads as it did. -/
def windowNamesUptoRow : OpenClaim := { program := "ytmfabpkliogjlaa", sum := "a01e714530bcc10b3b369992d1e6d4388d7f4c112669b66f6cdc9d1eb564e535", func := "redraft/redraftlaw13.WindowNames", spec := "windowNames", apart := false, narrowed := true }
def WindowNamesUptoSaid : Prop := windowNamesUptoRow.holds Try.pinned (OpenSpec.upto windowNamesSpec)

/-- 'redraftlaw13.WindowWithin', WHERE WHAT IT READS IS OF BULK AT MOST 1048576: true; the input reads as it did. -/
def windowWithinUptoRow : OpenClaim := { program := "ytmfabpkliogjlaa", sum := "a01e714530bcc10b3b369992d1e6d4388d7f4c112669b66f6cdc9d1eb564e535", func := "redraft/redraftlaw13.WindowWithin", spec := "windowWithin", unfollowed := true, recurses := true, apart := false, narrowed := true }
def WindowWithinUptoSaid : Prop := windowWithinUptoRow.holds Try.pinned (OpenSpec.upto windowWithinSpec)

/-- 'redraftlaw13.WindowBounds', WHERE WHAT IT READS IS OF BULK AT MOST 1048576: true; the input reads as it did. -/
def windowBoundsUptoRow : OpenClaim := { program := "ytmfabpkliogjlaa", sum := "a01e714530bcc10b3b369992d1e6d4388d7f4c112669b66f6cdc9d1eb564e535", func := "redraft/redraftlaw13.WindowBounds", spec := "windowBounds", unfollowed := true, recurses := true, apart := false, narrowed := true }
def WindowBoundsUptoSaid : Prop := windowBoundsUptoRow.holds Try.pinned (OpenSpec.upto windowBoundsSpec)

/-- 'redraftlaw13.WindowApart', WHERE WHAT IT READS IS OF BULK AT MOST 1048576: true; the input reads as it did. -/
def windowApartUptoRow : OpenClaim := { program := "ytmfabpkliogjlaa", sum := "a01e714530bcc10b3b369992d1e6d4388d7f4c112669b66f6cdc9d1eb564e535", func := "redraft/redraftlaw13.WindowApart", spec := "windowApart", unfollowed := true, recurses := true, apart := false, narrowed := true }
def WindowApartUptoSaid : Prop := windowApartUptoRow.holds Try.pinned (OpenSpec.upto windowApartSpec)

/-- 'redraftlaw13.WindowExact', WHERE WHAT IT READS IS OF BULK AT MOST 1048576: true; the input reads as it did. -/
def windowExactUptoRow : OpenClaim := { program := "ytmfabpkliogjlaa", sum := "a01e714530bcc10b3b369992d1e6d4388d7f4c112669b66f6cdc9d1eb564e535", func := "redraft/redraftlaw13.WindowExact", spec := "windowExact", unfollowed := true, recurses := true, apart := false, narrowed := true }
def WindowExactUptoSaid : Prop := windowExactUptoRow.holds Try.pinned (OpenSpec.upto windowExactSpec)

/-- 'redraftlaw13.WindowInOrder', WHERE WHAT IT READS IS OF BULK AT MOST 1048576: true; the input reads as it did. -/
def windowInOrderUptoRow : OpenClaim := { program := "ytmfabpkliogjlaa", sum := "a01e714530bcc10b3b369992d1e6d4388d7f4c112669b66f6cdc9d1eb564e535", func := "redraft/redraftlaw13.WindowInOrder", spec := "windowInOrder", unfollowed := true, recurses := true, apart := false, narrowed := true }
def WindowInOrderUptoSaid : Prop := windowInOrderUptoRow.holds Try.pinned (OpenSpec.upto windowInOrderSpec)

/-- 'redraftlaw13.WindowStreams', WHERE WHAT IT READS IS OF BULK AT MOST 1048576: true; the input reads as it did. -/
def windowStreamsUptoRow : OpenClaim := { program := "ytmfabpkliogjlaa", sum := "a01e714530bcc10b3b369992d1e6d4388d7f4c112669b66f6cdc9d1eb564e535", func := "redraft/redraftlaw13.WindowStreams", spec := "windowStreams", unfollowed := true, recurses := true, apart := false, narrowed := true }
def WindowStreamsUptoSaid : Prop := windowStreamsUptoRow.holds Try.pinned (OpenSpec.upto windowStreamsSpec)

end Rows
end Go.Proofs.Ytmfabpkliogjlaa
