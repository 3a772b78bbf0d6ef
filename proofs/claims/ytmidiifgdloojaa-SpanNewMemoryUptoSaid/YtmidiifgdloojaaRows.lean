/-
  No cell of these rows narrows 'for every input' (looked for: loops, veiled, ifaces, maps, wideKeys, modest, calm, conditions, laid).
  DERIVED. THE GIVEN ROWS OF THIS SEAT. 13 by the template 'for every input the law returns true; each argument reads behind the call as it read before'; 0 by the template 'total and deterministic' (their statements: YtmidiifgdloojaaTotals.lean).
  GIVEN WITH THE SEED: the statements are not yours to turn. If you find one false, say at which input.
  Laid BY PROGRAM, IN A SANDBOX (cutbox-rows.mjs): the forced cells as the released guide's own fill.sh prints them over the translation 2e09555e3521a4f5… (all of the seat's roots in one cut). By AI agents, Wed Nov 11 2026. No macro, syntax, notation, axiom, sorry.
-/
import Derived.Test.YtmidiifgdloojaaChecked
import GoSem.Claim
import GoSem.ClaimJoined
import GoSem.ClaimMapViews
import Derived.JoinedTies
import Derived.KernelRfl
namespace Go.Proofs.Ytmidiifgdloojaa
/- THE CELL 'sum', in the pinned program and in every row, IS THE sha256 OF THE DUMP (.gsa) THAT YtmidiifgdloojaaProg.lean LOADS. Nothing in Lean hashes anything: it is a label: what it is worth is what the hold of that sum in a sandbox is worth. -/
noncomputable def Try.pinned : Pinned := { name := "ytmidiifgdloojaa", sum := "2e09555e3521a4f5e215df76957f157332f864c953019583fb5b78fe2b7c716a", checked := Try.checked }
namespace Rows
def none {H : Type} : Left H := { results := [], args := [] }

/-- 'redraftlaw02.SpanBackAgain': WHATEVER THE INPUT: true; the input reads as it did. -/
def spanBackAgainSpec : ChangeSpec := { name := "spanBackAgain", fn := fun _ => fun
  | [d] => { results := [.lit (.bool true)], args := [d] }
  | _ => none }
def spanBackAgainRow : OpenClaim := { program := "ytmidiifgdloojaa", sum := "2e09555e3521a4f5e215df76957f157332f864c953019583fb5b78fe2b7c716a", func := "redraft/redraftlaw02.SpanBackAgain", spec := "spanBackAgain", unfollowed := true, recurses := true, apart := false }
def SpanBackAgainSaid : Prop := spanBackAgainRow.holds Try.pinned (OpenSpec.ofChange spanBackAgainSpec)

/-- ITS FALSE NEIGHBOUR: 'it returns false'. Refute it at one input. -/
def spanBackAgainWrong : ChangeSpec := { name := "spanBackAgain", fn := fun _ => fun
  | [d] => { results := [.lit (.bool false)], args := [d] }
  | _ => none }
def SpanBackAgainWrongFalsely : Prop := spanBackAgainRow.holds Try.pinned (OpenSpec.ofChange spanBackAgainWrong)

/-- 'redraftlaw02.SpanAgain': WHATEVER THE INPUT: true; the input reads as it did. -/
def spanAgainSpec : ChangeSpec := { name := "spanAgain", fn := fun _ => fun
  | [d] => { results := [.lit (.bool true)], args := [d] }
  | _ => none }
def spanAgainRow : OpenClaim := { program := "ytmidiifgdloojaa", sum := "2e09555e3521a4f5e215df76957f157332f864c953019583fb5b78fe2b7c716a", func := "redraft/redraftlaw02.SpanAgain", spec := "spanAgain", unfollowed := true, recurses := true, apart := false }
def SpanAgainSaid : Prop := spanAgainRow.holds Try.pinned (OpenSpec.ofChange spanAgainSpec)

/-- ITS FALSE NEIGHBOUR: 'it returns false'. Refute it at one input. -/
def spanAgainWrong : ChangeSpec := { name := "spanAgain", fn := fun _ => fun
  | [d] => { results := [.lit (.bool false)], args := [d] }
  | _ => none }
def SpanAgainWrongFalsely : Prop := spanAgainRow.holds Try.pinned (OpenSpec.ofChange spanAgainWrong)

/-- 'redraftlaw02.SpanOneList': WHATEVER THE INPUT: true; the input reads as it did. -/
def spanOneListSpec : ChangeSpec := { name := "spanOneList", fn := fun _ => fun
  | [d] => { results := [.lit (.bool true)], args := [d] }
  | _ => none }
def spanOneListRow : OpenClaim := { program := "ytmidiifgdloojaa", sum := "2e09555e3521a4f5e215df76957f157332f864c953019583fb5b78fe2b7c716a", func := "redraft/redraftlaw02.SpanOneList", spec := "spanOneList", unfollowed := true, recurses := true, apart := false }
def SpanOneListSaid : Prop := spanOneListRow.holds Try.pinned (OpenSpec.ofChange spanOneListSpec)

/-- ITS FALSE NEIGHBOUR: 'it returns false'. Refute it at one input. -/
def spanOneListWrong : ChangeSpec := { name := "spanOneList", fn := fun _ => fun
  | [d] => { results := [.lit (.bool false)], args := [d] }
  | _ => none }
def SpanOneListWrongFalsely : Prop := spanOneListRow.holds Try.pinned (OpenSpec.ofChange spanOneListWrong)

/-- 'redraftlaw02.SpanCarries': WHATEVER THE INPUT: true; the input reads as it did. -/
def spanCarriesSpec : ChangeSpec := { name := "spanCarries", fn := fun _ => fun
  | [d] => { results := [.lit (.bool true)], args := [d] }
  | _ => none }
def spanCarriesRow : OpenClaim := { program := "ytmidiifgdloojaa", sum := "2e09555e3521a4f5e215df76957f157332f864c953019583fb5b78fe2b7c716a", func := "redraft/redraftlaw02.SpanCarries", spec := "spanCarries", unfollowed := true, recurses := true, apart := false }
def SpanCarriesSaid : Prop := spanCarriesRow.holds Try.pinned (OpenSpec.ofChange spanCarriesSpec)

/-- ITS FALSE NEIGHBOUR: 'it returns false'. Refute it at one input. -/
def spanCarriesWrong : ChangeSpec := { name := "spanCarries", fn := fun _ => fun
  | [d] => { results := [.lit (.bool false)], args := [d] }
  | _ => none }
def SpanCarriesWrongFalsely : Prop := spanCarriesRow.holds Try.pinned (OpenSpec.ofChange spanCarriesWrong)

/-- 'redraftlaw02.SpanRanks': WHATEVER THE INPUT: true; the input reads as it did. -/
def spanRanksSpec : ChangeSpec := { name := "spanRanks", fn := fun _ => fun
  | [d] => { results := [.lit (.bool true)], args := [d] }
  | _ => none }
def spanRanksRow : OpenClaim := { program := "ytmidiifgdloojaa", sum := "2e09555e3521a4f5e215df76957f157332f864c953019583fb5b78fe2b7c716a", func := "redraft/redraftlaw02.SpanRanks", spec := "spanRanks", unfollowed := true, recurses := true, apart := false }
def SpanRanksSaid : Prop := spanRanksRow.holds Try.pinned (OpenSpec.ofChange spanRanksSpec)

/-- ITS FALSE NEIGHBOUR: 'it returns false'. Refute it at one input. -/
def spanRanksWrong : ChangeSpec := { name := "spanRanks", fn := fun _ => fun
  | [d] => { results := [.lit (.bool false)], args := [d] }
  | _ => none }
def SpanRanksWrongFalsely : Prop := spanRanksRow.holds Try.pinned (OpenSpec.ofChange spanRanksWrong)

/-- 'redraftlaw02.SpanIsSet': WHATEVER THE INPUT: true; the input reads as it did. -/
def spanIsSetSpec : ChangeSpec := { name := "spanIsSet", fn := fun _ => fun
  | [d] => { results := [.lit (.bool true)], args := [d] }
  | _ => none }
def spanIsSetRow : OpenClaim := { program := "ytmidiifgdloojaa", sum := "2e09555e3521a4f5e215df76957f157332f864c953019583fb5b78fe2b7c716a", func := "redraft/redraftlaw02.SpanIsSet", spec := "spanIsSet", unfollowed := true, recurses := true, apart := false }
def SpanIsSetSaid : Prop := spanIsSetRow.holds Try.pinned (OpenSpec.ofChange spanIsSetSpec)

/-- ITS FALSE NEIGHBOUR: 'it returns false'. Refute it at one input. -/
def spanIsSetWrong : ChangeSpec := { name := "spanIsSet", fn := fun _ => fun
  | [d] => { results := [.lit (.bool false)], args := [d] }
  | _ => none }
def SpanIsSetWrongFalsely : Prop := spanIsSetRow.holds Try.pinned (OpenSpec.ofChange spanIsSetWrong)

/-- 'redraftlaw02.SpanChecks': WHATEVER THE INPUT: true; the input reads as it did. -/
def spanChecksSpec : ChangeSpec := { name := "spanChecks", fn := fun _ => fun
  | [d] => { results := [.lit (.bool true)], args := [d] }
  | _ => none }
def spanChecksRow : OpenClaim := { program := "ytmidiifgdloojaa", sum := "2e09555e3521a4f5e215df76957f157332f864c953019583fb5b78fe2b7c716a", func := "redraft/redraftlaw02.SpanChecks", spec := "spanChecks", unfollowed := true, recurses := true, apart := false }
def SpanChecksSaid : Prop := spanChecksRow.holds Try.pinned (OpenSpec.ofChange spanChecksSpec)

/-- ITS FALSE NEIGHBOUR: 'it returns false'. Refute it at one input. -/
def spanChecksWrong : ChangeSpec := { name := "spanChecks", fn := fun _ => fun
  | [d] => { results := [.lit (.bool false)], args := [d] }
  | _ => none }
def SpanChecksWrongFalsely : Prop := spanChecksRow.holds Try.pinned (OpenSpec.ofChange spanChecksWrong)

/-- 'redraftlaw02.SpanSets': WHATEVER THE INPUT: true; the input reads as it did. -/
def spanSetsSpec : ChangeSpec := { name := "spanSets", fn := fun _ => fun
  | [d] => { results := [.lit (.bool true)], args := [d] }
  | _ => none }
def spanSetsRow : OpenClaim := { program := "ytmidiifgdloojaa", sum := "2e09555e3521a4f5e215df76957f157332f864c953019583fb5b78fe2b7c716a", func := "redraft/redraftlaw02.SpanSets", spec := "spanSets", unfollowed := true, recurses := true, apart := false }
def SpanSetsSaid : Prop := spanSetsRow.holds Try.pinned (OpenSpec.ofChange spanSetsSpec)

/-- ITS FALSE NEIGHBOUR: 'it returns false'. Refute it at one input. -/
def spanSetsWrong : ChangeSpec := { name := "spanSets", fn := fun _ => fun
  | [d] => { results := [.lit (.bool false)], args := [d] }
  | _ => none }
def SpanSetsWrongFalsely : Prop := spanSetsRow.holds Try.pinned (OpenSpec.ofChange spanSetsWrong)

/-- 'redraftlaw02.SpanCounts': WHATEVER THE INPUT: true; the input reads as it did. -/
def spanCountsSpec : ChangeSpec := { name := "spanCounts", fn := fun _ => fun
  | [d] => { results := [.lit (.bool true)], args := [d] }
  | _ => none }
def spanCountsRow : OpenClaim := { program := "ytmidiifgdloojaa", sum := "2e09555e3521a4f5e215df76957f157332f864c953019583fb5b78fe2b7c716a", func := "redraft/redraftlaw02.SpanCounts", spec := "spanCounts", unfollowed := true, recurses := true, apart := false }
def SpanCountsSaid : Prop := spanCountsRow.holds Try.pinned (OpenSpec.ofChange spanCountsSpec)

/-- ITS FALSE NEIGHBOUR: 'it returns false'. Refute it at one input. -/
def spanCountsWrong : ChangeSpec := { name := "spanCounts", fn := fun _ => fun
  | [d] => { results := [.lit (.bool false)], args := [d] }
  | _ => none }
def SpanCountsWrongFalsely : Prop := spanCountsRow.holds Try.pinned (OpenSpec.ofChange spanCountsWrong)

/-- 'redraftlaw02.SpanMoves': WHATEVER THE INPUT: true; the input reads as it did. -/
def spanMovesSpec : ChangeSpec := { name := "spanMoves", fn := fun _ => fun
  | [d] => { results := [.lit (.bool true)], args := [d] }
  | _ => none }
def spanMovesRow : OpenClaim := { program := "ytmidiifgdloojaa", sum := "2e09555e3521a4f5e215df76957f157332f864c953019583fb5b78fe2b7c716a", func := "redraft/redraftlaw02.SpanMoves", spec := "spanMoves", unfollowed := true, recurses := true, apart := false }
def SpanMovesSaid : Prop := spanMovesRow.holds Try.pinned (OpenSpec.ofChange spanMovesSpec)

/-- ITS FALSE NEIGHBOUR: 'it returns false'. Refute it at one input. -/
def spanMovesWrong : ChangeSpec := { name := "spanMoves", fn := fun _ => fun
  | [d] => { results := [.lit (.bool false)], args := [d] }
  | _ => none }
def SpanMovesWrongFalsely : Prop := spanMovesRow.holds Try.pinned (OpenSpec.ofChange spanMovesWrong)

/-- 'redraftlaw02.SpanGives': WHATEVER THE INPUT: true; the input reads as it did. -/
def spanGivesSpec : ChangeSpec := { name := "spanGives", fn := fun _ => fun
  | [d] => { results := [.lit (.bool true)], args := [d] }
  | _ => none }
def spanGivesRow : OpenClaim := { program := "ytmidiifgdloojaa", sum := "2e09555e3521a4f5e215df76957f157332f864c953019583fb5b78fe2b7c716a", func := "redraft/redraftlaw02.SpanGives", spec := "spanGives", unfollowed := true, recurses := true, apart := false }
def SpanGivesSaid : Prop := spanGivesRow.holds Try.pinned (OpenSpec.ofChange spanGivesSpec)

/-- ITS FALSE NEIGHBOUR: 'it returns false'. Refute it at one input. -/
def spanGivesWrong : ChangeSpec := { name := "spanGives", fn := fun _ => fun
  | [d] => { results := [.lit (.bool false)], args := [d] }
  | _ => none }
def SpanGivesWrongFalsely : Prop := spanGivesRow.holds Try.pinned (OpenSpec.ofChange spanGivesWrong)

/-- 'redraftlaw02.SpanAll': WHATEVER THE INPUT: true; the input reads as it did. -/
def spanAllSpec : ChangeSpec := { name := "spanAll", fn := fun _ => fun
  | [d] => { results := [.lit (.bool true)], args := [d] }
  | _ => none }
def spanAllRow : OpenClaim := { program := "ytmidiifgdloojaa", sum := "2e09555e3521a4f5e215df76957f157332f864c953019583fb5b78fe2b7c716a", func := "redraft/redraftlaw02.SpanAll", spec := "spanAll", unfollowed := true, recurses := true, apart := false }
def SpanAllSaid : Prop := spanAllRow.holds Try.pinned (OpenSpec.ofChange spanAllSpec)

/-- ITS FALSE NEIGHBOUR: 'it returns false'. Refute it at one input. -/
def spanAllWrong : ChangeSpec := { name := "spanAll", fn := fun _ => fun
  | [d] => { results := [.lit (.bool false)], args := [d] }
  | _ => none }
def SpanAllWrongFalsely : Prop := spanAllRow.holds Try.pinned (OpenSpec.ofChange spanAllWrong)

/-- 'redraftlaw02.SpanNewMemory': WHATEVER THE INPUT: true; the input reads as it did. -/
def spanNewMemorySpec : ChangeSpec := { name := "spanNewMemory", fn := fun _ => fun
  | [d] => { results := [.lit (.bool true)], args := [d] }
  | _ => none }
def spanNewMemoryRow : OpenClaim := { program := "ytmidiifgdloojaa", sum := "2e09555e3521a4f5e215df76957f157332f864c953019583fb5b78fe2b7c716a", func := "redraft/redraftlaw02.SpanNewMemory", spec := "spanNewMemory", unfollowed := true, recurses := true, apart := false }
def SpanNewMemorySaid : Prop := spanNewMemoryRow.holds Try.pinned (OpenSpec.ofChange spanNewMemorySpec)

/-- ITS FALSE NEIGHBOUR: 'it returns false'. Refute it at one input. -/
def spanNewMemoryWrong : ChangeSpec := { name := "spanNewMemory", fn := fun _ => fun
  | [d] => { results := [.lit (.bool false)], args := [d] }
  | _ => none }
def SpanNewMemoryWrongFalsely : Prop := spanNewMemoryRow.holds Try.pinned (OpenSpec.ofChange spanNewMemoryWrong)

/- THE SECOND FORM. 'bulk': how many values and letters a reading holds, each counted each time it is reached (what is shared counts as often as it is met; a slice's spare places count too). A statement '..UptoSaid' is the law's where the arguments, and the package variables that the reading takes, are together of bulk at most 1048576: NARROWER than '..Said'. Prove '..Said' where nothing that the law and all that it calls make is longer than what came in: it says more and counts as full. Else prove '..UptoSaid'. A law counts once. -/
mutual
def uptoBulk {H : Type} : DataW H → Nat
  | .lit (.string bytes) => bytes.length + 1
  | .lit _ => 1
  | .nil => 1
  | .ptr d => uptoBulk d + 1
  | .slice elems spare => uptoBulkAll elems + uptoBulkAll spare + 1
  | .agg parts => uptoBulkAll parts + 1
  | .iface _ d => uptoBulk d + 1
  | .map entries => uptoBulkEntries entries + 1
  | .held _ => 1
def uptoBulkAll {H : Type} : List (DataW H) → Nat
  | [] => 0
  | d :: r => uptoBulk d + uptoBulkAll r
def uptoBulkEntries {H : Type} : List (Lit × DataW H) → Nat
  | [] => 0
  | x :: r => uptoBulkEntry x + uptoBulkEntries r
def uptoBulkEntry {H : Type} : Lit × DataW H → Nat
  | (.string bytes, d) => bytes.length + uptoBulk d + 1
  | (_, d) => uptoBulk d + 1
 end
def uptoSmall : (H : Type) → List (DataW H) → Bool := fun _ ds => decide (uptoBulkAll ds ≤ 1048576)
def OpenSpec.upto (s : _root_.Go.ChangeSpec) : _root_.Go.OpenSpec := { _root_.Go.OpenSpec.ofChange s with cond := some uptoSmall }

/-- 'redraftlaw02.SpanBackAgain', WHERE WHAT IT READS IS OF BULK AT MOST 1048576: true; the input reads as it did. -/
def spanBackAgainUptoRow : OpenClaim := { program := "ytmidiifgdloojaa", sum := "2e09555e3521a4f5e215df76957f157332f864c953019583fb5b78fe2b7c716a", func := "redraft/redraftlaw02.SpanBackAgain", spec := "spanBackAgain", unfollowed := true, recurses := true, apart := false, narrowed := true }
def SpanBackAgainUptoSaid : Prop := spanBackAgainUptoRow.holds Try.pinned (OpenSpec.upto spanBackAgainSpec)

/-- 'redraftlaw02.SpanAgain', WHERE WHAT IT READS IS OF BULK AT MOST 1048576: true; the input reads as it did. -/
def spanAgainUptoRow : OpenClaim := { program := "ytmidiifgdloojaa", sum := "2e09555e3521a4f5e215df76957f157332f864c953019583fb5b78fe2b7c716a", func := "redraft/redraftlaw02.SpanAgain", spec := "spanAgain", unfollowed := true, recurses := true, apart := false, narrowed := true }
def SpanAgainUptoSaid : Prop := spanAgainUptoRow.holds Try.pinned (OpenSpec.upto spanAgainSpec)

/-- 'redraftlaw02.SpanOneList', WHERE WHAT IT READS IS OF BULK AT MOST 1048576: true; the input reads as it did. -/
def spanOneListUptoRow : OpenClaim := { program := "ytmidiifgdloojaa", sum := "2e09555e3521a4f5e215df76957f157332f864c953019583fb5b78fe2b7c716a", func := "redraft/redraftlaw02.SpanOneList", spec := "spanOneList", unfollowed := true, recurses := true, apart := false, narrowed := true }
def SpanOneListUptoSaid : Prop := spanOneListUptoRow.holds Try.pinned (OpenSpec.upto spanOneListSpec)

/-- 'redraftlaw02.SpanCarries', WHERE WHAT IT READS IS OF BULK AT MOST 1048576: true; the input reads as it did. -/
def spanCarriesUptoRow : OpenClaim := { program := "ytmidiifgdloojaa", sum := "2e09555e3521a4f5e215df76957f157332f864c953019583fb5b78fe2b7c716a", func := "redraft/redraftlaw02.SpanCarries", spec := "spanCarries", unfollowed := true, recurses := true, apart := false, narrowed := true }
def SpanCarriesUptoSaid : Prop := spanCarriesUptoRow.holds Try.pinned (OpenSpec.upto spanCarriesSpec)

/-- 'redraftlaw02.SpanRanks', WHERE WHAT IT READS IS OF BULK AT MOST 1048576: true; the input reads as it did. -/
def spanRanksUptoRow : OpenClaim := { program := "ytmidiifgdloojaa", sum := "2e09555e3521a4f5e215df76957f157332f864c953019583fb5b78fe2b7c716a", func := "redraft/redraftlaw02.SpanRanks", spec := "spanRanks", unfollowed := true, recurses := true, apart := false, narrowed := true }
def SpanRanksUptoSaid : Prop := spanRanksUptoRow.holds Try.pinned (OpenSpec.upto spanRanksSpec)

/-- 'redraftlaw02.SpanIsSet', WHERE WHAT IT READS IS OF BULK AT MOST 1048576: true; the input reads as it did. -/
def spanIsSetUptoRow : OpenClaim := { program := "ytmidiifgdloojaa", sum := "2e09555e3521a4f5e215df76957f157332f864c953019583fb5b78fe2b7c716a", func := "redraft/redraftlaw02.SpanIsSet", spec := "spanIsSet", unfollowed := true, recurses := true, apart := false, narrowed := true }
def SpanIsSetUptoSaid : Prop := spanIsSetUptoRow.holds Try.pinned (OpenSpec.upto spanIsSetSpec)

/-- 'redraftlaw02.SpanChecks', WHERE WHAT IT READS IS OF BULK AT MOST 1048576: true; the input reads as it did. -/
def spanChecksUptoRow : OpenClaim := { program := "ytmidiifgdloojaa", sum := "2e09555e3521a4f5e215df76957f157332f864c953019583fb5b78fe2b7c716a", func := "redraft/redraftlaw02.SpanChecks", spec := "spanChecks", unfollowed := true, recurses := true, apart := false, narrowed := true }
def SpanChecksUptoSaid : Prop := spanChecksUptoRow.holds Try.pinned (OpenSpec.upto spanChecksSpec)

/-- 'redraftlaw02.SpanSets', WHERE WHAT IT READS IS OF BULK AT MOST 1048576: true; the input reads as it did. -/
def spanSetsUptoRow : OpenClaim := { program := "ytmidiifgdloojaa", sum := "2e09555e3521a4f5e215df76957f157332f864c953019583fb5b78fe2b7c716a", func := "redraft/redraftlaw02.SpanSets", spec := "spanSets", unfollowed := true, recurses := true, apart := false, narrowed := true }
def SpanSetsUptoSaid : Prop := spanSetsUptoRow.holds Try.pinned (OpenSpec.upto spanSetsSpec)

/-- 'redraftlaw02.SpanCounts', WHERE WHAT IT READS IS OF BULK AT MOST 1048576: true; the input reads as it did. -/
def spanCountsUptoRow : OpenClaim := { program := "ytmidiifgdloojaa", sum := "2e09555e3521a4f5e215df76957f157332f864c953019583fb5b78fe2b7c716a", func := "redraft/redraftlaw02.SpanCounts", spec := "spanCounts", unfollowed := true, recurses := true, apart := false, narrowed := true }
def SpanCountsUptoSaid : Prop := spanCountsUptoRow.holds Try.pinned (OpenSpec.upto spanCountsSpec)

/-- 'redraftlaw02.SpanMoves', WHERE WHAT IT READS IS OF BULK AT MOST 1048576: true; the input reads as it did. -/
def spanMovesUptoRow : OpenClaim := { program := "ytmidiifgdloojaa", sum := "2e09555e3521a4f5e215df76957f157332f864c953019583fb5b78fe2b7c716a", func := "redraft/redraftlaw02.SpanMoves", spec := "spanMoves", unfollowed := true, recurses := true, apart := false, narrowed := true }
def SpanMovesUptoSaid : Prop := spanMovesUptoRow.holds Try.pinned (OpenSpec.upto spanMovesSpec)

/-- 'redraftlaw02.SpanGives', WHERE WHAT IT READS IS OF BULK AT MOST 1048576: true; the input reads as it did. -/
def spanGivesUptoRow : OpenClaim := { program := "ytmidiifgdloojaa", sum := "2e09555e3521a4f5e215df76957f157332f864c953019583fb5b78fe2b7c716a", func := "redraft/redraftlaw02.SpanGives", spec := "spanGives", unfollowed := true, recurses := true, apart := false, narrowed := true }
def SpanGivesUptoSaid : Prop := spanGivesUptoRow.holds Try.pinned (OpenSpec.upto spanGivesSpec)

/-- 'redraftlaw02.SpanAll', WHERE WHAT IT READS IS OF BULK AT MOST 1048576: true; the input reads as it did. -/
def spanAllUptoRow : OpenClaim := { program := "ytmidiifgdloojaa", sum := "2e09555e3521a4f5e215df76957f157332f864c953019583fb5b78fe2b7c716a", func := "redraft/redraftlaw02.SpanAll", spec := "spanAll", unfollowed := true, recurses := true, apart := false, narrowed := true }
def SpanAllUptoSaid : Prop := spanAllUptoRow.holds Try.pinned (OpenSpec.upto spanAllSpec)

/-- 'redraftlaw02.SpanNewMemory', WHERE WHAT IT READS IS OF BULK AT MOST 1048576: true; the input reads as it did. -/
def spanNewMemoryUptoRow : OpenClaim := { program := "ytmidiifgdloojaa", sum := "2e09555e3521a4f5e215df76957f157332f864c953019583fb5b78fe2b7c716a", func := "redraft/redraftlaw02.SpanNewMemory", spec := "spanNewMemory", unfollowed := true, recurses := true, apart := false, narrowed := true }
def SpanNewMemoryUptoSaid : Prop := spanNewMemoryUptoRow.holds Try.pinned (OpenSpec.upto spanNewMemorySpec)

end Rows
end Go.Proofs.Ytmidiifgdloojaa
