/- MarksNames: the closed sentence holds: the law answers true; no condition. -/
import Derived.Test.YtgiiiolnagddnaaProg
import Derived.RowKit
import Derived.Below
import Derived.Tactics
import Derived.Tactics2
import Derived.WalkKit
import Derived.KernelRfl
import Derived.Maps.Own
section
namespace Go.Proofs.Ytgiiiolnagddnaa.NamesW
open Go.RowKit
theorem walk (w : World) : Calls Try.prog 3 #[] w fun e w' => e = .returned (.bool true) ∧ Below w.heap.size w w' := by
  have hmm := @run_makeMap Try.prog
  go_enter Try.func3, Try.ntmps3
  go_wp2_with (go_in)
  go_ret3
  simp only []
  go_wp2_with (go_in)
  go_ret3
  simp only []
  go_wp2_with (go_in)
  go_ret
  refine ⟨rfl, ?_⟩
  repeat' first
    | exact Below.refl _ _
    | exact Nat.le_refl _
    | refine Below.alloc ?_ ?_ _
    | (simp only [World.alloc, Array.size_push]; omega)
end Go.Proofs.Ytgiiiolnagddnaa.NamesW
end
