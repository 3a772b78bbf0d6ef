/- Nothing that is handed in is changed, and each list that is answered is memory of its own, where the arguments are of bulk at most 1048576. -/
import Derived.Test.YtmidiifgdloojaaRows
import Derived.WalkKit
import Derived.ProofKit
import Derived.OpenShut
import Derived.ShutString
import Derived.ChangeOld
import Derived.Below
import Derived.SizedLaws
import Derived.JoinedCond
import Derived.Deep.CondSized
import Derived.Test.YtmidiifgdloojaaClaimNewMem3
namespace Go.Proofs.Ytmidiifgdloojaa.RowSpanNewMemory
open Go.ChangeShapes Go.WideShapes Go.ChangeAt Go.RowKit
open Go.ChangeMaps (open_string shut_string)
open Go.Proofs.YtmidiifgdloojaaR Go.Proofs.Ytmidiifgdloojaa.SpanReads Go.Proofs.Ytmidiifgdloojaa.Pr Go.Proofs.YtmidiifgdloojaaW.PrintWords
set_option linter.unusedVariables false
theorem own : ownKnob Try.prog.godebug = none := by kernel_rfl
theorem laidOut : laidOutB Try.prog = true := by kernel_rfl
set_option maxRecDepth 100000 in
theorem contract (H : Type) (enc : TypeId × Value → H) (W : World) (base : Nat) (args : Array Value) (ds gs : List (DataW H)) (before : List MemPlace)
    (hval0 : ∀ (j : Nat) t v, Try.f15.params[j]? = some t → args[j]? = some v → Value.okWide Try.prog W .any base t v)
    (hW : DataW.Whole enc Try.prog Try.f15.params.toList Rows.spanNewMemorySpec.vars false W args.toList ds gs before)
    (hsz0 : (DataW.weightsEach Try.prog (Try.f15.params.toList ++ Rows.spanNewMemorySpec.plain.varTypes Try.prog) (ds ++ gs)).all (· ≤ reachBytes) = true) :
    Calls Try.prog 15 args W fun e W' => ∃ v, e = .returned v ∧ Rows.spanNewMemorySpec.post enc Try.prog Try.f15 false true false false W args v W' := by
  have hsz : (DataW.weightsEach Try.prog (Try.f15.params.toList ++ Rows.spanNewMemorySpec.plain.varTypes Try.prog) (ds ++ gs)).all (· ≤ reachBytes) = true := hsz0
  have hval : ∀ (j : Nat) t v, Try.f15.params[j]? = some t → args[j]? = some v → Value.okWide Try.prog W .any base t v := hval0
  have hW' := hW
  obtain ⟨p, q, hA0, hV, rfl, hfz, hnd⟩ := hW
  have hA : DataW.TrodAll enc Try.prog W 0 (fun _ => true) true Try.f15.params.toList args.toList ds p := hA0
  rw [Try.params15] at hA hval hsz
  obtain ⟨v0, vs0, d0, ds0, p0, q0, hargs, rfl, rfl, h0, r0⟩ := trodAll_cons hA
  obtain ⟨rfl, rfl, rfl⟩ := trodAll_nil r0
  obtain rfl : args = #[v0] := by cases args; simp_all
  obtain ⟨rfl, rfl⟩ := trodVars_none hV
  have k0 := h0
  have lt0 : ∀ x ∈ p0, x.block < W.heap.size := by obtain ⟨m, hm⟩ := k0; exact DataW.trod_lt m _ _ _ hm
  obtain ⟨x0, hx0, hq0⟩ := agg_arg h0 hsz (j := 0) rfl rfl reads25
  obtain ⟨pp, hp1, hp2, hp3⟩ := SpanFns.right_ev (SpanFns.wfl_short hq0.1)
  obtain ⟨qq, hq1, hq2, hq3⟩ := SpanFns.right_ev (SpanFns.wfl_short hq0.2.1)
  obtain ⟨kk, hk⟩ := hp1.rounds
  obtain ⟨kq, hkq⟩ := hq1.rounds
  clear hA0 hval0 hsz0 hsz
  obtain ⟨A0, c0, A1, c1, A2, c2, rfl, u0, u1, u2, u3, u4, u5⟩ := open25 hx0
  refine (SpanEach.newmem_calls u0 u1 u2 u3 hk hp2 hp3 hkq hq2 hq3 ?_).mono fun e W' ⟨he, bel⟩ => ?_
  · have := hq0.2.2.2.2
    simp [Lit.wf, IntKind.min, IntKind.max, IntKind.signed, IntKind.bits] at this
    omega
  subst he
  exact ⟨_, rfl, _, _, _, [], _, [], hW', trodAll_mk1 (shut_bool Try.underlying4 _), (trodAll_cons_mk (Below.trod laidOut (by kernel_rfl) (of_decide_eq_true (by kernel_rfl)) k0 bel lt0) trodAll_mk0), rfl, bel.frame _, fun h => by cases h⟩
set_option maxRecDepth 100000 in
theorem lifted (os : Os) (started : os.Started) (H : Type) (enc : TypeId × Value → H) (F : Stop.Interp) :
    ReturnsInHanded {} Try.checked os 15 .any ((Rows.OpenSpec.upto Rows.spanNewMemorySpec).pre6 enc Try.prog Try.f15 Rows.spanNewMemoryUptoRow.domain false) (((Rows.OpenSpec.upto Rows.spanNewMemorySpec).at F).post enc Try.prog Try.f15 false true false false) := by
  refine returnsInHanded_of_cond_sized (C := Try.checked) (s := Rows.OpenSpec.upto Rows.spanNewMemorySpec) (k := Rows.uptoSmall) rfl own started (by kernel_rfl) Try.func15
    (OpenSpec.witness (enc := enc) (C := Try.checked) (s := Rows.OpenSpec.upto Rows.spanNewMemorySpec) (k := Rows.uptoSmall) rfl false ⟨#[], #[(.agg #[.slice none 0 0, .slice none 0 0, .slice none 0 0, .int .i64 0, .int .i64 0])], []⟩ 8 (by kernel_rfl) (by kernel_rfl) (by kernel_rfl)
      (x := ([.agg [.nil, .nil, .nil, .lit (.int .i64 0), .lit (.int .i64 0)]], [], [])) (by kernel_rfl) rfl (by kernel_rfl)) ?_
  intro W base args ds gs before hval hW _ _ hsz _
  exact contract H enc W base args ds gs before hval hW hsz
theorem over : Rows.spanNewMemoryUptoRow.holds Try.pinned (Rows.OpenSpec.upto Rows.spanNewMemorySpec) :=
  OpenClaim.holds_of_cond 15 Try.f15 rfl rfl rfl rfl rfl rfl rfl ⟨rfl, rfl, rfl, rfl, rfl⟩ rfl rfl rfl rfl rfl (by kernel_rfl) Try.func15 (by kernel_rfl)
    (of_decide_eq_true (by kernel_rfl)) (by unfold Func.isWrapper; first | (rw [if_pos (by decide +kernel)]; kernel_rfl) | (rw [if_neg (by decide +kernel)]; exact ⟨rfl, rfl⟩))
    (fun os started H enc _ F => lifted os started H enc F)
theorem proved : Rows.SpanNewMemoryUptoSaid := over
end Go.Proofs.Ytmidiifgdloojaa.RowSpanNewMemory
namespace Go.Proofs.Ytmidiifgdloojaa
theorem spanNewMemory_holds : Rows.SpanNewMemoryUptoSaid := RowSpanNewMemory.proved
#print axioms spanNewMemory_holds
end Go.Proofs.Ytmidiifgdloojaa
