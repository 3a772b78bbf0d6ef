/- Proved: behind every change of a script a rope holds no fewer pieces than runs and no more than those and a sixteenth of the cells, and its levels are within their bounds; for all inputs. -/
import Derived.Test.YteeigokkafcaaaaDoorRows
import Derived.Test.YteeigokkafcaaaaDoorCards
import Derived.Test.YteeigokkafcaaaaDoorTie
import Derived.WalkKit
import Derived.ProofKit
import Derived.OpenShut
import Derived.ShutString
import Derived.ChangeOld
import Derived.Below
import Derived.SizedLaws
import Derived.SevenTiedAt
import Derived.Test.YteeigokkafcaaaaDoorClaimKept4
namespace Go.Proofs.YteeigokkafcaaaaDoor.RowRopeKept
open Go.ChangeShapes Go.WideShapes Go.ChangeAt Go.RowKit Go.Proofs.YteeigokkafcaaaaDoorR Go.Proofs.YteeigokkafcaaaaDoorLaid Go.Proofs.YteeigokkafcaaaaDoorRope Go.Proofs.YteeigokkafcaaaaDoorW.PrintWords
open Go.ChangeMaps (open_string shut_string)
set_option linter.unusedVariables false
theorem laidOut : laidOutB Tryd.prog = true := by kernel_rfl
theorem reads97 : Reads Tryd.prog 97 k97 (fun _ => True) := (reads_struct (d := Kd.pair (Kd.int .i64) (Kd.int .i64)) (f := fun x : Int × Int => x) (fun y => y) (fun _ => rfl) Tryd.underlying97 (by kernel_rfl) (readsL_cons (reads_int Tryd.underlying3) (by kernel_rfl) (by kernel_rfl) (readsL_one (reads_int Tryd.underlying3) (by kernel_rfl) (by kernel_rfl)))).weaken (fun _ _ => trivial)
theorem reads44 : Reads Tryd.prog 44 k44 (fun _ => True) := (reads_struct (d := Kd.pair (Kd.int .i64) (Kd.pair (Kd.int .i64) (Kd.pair (Kd.int .i64) (Kd.int .i64)))) (f := fun x : Int × Int × Int × Int => x) (fun y => y) (fun _ => rfl) Tryd.underlying44 (by kernel_rfl) (readsL_cons (reads_int Tryd.underlying3) (by kernel_rfl) (by kernel_rfl) (readsL_cons (reads_int Tryd.underlying3) (by kernel_rfl) (by kernel_rfl) (readsL_cons (reads_int Tryd.underlying3) (by kernel_rfl) (by kernel_rfl) (readsL_one (reads_int Tryd.underlying3) (by kernel_rfl) (by kernel_rfl)))))).weaken (fun _ _ => trivial)
set_option maxRecDepth 100000 in
theorem lifted (os : Os) (started : os.Started) (H : Type) (enc : TypeId × Value → H) :
    ReturnsInHanded {} Tryd.checked os 4 .any (fun w args => (Rows.ropeKeptSpec.pre enc Tryd.prog Tryd.f4 [] false w args ∧ laidMetH Tryd.prog laidL w) ∧ sizedMet enc Tryd.prog Tryd.f4 (OpenSpec.ofChange Rows.ropeKeptSpec) false w args)
      (Rows.ropeKeptSpec.post enc Tryd.prog Tryd.f4 false true false false) := by
  refine returnsInHanded_of_change_and (C := Tryd.checked) (X := fun w _ => laidMetH Tryd.prog laidL w) (fun _ _ _ hh h => h.of_heap hh) own started (by kernel_rfl) Tryd.func4
    (ChangeSpec.witness_shaped (enc := enc) (C := Tryd.checked) (os := os) (X := fun w _ => laidMetH Tryd.prog laidL w) false (World.doorLaid Tryd.prog 19 os) #[.slice none 0 0, .slice none 0 0] 8 rfl (World.shaped_of_RefB (by kernel_rfl) (by kernel_rfl)) (by kernel_rfl) (by kernel_rfl) (by kernel_rfl) (door_met os _)) ?_
  intro W base args ds gs before hval0 hW hcnd hsz0 hL _
  have hsz : (DataW.weightsEach Tryd.prog (Tryd.f4.params.toList ++ Rows.ropeKeptSpec.plain.varTypes Tryd.prog) (ds ++ gs)).all (· ≤ reachBytes) = true := hsz0
  have hval : ∀ (j : Nat) t v, Tryd.f4.params[j]? = some t → args[j]? = some v → Value.okWide Tryd.prog W .any base t v := hval0
  have hB := bars_of_laid hL
  have hW' := hW
  obtain ⟨p, q, hA0, hV, rfl, hfz, hnd⟩ := hW
  have hA : DataW.TrodAll enc Tryd.prog W 0 (fun _ => true) true Tryd.f4.params.toList args.toList ds p := hA0
  rw [Tryd.params4] at hA hval hsz
  obtain ⟨v0, vs0, d0, ds0, p0, q0, hargs, rfl, rfl, h0, r0⟩ := trodAll_cons hA
  obtain ⟨v1, vs1, d1, ds1, p1, q1, rfl, rfl, rfl, h1, r1⟩ := trodAll_cons r0
  obtain ⟨rfl, rfl, rfl⟩ := trodAll_nil r1
  obtain rfl : args = #[v0, v1] := by cases args; simp_all
  obtain ⟨rfl, rfl⟩ := trodVars_none hV
  have k0 := h0
  have lt0 : ∀ x ∈ p0, x.block < W.heap.size := by obtain ⟨m, hm⟩ := k0; exact DataW.trod_lt m _ _ _ hm
  obtain ⟨A0, len0, cap0, rfl⟩ := okWide_slice Tryd.underlying22 (hval 0 22 v0 rfl rfl)
  obtain ⟨l0, rfl, hc0, hr0, hq0⟩ := slice_arg h0 hsz (j := 0) rfl rfl (reads_slice (B := 16) Tryd.underlying22 (by kernel_rfl) (by kernel_rfl) reads97)
  have k1 := h1
  have lt1 : ∀ x ∈ p1, x.block < W.heap.size := by obtain ⟨m, hm⟩ := k1; exact DataW.trod_lt m _ _ _ hm
  obtain ⟨A1, len1, cap1, rfl⟩ := okWide_slice Tryd.underlying38 (hval 1 38 v1 rfl rfl)
  obtain ⟨l1, rfl, hc1, hr1, hq1⟩ := slice_arg h1 hsz (j := 1) rfl rfl (reads_slice (B := 32) Tryd.underlying38 (by kernel_rfl) (by kernel_rfl) reads44)
  clear hA0 hval0 hsz0 hsz hL hcnd
  refine (Go.Proofs.YteeigokkafcaaaaDoorRope.P2.kept_calls hr0 hc0 (by have := hq0.1; omega) hr1 (by have := hq1.1; omega) hB).mono fun e W' ⟨he, bel⟩ => ?_
  subst he
  exact ⟨_, rfl, _, _, _, [], _, [], hW', trodAll_mk1 (shut_bool Tryd.underlying4 _), (trodAll_cons_mk (Below.trod laidOut (by kernel_rfl) (of_decide_eq_true (by kernel_rfl)) k0 bel lt0) (trodAll_cons_mk (Below.trod laidOut (by kernel_rfl) (of_decide_eq_true (by kernel_rfl)) k1 bel lt1) trodAll_mk0)), rfl, bel.frame _, fun h => by cases h⟩
theorem over : Rows.ropeKeptRow.holds Tryd.pinned (OpenSpec.ofChange Rows.ropeKeptSpec) :=
  OpenClaim.holds_of_wide 4 Tryd.f4 rfl rfl rfl rfl rfl rfl rfl ⟨rfl, rfl, rfl, rfl, rfl⟩ rfl rfl rfl rfl rfl (by kernel_rfl) Tryd.func4 (by kernel_rfl)
    (of_decide_eq_true (by kernel_rfl)) (by unfold Func.isWrapper; first | (rw [if_pos (by decide +kernel)]; kernel_rfl) | (rw [if_neg (by decide +kernel)]; exact ⟨rfl, rfl⟩))
    (fun os started H enc _ => lifted os started H enc)
theorem proved : Rows.RopeKeptCardSaid :=
  Claim7.holds_tied_plain_at .later [] [.data] true (true, "bb7027e4c916c5878b6b70d7a9d566a099c0a4678b619e4804eadc8b2e32d8a8") false
    over (fun _ h => by cases h) (by kernel_rfl) (fun _ h => by cases h) ropeKept_row_tie rfl ⟨rfl, rfl⟩ (by kernel_rfl) rfl
    (fun f fn hf hfn => by
      obtain rfl : f = 4 := Option.some.inj ((show Tryd.prog.funcNamed "redraft/redraftlaw03.RopeKept" = some 4 by kernel_rfl).symm.trans hf) |>.symm
      obtain rfl : fn = Tryd.f4 := (Option.some.inj (Tryd.func4.symm.trans hfn)).symm
      exact ⟨by kernel_rfl, fun j t ht => by
        rw [Tryd.params4] at ht
        have h3 : t = 22 ∨ t = 38 := by
          match j, ht with
          | 0, ht => first | exact Or.inl (by simpa using ht.symm) | (exact (by simp at ht; omega))
          | 1, ht => first | exact Or.inr ((by simpa using ht.symm)) | (exact (by simp at ht; omega))
          | j + 2, ht => simp at ht
        rcases h3 with rfl | rfl
        · exact (show Tryd.prog.wantsStandIn 22 = false by kernel_rfl)
        · exact (show Tryd.prog.wantsStandIn 38 = false by kernel_rfl)⟩)
    (by kernel_rfl)
end Go.Proofs.YteeigokkafcaaaaDoor.RowRopeKept
namespace Go.Proofs.YteeigokkafcaaaaDoor
theorem ropeKept_holds : Rows.RopeKeptCardSaid := RowRopeKept.proved
#print axioms ropeKept_holds
end Go.Proofs.YteeigokkafcaaaaDoor
