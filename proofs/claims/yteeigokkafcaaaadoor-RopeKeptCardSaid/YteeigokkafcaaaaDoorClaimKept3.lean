/- Proved: behind every change of a script a rope holds no fewer pieces than runs and no more than those and a sixteenth of the cells, and its levels are within their bounds; for all inputs. -/
import Derived.Test.YteeigokkafcaaaaDoorClaimKept2
section
namespace Go.Proofs.YteeigokkafcaaaaDoor.Pr
open Go.RowKit Go.Proofs.YteeigokkafcaaaaDoorW.PrintWords Go.Proofs.YteeigokkafcaaaaDoorW.PrintLast Go.Proofs.YteeigokkafcaaaaDoorW.PrintMore
attribute [local go_sem] max2_int min2_int max_two min_two max_three min_three max_four min_four
set_option linter.unusedVariables false
set_option linter.unusedSimpArgs false
attribute [local go_sem high] eqA58
mutual
def redraftlaw03_chosen.l0 : Nat → List (S36) → Int → Int → Bool → List (S133) → Int → Option ((List (S133)))
 | 0, _, _, _, _, _, _ => none
 | k + 1, x0, x1, x2, x3, x9, x10 => if x10 < (x0.length : Int) then ((redraftlaw03_rest.f x1 7).bind fun t164 => ((redraftlaw03_rest.f x2 11).bind fun t165 => ((redraftlaw03_rest.f (wrap64 ((wrap64 (x10 * t164)) + t165)) 11).bind fun t166 => (if t166 < 5 then (if x3 = true then (if 0 ≤ x10 then (redraftlaw03_chosen.j1 k x0 x1 x2 x3 x9 x10 (((rd_T36 x0 x10).f1) == 0)) else (none)) else (redraftlaw03_chosen.j1 k x0 x1 x2 x3 x9 x10 false)) else (redraftlaw03_chosen.j1 k x0 x1 x2 x3 x9 x10 true))))) else (some x9)
def redraftlaw03_chosen.j1 : Nat → List (S36) → Int → Int → Bool → List (S133) → Int → Bool → Option ((List (S133)))
 | 0, _, _, _, _, _, _, _ => none
 | k + 1, x0, x1, x2, x3, x9, x10, x40 => if x40 = true then (redraftlaw03_chosen.l0 k x0 x1 x2 x3 x9 (wrap64 (x10 + 1))) else (if (x9.length : Int) > 0 then (if 0 ≤ (wrap64 ((x9.length : Int) - 1)) then (if (wrap64 ((x9.length : Int) - 1)) < (x9.length : Int) then (if ((rd_T133 x9 (wrap64 ((x9.length : Int) - 1))).f1) = x10 then (redraftlaw03_chosen.l0 k x0 x1 x2 x3 (x9.set ((wrap64 ((x9.length : Int) - 1)) : Int).toNat (⟨(rd_T133 x9 (wrap64 ((x9.length : Int) - 1))).f0, wrap64 (x10 + 1)⟩ : S133)) (wrap64 (x10 + 1))) else (if x9.length < 8796093022208 then (redraftlaw03_chosen.l0 k x0 x1 x2 x3 (x9 ++ [(⟨x10, wrap64 (x10 + 1)⟩ : S133)]) (wrap64 (x10 + 1))) else (none))) else (none)) else (none)) else (if x9.length < 8796093022208 then (redraftlaw03_chosen.l0 k x0 x1 x2 x3 (x9 ++ [(⟨x10, wrap64 (x10 + 1)⟩ : S133)]) (wrap64 (x10 + 1))) else (none)))
end
def redraftlaw03_chosen.f (k : Nat) (l0 : List (S36)) (a1 : Int) (a2 : Int) (a3 : Bool) : Option ((List (S133))) := redraftlaw03_chosen.l0 k l0 a1 a2 a3 ([] : List (S133)) 0
theorem redraftlaw03_chosen.mono_l : ∀ k, (∀ y0 y1 y2 y3 y4 y5, LeO (redraftlaw03_chosen.l0 k y0 y1 y2 y3 y4 y5) (redraftlaw03_chosen.l0 (k + 1) y0 y1 y2 y3 y4 y5)) ∧ (∀ y0 y1 y2 y3 y4 y5 y6, LeO (redraftlaw03_chosen.j1 k y0 y1 y2 y3 y4 y5 y6) (redraftlaw03_chosen.j1 (k + 1) y0 y1 y2 y3 y4 y5 y6))
 | 0 => ⟨fun _ _ _ _ _ _ r h => by simp [redraftlaw03_chosen.l0] at h, fun _ _ _ _ _ _ _ r h => by simp [redraftlaw03_chosen.j1] at h⟩
 | k + 1 => by
  obtain ⟨ih0, ih1⟩ := redraftlaw03_chosen.mono_l k
  refine ⟨?_, ?_⟩
  ·intro y0 y1 y2 y3 y4 y5
   unfold redraftlaw03_chosen.l0
   repeat' first
   | (with_reducible exact ih0 _ _ _ _ _ _)
   | (with_reducible exact ih1 _ _ _ _ _ _ _)
   | (with_reducible exact LeO.refl _)
   | (with_reducible exact LeO.none _)
   | (with_reducible refine LeO.ite ?_ ?_)
   | (with_reducible refine LeO.bind ?_ (fun _ => ?_))
   | exact ih0 _ _ _ _ _ _
   | exact ih1 _ _ _ _ _ _ _
   | exact LeO.none _
   | refine LeO.ite ?_ ?_
   | refine LeO.bind ?_ (fun _ => ?_)
  ·intro y0 y1 y2 y3 y4 y5 y6
   unfold redraftlaw03_chosen.j1
   repeat' first
   | (with_reducible exact ih0 _ _ _ _ _ _)
   | (with_reducible exact ih1 _ _ _ _ _ _ _)
   | (with_reducible exact LeO.refl _)
   | (with_reducible exact LeO.none _)
   | (with_reducible refine LeO.ite ?_ ?_)
   | (with_reducible refine LeO.bind ?_ (fun _ => ?_))
   | exact ih0 _ _ _ _ _ _
   | exact ih1 _ _ _ _ _ _ _
   | exact LeO.none _
   | refine LeO.ite ?_ ?_
   | refine LeO.bind ?_ (fun _ => ?_)
theorem redraftlaw03_chosen.mono : ∀ a0 a1 a2 a3 k, LeO (redraftlaw03_chosen.f k a0 a1 a2 a3) (redraftlaw03_chosen.f (k + 1) a0 a1 a2 a3) := by
 intro a0 a1 a2 a3 k
 obtain ⟨ih0, ih1⟩ := redraftlaw03_chosen.mono_l k
 unfold redraftlaw03_chosen.f
 repeat' first
   | (with_reducible exact ih0 _ _ _ _ _ _)
   | (with_reducible exact ih1 _ _ _ _ _ _ _)
   | (with_reducible exact LeO.refl _)
   | (with_reducible exact LeO.none _)
   | (with_reducible refine LeO.ite ?_ ?_)
   | (with_reducible refine LeO.bind ?_ (fun _ => ?_))
   | exact ih0 _ _ _ _ _ _
   | exact ih1 _ _ _ _ _ _ _
   | exact LeO.none _
   | refine LeO.ite ?_ ?_
   | refine LeO.bind ?_ (fun _ => ?_)
set_option maxHeartbeats 8000000 in
set_option maxRecDepth 100000 in
theorem redraftlaw03_chosen.calls (k : Nat) (A0 : Option Addr) (c0 : Nat) (l0 : List (S36)) (a1 : Int) (a2 : Int) (a3 : Bool) (r : List (S133)) (w : World) (hr0 : Kd.C k36 w A0 l0.length l0) (hc0 : l0.length ≤ c0) (h : redraftlaw03_chosen.f k l0 a1 a2 a3 = some r) :
  Calls Tryd.prog 68 #[.slice A0 l0.length c0, .int .i64 a1, .int .i64 a2, .bool a3] w fun e w' => ∃ v0_ : Value, e = .returned (v0_) ∧ Kd.R k133 133 w' w.heap.size (fun _ => True) v0_ r ∧ Below w.heap.size w w' := by
 have hu133 := Tryd.underlying133
 have HR0 := Aside0.mk hr0
 have HC0 := Aside0.mk hc0
 clear hr0 hc0
 have HB := Aside0.mk (Below.refl w.heap.size w)
 have H : (redraftlaw03_chosen.l0 k l0 a1 a2 a3 ([] : List (S133)) 0) = some r := h
 clear h
 have H' := Aside0.mk H
 clear H
 go_enter Tryd.func68, Tryd.ntmps68
 go_wp2
 go_loopg [9, 10] k (fun kq v9 v10 w' => ∃ (x9_1 : List (S133)) (x10_1 : Int), v10 = .int .i64 x10_1 ∧ Aside0 (redraftlaw03_chosen.l0 kq l0 a1 a2 a3 x9_1 x10_1 = some r) ∧ Aside0 (kq ≤ k) ∧ Aside0 (Kd.R k133 133 w' w.heap.size (fun _ => True) v9 x9_1) ∧ Aside0 (Below w.heap.size w w'))
 case atStart => exact ⟨(([] : List (S133))), (0), (by first | rfl | (simp; done) | (simp [*]; done)), H', ⟨Nat.le_refl _⟩, ⟨by first | exact Kd.R_nil _ _ _ _ _ | exact Kd.N_nil _ _ _ _ _ | exact Kd.V_nil _ _ _ _ _ | exact Kd.Q_nil _ _ _ _ _ | exact Kd.S_nil _ _ _ _ _⟩, ⟨by repeat (first | (with_reducible first | exact HB.out | apply below_alloc | apply pw_below_drewN | apply below_drew1) | exact HB.out)⟩⟩
 case round =>
  clear H'
  try clear p2
  obtain ⟨x9_1, x10_1, rfl, HA, HK1, HO_9, HB⟩ := hrel
  cases gk with
  | zero => exact absurd HA.out (by simp [redraftlaw03_chosen.l0])
  | succ k1 =>
   have H := HA.out
   clear HA
   simp only [redraftlaw03_chosen.l0] at H
   by_cases c5 : x10_1 < (l0.length : Int)
   ·rw [if_pos c5] at H
    have c5b0 : decide (x10_1 < (l0.length : Int)) = true := decide_eq_true c5
    clear c5
    replace H := Option.bind_eq_some_iff.mp H
    obtain ⟨t164, A60, H⟩ := H
    replace H : ((redraftlaw03_rest.f a2 11).bind fun t165 => ((redraftlaw03_rest.f (wrap64 ((wrap64 (x10_1 * t164)) + t165)) 11).bind fun t166 => (if t166 < 5 then (if a3 = true then (if 0 ≤ x10_1 then (redraftlaw03_chosen.j1 k1 l0 a1 a2 a3 x9_1 x10_1 (((rd_T36 l0 x10_1).f1) == 0)) else (none)) else (redraftlaw03_chosen.j1 k1 l0 a1 a2 a3 x9_1 x10_1 false)) else (redraftlaw03_chosen.j1 k1 l0 a1 a2 a3 x9_1 x10_1 true)))) = some r := H
    have A6 := Aside0.mk A60
    clear A60
    replace H := Option.bind_eq_some_iff.mp H
    obtain ⟨t165, A70, H⟩ := H
    replace H : ((redraftlaw03_rest.f (wrap64 ((wrap64 (x10_1 * t164)) + t165)) 11).bind fun t166 => (if t166 < 5 then (if a3 = true then (if 0 ≤ x10_1 then (redraftlaw03_chosen.j1 k1 l0 a1 a2 a3 x9_1 x10_1 (((rd_T36 l0 x10_1).f1) == 0)) else (none)) else (redraftlaw03_chosen.j1 k1 l0 a1 a2 a3 x9_1 x10_1 false)) else (redraftlaw03_chosen.j1 k1 l0 a1 a2 a3 x9_1 x10_1 true))) = some r := H
    have A7 := Aside0.mk A70
    clear A70
    replace H := Option.bind_eq_some_iff.mp H
    obtain ⟨t166, A80, H⟩ := H
    replace H : (if t166 < 5 then (if a3 = true then (if 0 ≤ x10_1 then (redraftlaw03_chosen.j1 k1 l0 a1 a2 a3 x9_1 x10_1 (((rd_T36 l0 x10_1).f1) == 0)) else (none)) else (redraftlaw03_chosen.j1 k1 l0 a1 a2 a3 x9_1 x10_1 false)) else (redraftlaw03_chosen.j1 k1 l0 a1 a2 a3 x9_1 x10_1 true)) = some r := H
    have A8 := Aside0.mk A80
    clear A80
    have HC9 := Aside0.mk H
    clear H
    go_upto_region 6 with (first | ((with_reducible refine gate_callee (f := 28) rfl ?_); refine goesL_ (some 21) rfl rfl Tryd.func28 (by kernel_rfl) rfl #[.int .i64 a1, .int .i64 7] rfl (by (try simp only [List.map_toArray, List.map_cons, List.map_nil]); first | done | rfl | (simp only [List.length_drop, List.length_take]; rfl)) ?_; (with_reducible refine (redraftlaw03_rest.calls a1 7 t164 _ A6.out).mono ?_); rintro e w' ⟨rfl, ⟨nd, rfl⟩⟩; refine ⟨_, rfl, ?_⟩) | ((with_reducible refine gate_callee (f := 28) rfl ?_); refine goesL_ (some 24) rfl rfl Tryd.func28 (by kernel_rfl) rfl #[.int .i64 a2, .int .i64 11] rfl (by (try simp only [List.map_toArray, List.map_cons, List.map_nil]); first | done | rfl | (simp only [List.length_drop, List.length_take]; rfl)) ?_; (with_reducible refine (redraftlaw03_rest.calls a2 11 t165 _ A7.out).mono ?_); rintro e w' ⟨rfl, ⟨nd, rfl⟩⟩; refine ⟨_, rfl, ?_⟩) | ((with_reducible refine gate_callee (f := 28) rfl ?_); refine goesL_ (some 26) rfl rfl Tryd.func28 (by kernel_rfl) rfl #[.int .i64 (wrap64 ((wrap64 (x10_1 * t164)) + t165)), .int .i64 11] rfl (by (try simp only [List.map_toArray, List.map_cons, List.map_nil]); first | done | rfl | (simp only [List.length_drop, List.length_take]; rfl)) ?_; (with_reducible refine (redraftlaw03_rest.calls (wrap64 ((wrap64 (x10_1 * t164)) + t165)) 11 t166 _ A8.out).mono ?_); rintro e w' ⟨rfl, ⟨nd, rfl⟩⟩; refine ⟨_, rfl, ?_⟩))
    (try simp only [Act.put, List.setIfInBounds_toArray, List.set_cons_zero, List.set_cons_succ])
    go_cut [11, 40] (fun v11 v40 wc => ∃ (kq : Nat) (x40_8 : Bool), v40 = .bool x40_8 ∧ Aside0 (redraftlaw03_chosen.j1 kq l0 a1 a2 a3 x9_1 x10_1 x40_8 = some r) ∧ Aside0 (kq ≤ k1) ∧ Aside0 (Kd.R k133 133 wc w.heap.size (fun _ => True) u9 x9_1) ∧ Aside0 (Below w.heap.size w wc))
    case first =>
     have H := HC9.out
     clear HC9
     by_cases c10 : t166 < 5
     ·rw [if_pos c10] at H
      have c10b0 : decide (t166 < 5) = true := decide_eq_true c10
      clear c10
      (first | rw [c10b0] | (simp only [i64_w, i32_w]; rw [c10b0]) | skip)
      by_cases c11 : a3 = true
      ·subst c11
       have H1 : (if 0 ≤ x10_1 then (redraftlaw03_chosen.j1 k1 l0 a1 a2 true x9_1 x10_1 (((rd_T36 l0 x10_1).f1) == 0)) else (none)) = some r := by rw [if_pos rfl] at H; exact H
       clear H
       have H := H1
       clear H1
       by_cases c12 : 0 ≤ x10_1
       ·rw [if_pos c12] at H
        have c12b0 : decide (0 ≤ x10_1) = true := decide_eq_true c12
        clear c12
        have H' := Aside0.mk H
        clear H
        have p167 : 0 ≤ (x10_1 : Int) := of_decide_eq_true (by first | (with_reducible assumption) | assumption)
        have q167 : x10_1 < (l0.length : Int) := of_decide_eq_true (by first | (with_reducible assumption) | assumption)
        obtain ⟨ad167, e167, hx167_0, hx167_1⟩ := at_T36 HR0.out x10_1 p167 q167
        cases e167
        replace hx167_0 := (HB.out.cell (World.block_lt_of_cell? w _ hx167_0)).trans hx167_0
        replace hx167_1 := (HB.out.cell (World.block_lt_of_cell? w _ hx167_1)).trans hx167_1
        replace p167 := eq_true p167
        replace q167 := eq_true q167
        go_wp2
        go_meet
        case rel => exact ⟨_, ((((rd_T36 l0 x10_1).f1) == 0)), (by first | rfl | (simp; done) | (simp [*]; done)), H', ⟨by have := HK1.out; first | omega | exact Nat.le_refl _⟩, ⟨by (with_reducible repeat (first | apply Kd.R_alloc | apply Kd.R_drewN | apply Kd.R_drew)); exact HO_9.out⟩, ⟨by repeat (first | (with_reducible first | exact HB.out | apply below_alloc | apply pw_below_drewN | apply below_drew1) | exact HB.out)⟩⟩
       ·rw [if_neg c12] at H
        exact absurd H (by simp)
      ·replace c11 := Bool.eq_false_iff.mpr c11
       subst c11
       have H1 : (redraftlaw03_chosen.j1 k1 l0 a1 a2 false x9_1 x10_1 false) = some r := by rw [if_neg (show ¬ (false = true) by decide)] at H; exact H
       clear H
       have H := H1
       clear H1
       have H' := Aside0.mk H
       clear H
       go_wp2
       go_meet
       case rel => exact ⟨_, (false), (by first | rfl | (simp; done) | (simp [*]; done)), H', ⟨by have := HK1.out; first | omega | exact Nat.le_refl _⟩, ⟨by (with_reducible repeat (first | apply Kd.R_alloc | apply Kd.R_drewN | apply Kd.R_drew)); exact HO_9.out⟩, ⟨by repeat (first | (with_reducible first | exact HB.out | apply below_alloc | apply pw_below_drewN | apply below_drew1) | exact HB.out)⟩⟩
     ·rw [if_neg c10] at H
      have c10b0 : decide (t166 < 5) = false := decide_eq_false c10
      clear c10
      (first | rw [c10b0] | (simp only [i64_w, i32_w]; rw [c10b0]) | skip)
      have H' := Aside0.mk H
      clear H
      go_wp2
      go_meet
      case rel => exact ⟨_, (true), (by first | rfl | (simp; done) | (simp [*]; done)), H', ⟨by have := HK1.out; first | omega | exact Nat.le_refl _⟩, ⟨by (with_reducible repeat (first | apply Kd.R_alloc | apply Kd.R_drewN | apply Kd.R_drew)); exact HO_9.out⟩, ⟨by repeat (first | (with_reducible first | exact HB.out | apply below_alloc | apply pw_below_drewN | apply below_drew1) | exact HB.out)⟩⟩
    case rest =>
     clear HC9
     try clear c1
     try clear p1
     try clear q1
     try clear hx1
     try clear c2
     try clear p2
     try clear c5
     try clear c5b0
     try clear c6
     try clear p6
     try clear c10
     try clear c10b0
     try clear c11
     try clear c12
     try clear c12b0
     try clear hx167_0
     try clear hx167_1
     try clear p167
     try clear p2
     try clear q167
     obtain ⟨kq, x40_8, rfl, HA, HJ8, HO_9, HB⟩ := hcut
     cases kq with
     | zero => exact absurd HA.out (by simp [redraftlaw03_chosen.j1])
     | succ kj8 =>
      have H := HA.out
      clear HA
      simp only [redraftlaw03_chosen.j1] at H
      by_cases c13 : x40_8 = true
      ·subst c13
       have H1 : (redraftlaw03_chosen.l0 kj8 l0 a1 a2 a3 x9_1 (wrap64 (x10_1 + 1))) = some r := by rw [if_pos rfl] at H; exact H
       clear H
       have H := H1
       clear H1
       have H' := Aside0.mk H
       clear H
       go_wp2
       go_roundg kj8
       case measure => have := HK1.out; have := HJ8.out; omega
       case rel => exact ⟨(x9_1), (wrap64 (x10_1 + 1)), (by first | rfl | (simp; done) | (simp [*]; done)), H', ⟨by have := HK1.out; have := HJ8.out; omega⟩, ⟨by (with_reducible repeat (first | apply Kd.R_alloc | apply Kd.R_drewN | apply Kd.R_drew)); exact HO_9.out⟩, ⟨by repeat (first | (with_reducible first | exact HB.out | apply below_alloc | apply pw_below_drewN | apply below_drew1) | exact HB.out)⟩⟩
      ·replace c13 := Bool.eq_false_iff.mpr c13
       subst c13
       have H1 : (if (x9_1.length : Int) > 0 then (if 0 ≤ (wrap64 ((x9_1.length : Int) - 1)) then (if (wrap64 ((x9_1.length : Int) - 1)) < (x9_1.length : Int) then (if ((rd_T133 x9_1 (wrap64 ((x9_1.length : Int) - 1))).f1) = x10_1 then (redraftlaw03_chosen.l0 kj8 l0 a1 a2 a3 (x9_1.set ((wrap64 ((x9_1.length : Int) - 1)) : Int).toNat (⟨(rd_T133 x9_1 (wrap64 ((x9_1.length : Int) - 1))).f0, wrap64 (x10_1 + 1)⟩ : S133)) (wrap64 (x10_1 + 1))) else (if x9_1.length < 8796093022208 then (redraftlaw03_chosen.l0 kj8 l0 a1 a2 a3 (x9_1 ++ [(⟨x10_1, wrap64 (x10_1 + 1)⟩ : S133)]) (wrap64 (x10_1 + 1))) else (none))) else (none)) else (none)) else (if x9_1.length < 8796093022208 then (redraftlaw03_chosen.l0 kj8 l0 a1 a2 a3 (x9_1 ++ [(⟨x10_1, wrap64 (x10_1 + 1)⟩ : S133)]) (wrap64 (x10_1 + 1))) else (none))) = some r := by rw [if_neg (show ¬ (false = true) by decide)] at H; exact H
       clear H
       have H := H1
       clear H1
       by_cases c14 : (x9_1.length : Int) > 0
       ·rw [if_pos c14] at H
        have c14b0 : decide (0 < (x9_1.length : Int)) = true := decide_eq_true c14
        have c14b1 : decide (0 < x9_1.length) = true := decide_eq_true (by omega)
        clear c14
        obtain ⟨ji15, hji15⟩ : ∃ j_ : Int, (wrap64 ((x9_1.length : Int) - 1)) = j_ := ⟨_, rfl⟩
        replace H : (if 0 ≤ (ji15) then (if (ji15) < (x9_1.length : Int) then (if ((rd_T133 x9_1 (ji15)).f1) = x10_1 then (redraftlaw03_chosen.l0 kj8 l0 a1 a2 a3 (x9_1.set ((ji15) : Int).toNat (⟨(rd_T133 x9_1 (ji15)).f0, wrap64 (x10_1 + 1)⟩ : S133)) (wrap64 (x10_1 + 1))) else (if x9_1.length < 8796093022208 then (redraftlaw03_chosen.l0 kj8 l0 a1 a2 a3 (x9_1 ++ [(⟨x10_1, wrap64 (x10_1 + 1)⟩ : S133)]) (wrap64 (x10_1 + 1))) else (none))) else (none)) else (none)) = some r := by first | (rw [hji15] at H; exact H) | (simp only [hji15] at H ⊢; exact H)
        have hji15w : (IntKind.i64.wrap ((x9_1.length : Int) - 1)) = ji15 := (i64_w _).trans hji15
        by_cases c16 : 0 ≤ (ji15)
        ·rw [if_pos c16] at H
         have c16b0 : decide (0 ≤ (ji15)) = true := decide_eq_true c16
         clear c16
         by_cases c17 : (ji15) < (x9_1.length : Int)
         ·rw [if_pos c17] at H
          have c17b0 : decide ((ji15) < (x9_1.length : Int)) = true := decide_eq_true c17
          clear c17
          by_cases c18 : ((rd_T133 x9_1 (ji15)).f1) = x10_1
          ·rw [if_pos c18] at H
           have c18b0 : (((rd_T133 x9_1 (ji15)).f1) == x10_1) = true := beq_iff_eq.mpr c18
           have c18b1 : (((rd_T133 x9_1 (ji15)).f1) != x10_1) = false := bne_eq_false_iff_eq.mpr c18
           clear c18
           obtain ⟨y169, hy169⟩ : ∃ y_ : List (S133), y_ = (x9_1.set ((ji15) : Int).toNat (⟨(rd_T133 x9_1 (ji15)).f0, wrap64 (x10_1 + 1)⟩ : S133)) := ⟨_, rfl⟩
           replace H : (redraftlaw03_chosen.l0 kj8 l0 a1 a2 a3 y169 (wrap64 (x10_1 + 1))) = some r := by first | (rw [hy169]; with_reducible exact H) | (have H2_ := (Option.bind_some _ _).symm.trans H; rw [hy169]; with_reducible exact H2_) | (have H2_ := (Option.bind_some _ _).symm.trans H; with_reducible exact H2_) | with_reducible exact H | (rw [hy169]; exact H) | exact H
           have Ny169 := Aside0.mk hy169
           clear hy169
           have H' := Aside0.mk H
           clear H
           obtain ⟨Ao20, co20, eo20⟩ := Kd.R_slice HO_9.out
           subst eo20
           have p168 : 0 ≤ ((ji15) : Int) := of_decide_eq_true (by first | (with_reducible assumption) | assumption)
           have q168 : (ji15) < (x9_1.length : Int) := of_decide_eq_true (by first | (with_reducible assumption) | assumption)
           obtain ⟨ad168, e168, hx168_0, hx168_1⟩ := at_T133 (Kd.R_reads' HO_9.out).2.2 (ji15) p168 q168
           cases e168
           replace p168 := eq_true p168
           replace q168 := eq_true q168
           have p19 : 0 ≤ ((ji15) : Int) := of_decide_eq_true (by first | (with_reducible assumption) | assumption)
           have q19 : ((ji15) : Int) < ((x9_1.length : Int) : Int) := of_decide_eq_true (by first | (with_reducible assumption) | assumption)
           obtain ⟨go19, co19, eo19, gb19, gl19, cl19, HG19⟩ := Kd.R_form HO_9.out (by omega)
           (first | cases eo19 | (injection eo19 with ea_ en_ ec_; (first | subst ea_ | (injection ea_ with ea_; subst ea_)); subst ec_; clear en_))
           have GB19 := Aside0.mk gb19
           have GG19 := Aside0.mk HG19
           clear gb19 gl19 HG19
           (first | simp only [add_plain] at hx168_0 | skip)
           (first | simp only [add_plain] at hx168_1 | skip)
           obtain ⟨ce19, hcl19, hM19, hcc19, hfr19⟩ := Kd.R_elem HO_9.out z133 ((ji15) : Int) p19 q19
           obtain rfl := k133_openM hM19
           have hx19_0 : wc.cell? ⟨go19, ((ji15) : Int).toNat * 2, none⟩ = some (.int .i64 ((rd_T133 x9_1 (ji15)).f0)) := hcc19 0 _ rfl
           have hx19_1 : wc.cell? ⟨go19, ((ji15) : Int).toNat * 2 + 1, none⟩ = some (.int .i64 ((rd_T133 x9_1 (ji15)).f1)) := hcc19 1 _ rfl
           have hf19_0 : wc.frozen? ⟨go19, ((ji15) : Int).toNat * 2, none⟩ = false := hfr19 0
           have hf19_1 : wc.frozen? ⟨go19, ((ji15) : Int).toNat * 2 + 1, none⟩ = false := hfr19 1
           clear hcl19 hcc19 hfr19 hM19
           replace p19 := eq_true p19
           replace q19 := eq_true q19
           have HX21 := Aside0.mk (show Kd.R k133 133 wc w.heap.size (fun _ => True) (.slice (some ⟨go19, 0, none⟩) x9_1.length co20) x9_1 from (by (with_reducible repeat (first | apply Kd.R_alloc | apply Kd.R_drewN | apply Kd.R_drew)); exact HO_9.out))
           obtain ⟨ce21, hcl21, hM21, hcc21, hfr21⟩ := Kd.R_elem HX21.out z133 ((ji15) : Int) (of_decide_eq_true (by first | (with_reducible assumption) | assumption)) (by have h_ : ((ji15) : Int) < ((x9_1.length : Int) : Int) := of_decide_eq_true (by first | (with_reducible assumption) | assumption); first | exact h_ | (have e_ := (Kd.R_reads' HO_9.out).1; omega) | simpa using h_)
           obtain rfl := k133_openM hM21
           have HP21 := Kd.R_seg HX21.out ((ji15) : Int) (of_decide_eq_true (by first | (with_reducible assumption) | assumption)) (by have h_ : ((ji15) : Int) < ((x9_1.length : Int) : Int) := of_decide_eq_true (by first | (with_reducible assumption) | assumption); first | exact h_ | (have e_ := (Kd.R_reads' HO_9.out).1; omega) | simpa using h_) (seg := [.int .i64 (wrap64 (x10_1 + 1))]) (j := 1) hcl21 hcc21 (show 2 ≤ 2 from by decide) (x' := (⟨(rd_T133 x9_1 (ji15)).f0, wrap64 (x10_1 + 1)⟩ : S133)) (k133_mkM _ _ _ (⟨(rd_T133 x9_1 (ji15)).f0, wrap64 (x10_1 + 1)⟩ : S133) ) (fun _ hk => hk)
           have hx21_1 := hcc21 1 _ rfl
           (try simp only [show (k133).sz = 2 from rfl, Nat.mul_one, Nat.add_zero] at hx21_1)
           have hf21_1 := hfr21 1
           (try simp only [show (k133).sz = 2 from rfl, Nat.mul_one, Nat.add_zero] at hf21_1)
           clear hcl21 hcc21 hfr21 hM21
           go_wp2_with (first | ((with_reducible refine gate_store (t := 3) (p := 61) rfl ?_); refine store_event (t := 3) (p := 61) (v := ?vo_w22) (w1 := (wc.setCell ⟨go19, ((ji15) : Int).toNat * 2 + 1, none⟩ (.int .i64 (wrap64 (x10_1 + 1))))) ?hg ?ho ?hn ?hr ?_; (case ho => rfl); (case hg => rfl); (case hn => rfl); (case hr => first | (go_simp; done) | (go_simp; rfl)); intro w22 hw; have hg : wc.grownBy w22 (some go19) := (by rw [hw]; exact HP21.2); have hp_ : Kd.R k133 133 w22 w.heap.size (fun _ => True) (.slice (some ⟨go19, 0, none⟩) x9_1.length co20) y169 := (by rw [hw, Ny169.out]; exact HP21.1); clear HP21; have n0_ := Aside0.mk (hp_); have n1_ := Aside0.mk ((by rw [hw]; exact below_set (HB.out) GB19.out : Below w.heap.size w w22)); clear HO_9; clear HB; have HO_9 := n0_; have HB := n1_; clear n0_ n1_; clear hg hw hp_))
           go_roundg kj8
           case measure => have := HK1.out; have := HJ8.out; omega
           case rel => exact ⟨(y169), (wrap64 (x10_1 + 1)), (by first | rfl | (simp; done) | (simp [*]; done)), H', ⟨by have := HK1.out; have := HJ8.out; omega⟩, ⟨by (with_reducible repeat (first | apply Kd.R_alloc | apply Kd.R_drewN | apply Kd.R_drew)); exact HO_9.out⟩, ⟨by repeat (first | (with_reducible first | exact HB.out | apply below_alloc | apply pw_below_drewN | apply below_drew1) | exact HB.out)⟩⟩
          ·rw [if_neg c18] at H
           have c18b0 : (((rd_T133 x9_1 (ji15)).f1) == x10_1) = false := beq_eq_false_iff_ne.mpr c18
           have c18b1 : (((rd_T133 x9_1 (ji15)).f1) != x10_1) = true := bne_iff_ne.mpr c18
           by_cases c23 : x9_1.length < 8796093022208
           ·rw [if_pos c23] at H
            have LMc23 := Aside0.mk c23
            clear c23
            obtain ⟨y170, hy170⟩ : ∃ y_ : List (S133), y_ = (x9_1 ++ [(⟨x10_1, wrap64 (x10_1 + 1)⟩ : S133)]) := ⟨_, rfl⟩
            replace H : (redraftlaw03_chosen.l0 kj8 l0 a1 a2 a3 y170 (wrap64 (x10_1 + 1))) = some r := by first | (rw [hy170]; with_reducible exact H) | (have H2_ := (Option.bind_some _ _).symm.trans H; rw [hy170]; with_reducible exact H2_) | (have H2_ := (Option.bind_some _ _).symm.trans H; with_reducible exact H2_) | with_reducible exact H | (rw [hy170]; exact H) | exact H
            have Ny170 := Aside0.mk hy170
            clear hy170
            have H' := Aside0.mk H
            clear H
            obtain ⟨Ao24, co24, eo24⟩ := Kd.R_slice HO_9.out
            subst eo24
            have p168 : 0 ≤ ((ji15) : Int) := of_decide_eq_true (by first | (with_reducible assumption) | assumption)
            have q168 : (ji15) < (x9_1.length : Int) := of_decide_eq_true (by first | (with_reducible assumption) | assumption)
            obtain ⟨ad168, e168, hx168_0, hx168_1⟩ := at_T133 (Kd.R_reads' HO_9.out).2.2 (ji15) p168 q168
            cases e168
            replace p168 := eq_true p168
            replace q168 := eq_true q168
            go_wp2_with (first | ((with_reducible refine gate_builtin (b := .append) (xs := #[.tmp 62, .tmp 67]) rfl ?_); at_builtin; refine Kd.R_append k133 (w0 := w) w.heap.size rfl (.tmp 62) (.tmp 67) 61 133 (.agg #[(.int .i64 0), (.int .i64 0)]) 16 rfl Tryd.underlying61 info133 rfl (by decide) (by omega) (.slice (some ad168) x9_1.length co24) x9_1 (⟨x10_1, wrap64 (x10_1 + 1)⟩ : S133) [.int .i64 x10_1, .int .i64 (wrap64 (x10_1 + 1))] (fun _ => True) (fun _ => False) rfl rfl ?aP (fun _ hk => hk.elim) ?aF ?aO ?aB ?aS ?aL ?_; (case aP => exact k133_mkM _ _ _ (⟨x10_1, wrap64 (x10_1 + 1)⟩ : S133)); (case aB => exact (by repeat (first | (with_reducible first | exact HB.out | apply below_alloc | apply pw_below_drewN | apply below_drew1) | exact HB.out))); (case aF => exact (fun _ _ => trivial)); (case aO => exact (by (with_reducible repeat (first | apply Kd.R_alloc | apply Kd.R_drewN | apply Kd.R_drew)); exact HO_9.out)); (case aS => exact (below_size (by repeat (first | (with_reducible first | exact HB.out | apply below_alloc | apply pw_below_drewN | apply below_drew1) | exact HB.out)))); (case aL => have := LMc23.out; omega); intro v171 w25 ho hb hg hat; rw [← Ny170.out] at ho; have n0_ := Aside0.mk (hb); have n1_ := Aside0.mk (ho); clear HB; clear HO_9; have HB := n0_; have HO172 := n1_; clear n0_ n1_; clear ho hb hg hat))
            go_roundg kj8
            case measure => have := HK1.out; have := HJ8.out; omega
            case rel => exact ⟨(y170), (wrap64 (x10_1 + 1)), (by first | rfl | (simp; done) | (simp [*]; done)), H', ⟨by have := HK1.out; have := HJ8.out; omega⟩, ⟨by (with_reducible repeat (first | apply Kd.R_alloc | apply Kd.R_drewN | apply Kd.R_drew)); exact HO172.out⟩, ⟨by repeat (first | (with_reducible first | exact HB.out | apply below_alloc | apply pw_below_drewN | apply below_drew1) | exact HB.out)⟩⟩
           ·rw [if_neg c23] at H
            exact absurd H (by simp)
         ·rw [if_neg c17] at H
          exact absurd H (by simp)
        ·rw [if_neg c16] at H
         exact absurd H (by simp)
       ·rw [if_neg c14] at H
        have c14b0 : decide (0 < (x9_1.length : Int)) = false := decide_eq_false c14
        have c14b1 : decide (0 < x9_1.length) = false := decide_eq_false (by omega)
        clear c14
        by_cases c26 : x9_1.length < 8796093022208
        ·rw [if_pos c26] at H
         have LMc26 := Aside0.mk c26
         clear c26
         obtain ⟨y173, hy173⟩ : ∃ y_ : List (S133), y_ = (x9_1 ++ [(⟨x10_1, wrap64 (x10_1 + 1)⟩ : S133)]) := ⟨_, rfl⟩
         replace H : (redraftlaw03_chosen.l0 kj8 l0 a1 a2 a3 y173 (wrap64 (x10_1 + 1))) = some r := by first | (rw [hy173]; with_reducible exact H) | (have H2_ := (Option.bind_some _ _).symm.trans H; rw [hy173]; with_reducible exact H2_) | (have H2_ := (Option.bind_some _ _).symm.trans H; with_reducible exact H2_) | with_reducible exact H | (rw [hy173]; exact H) | exact H
         have Ny173 := Aside0.mk hy173
         clear hy173
         have H' := Aside0.mk H
         clear H
         obtain ⟨Ao27, co27, eo27⟩ := Kd.R_slice HO_9.out
         subst eo27
         go_wp2_with (first | ((with_reducible refine gate_builtin (b := .append) (xs := #[.tmp 62, .tmp 67]) rfl ?_); at_builtin; refine Kd.R_append k133 (w0 := w) w.heap.size rfl (.tmp 62) (.tmp 67) 61 133 (.agg #[(.int .i64 0), (.int .i64 0)]) 16 rfl Tryd.underlying61 info133 rfl (by decide) (by omega) (.slice Ao27 x9_1.length co27) x9_1 (⟨x10_1, wrap64 (x10_1 + 1)⟩ : S133) [.int .i64 x10_1, .int .i64 (wrap64 (x10_1 + 1))] (fun _ => True) (fun _ => False) rfl rfl ?aP (fun _ hk => hk.elim) ?aF ?aO ?aB ?aS ?aL ?_; (case aP => exact k133_mkM _ _ _ (⟨x10_1, wrap64 (x10_1 + 1)⟩ : S133)); (case aB => exact (by repeat (first | (with_reducible first | exact HB.out | apply below_alloc | apply pw_below_drewN | apply below_drew1) | exact HB.out))); (case aF => exact (fun _ _ => trivial)); (case aO => exact (by (with_reducible repeat (first | apply Kd.R_alloc | apply Kd.R_drewN | apply Kd.R_drew)); exact HO_9.out)); (case aS => exact (below_size (by repeat (first | (with_reducible first | exact HB.out | apply below_alloc | apply pw_below_drewN | apply below_drew1) | exact HB.out)))); (case aL => have := LMc26.out; omega); intro v174 w28 ho hb hg hat; rw [← Ny173.out] at ho; have n0_ := Aside0.mk (hb); have n1_ := Aside0.mk (ho); clear HB; clear HO_9; have HB := n0_; have HO175 := n1_; clear n0_ n1_; clear ho hb hg hat))
         go_roundg kj8
         case measure => have := HK1.out; have := HJ8.out; omega
         case rel => exact ⟨(y173), (wrap64 (x10_1 + 1)), (by first | rfl | (simp; done) | (simp [*]; done)), H', ⟨by have := HK1.out; have := HJ8.out; omega⟩, ⟨by (with_reducible repeat (first | apply Kd.R_alloc | apply Kd.R_drewN | apply Kd.R_drew)); exact HO175.out⟩, ⟨by repeat (first | (with_reducible first | exact HB.out | apply below_alloc | apply pw_below_drewN | apply below_drew1) | exact HB.out)⟩⟩
        ·rw [if_neg c26] at H
         exact absurd H (by simp)
   ·rw [if_neg c5] at H
    have c5b0 : decide (x10_1 < (l0.length : Int)) = false := decide_eq_false c5
    clear c5
    obtain rfl := Option.some.inj H
    go_wp2
    go_ret
    exact ⟨_, by first | rfl | (simp [errW_none, errW_some] <;> rfl) | (simp [*, errW_none, errW_some] <;> rfl), by (with_reducible repeat (first | apply Kd.R_alloc | apply Kd.R_drewN | apply Kd.R_drew)); exact HO_9.out, by repeat (first | (with_reducible first | exact HB.out | apply below_alloc | apply pw_below_drewN | apply below_drew1) | exact HB.out)⟩
def redraftlaw03_EqRuns.l0 : Nat → List (S58) → List (S58) → Int → Option (Bool)
 | 0, _, _, _ => none
 | k + 1, x0, x1, x5 => if x5 < (x0.length : Int) then (if 0 ≤ x5 then (if x5 < (x1.length : Int) then (if (!((((rd_T58 x0 x5).f0).toList) == (((rd_T58 x1 x5).f0).toList)) || (!(((rd_T58 x0 x5).f1) == ((rd_T58 x1 x5).f1)))) = true then (some false) else (redraftlaw03_EqRuns.l0 k x0 x1 (wrap64 (x5 + 1)))) else (none)) else (none)) else (some true)
def redraftlaw03_EqRuns.f (k : Nat) (l0 : List (S58)) (l1 : List (S58)) : Option (Bool) := if (l0.length : Int) = (l1.length : Int) then (redraftlaw03_EqRuns.l0 k l0 l1 0) else (some false)
theorem redraftlaw03_EqRuns.mono_l : ∀ k, (∀ y0 y1 y2, LeO (redraftlaw03_EqRuns.l0 k y0 y1 y2) (redraftlaw03_EqRuns.l0 (k + 1) y0 y1 y2))
 | 0 => fun _ _ _ r h => by simp [redraftlaw03_EqRuns.l0] at h
 | k + 1 => by
  have ih0 := redraftlaw03_EqRuns.mono_l k
  ·intro y0 y1 y2
   unfold redraftlaw03_EqRuns.l0
   repeat' first
   | (with_reducible exact ih0 _ _ _)
   | (with_reducible exact LeO.refl _)
   | (with_reducible exact LeO.none _)
   | (with_reducible refine LeO.ite ?_ ?_)
   | (with_reducible refine LeO.bind ?_ (fun _ => ?_))
   | exact ih0 _ _ _
   | exact LeO.none _
   | refine LeO.ite ?_ ?_
   | refine LeO.bind ?_ (fun _ => ?_)
theorem redraftlaw03_EqRuns.mono : ∀ a0 a1 k, LeO (redraftlaw03_EqRuns.f k a0 a1) (redraftlaw03_EqRuns.f (k + 1) a0 a1) := by
 intro a0 a1 k
 have ih0 := redraftlaw03_EqRuns.mono_l k
 unfold redraftlaw03_EqRuns.f
 repeat' first
   | (with_reducible exact ih0 _ _ _)
   | (with_reducible exact LeO.refl _)
   | (with_reducible exact LeO.none _)
   | (with_reducible refine LeO.ite ?_ ?_)
   | (with_reducible refine LeO.bind ?_ (fun _ => ?_))
   | exact ih0 _ _ _
   | exact LeO.none _
   | refine LeO.ite ?_ ?_
   | refine LeO.bind ?_ (fun _ => ?_)
set_option maxHeartbeats 8000000 in
set_option maxRecDepth 100000 in
theorem redraftlaw03_EqRuns.calls (k : Nat) (A0 : Option Addr) (c0 : Nat) (l0 : List (S58)) (A1 : Option Addr) (c1 : Nat) (l1 : List (S58)) (r : Bool) (w : World) (hr0 : Kd.C k58 w A0 l0.length l0) (hc0 : l0.length ≤ c0) (hr1 : Kd.C k58 w A1 l1.length l1) (hc1 : l1.length ≤ c1) (h : redraftlaw03_EqRuns.f k l0 l1 = some r) :
  Calls Tryd.prog 35 #[.slice A0 l0.length c0, .slice A1 l1.length c1] w fun e w' => e = .returned (.bool r) ∧ Drawn0 w w' := by
 have hu58 := Tryd.underlying58
 have HR0 := Aside0.mk hr0
 have HC0 := Aside0.mk hc0
 clear hr0 hc0
 have HR1 := Aside0.mk hr1
 have HC1 := Aside0.mk hc1
 clear hr1 hc1
 have H : (if (l0.length : Int) = (l1.length : Int) then (redraftlaw03_EqRuns.l0 k l0 l1 0) else (some false)) = some r := h
 clear h
 by_cases c3 : (l0.length : Int) = (l1.length : Int)
 ·rw [if_pos c3] at H
  have c3b0 : ((l0.length : Int) == (l1.length : Int)) = true := beq_iff_eq.mpr c3
  have c3b1 : ((l0.length : Int) != (l1.length : Int)) = false := bne_eq_false_iff_eq.mpr c3
  have c3b2 : (l0.length == l1.length) = true := by first | simpa using c3 | (simp at c3 ⊢; omega)
  clear c3
  have H' := Aside0.mk H
  clear H
  go_enter Tryd.func35, Tryd.ntmps35
  go_wp2
  repeat (go_quiet (fail); try go_wp2)
  go_loopg [5] k (fun kq v5 w' => ∃ (x5_1 : Int), v5 = .int .i64 x5_1 ∧ Aside0 (redraftlaw03_EqRuns.l0 kq l0 l1 x5_1 = some r) ∧ Aside0 (kq ≤ k) ∧ Drawn0 w w')
  case atStart => exact ⟨(0), (by first | rfl | (simp; done) | (simp [*]; done)), H', ⟨Nat.le_refl _⟩, by repeat (first | exact Drawn0.refl _ | apply Drawn0.step)⟩
  case round =>
   clear H'
   try clear c1
   try clear p2
   try clear c3
   try clear c3b0
   try clear c3b1
   try clear c3b2
   obtain ⟨x5_1, rfl, HA, HK1, ⟨m1, rfl⟩⟩ := hrel
   cases gk with
   | zero => exact absurd HA.out (by simp [redraftlaw03_EqRuns.l0])
   | succ k1 =>
    have H := HA.out
    clear HA
    simp only [redraftlaw03_EqRuns.l0] at H
    by_cases c4 : x5_1 < (l0.length : Int)
    ·rw [if_pos c4] at H
     have c4b0 : decide (x5_1 < (l0.length : Int)) = true := decide_eq_true c4
     clear c4
     by_cases c5 : 0 ≤ x5_1
     ·rw [if_pos c5] at H
      have c5b0 : decide (0 ≤ x5_1) = true := decide_eq_true c5
      clear c5
      by_cases c6 : x5_1 < (l1.length : Int)
      ·rw [if_pos c6] at H
       have c6b0 : decide (x5_1 < (l1.length : Int)) = true := decide_eq_true c6
       clear c6
       by_cases c7 : (!((((rd_T58 l0 x5_1).f0).toList) == (((rd_T58 l1 x5_1).f0).toList)) || (!(((rd_T58 l0 x5_1).f1) == ((rd_T58 l1 x5_1).f1)))) = true
       ·rw [if_pos c7] at H
        have c7b0 : (!((((rd_T58 l0 x5_1).f0).toList) == (((rd_T58 l1 x5_1).f0).toList)) || (!(((rd_T58 l0 x5_1).f1) == ((rd_T58 l1 x5_1).f1)))) = true := c7
        clear c7
        obtain rfl := Option.some.inj H
        have p185 : 0 ≤ (x5_1 : Int) := of_decide_eq_true (by first | (with_reducible assumption) | assumption)
        have q185 : x5_1 < (l0.length : Int) := of_decide_eq_true (by first | (with_reducible assumption) | assumption)
        obtain ⟨ad185, e185, hx185_0, hx185_1⟩ := at_T58 HR0.out x5_1 p185 q185
        cases e185
        replace p185 := eq_true p185
        replace q185 := eq_true q185
        have p186 : 0 ≤ (x5_1 : Int) := of_decide_eq_true (by first | (with_reducible assumption) | assumption)
        have q186 : x5_1 < (l1.length : Int) := of_decide_eq_true (by first | (with_reducible assumption) | assumption)
        obtain ⟨ad186, e186, hx186_0, hx186_1⟩ := at_T58 HR1.out x5_1 p186 q186
        cases e186
        replace p186 := eq_true p186
        replace q186 := eq_true q186
        go_wp2
        repeat (go_quiet (fail); try go_wp2)
        go_ret
        exact ⟨by first | rfl | (simp; done) | (simp [*]; done), by repeat (first | exact Drawn0.refl _ | apply Drawn0.step)⟩
       ·rw [if_neg c7] at H
        have c7b0 : (!((((rd_T58 l0 x5_1).f0).toList) == (((rd_T58 l1 x5_1).f0).toList)) || (!(((rd_T58 l0 x5_1).f1) == ((rd_T58 l1 x5_1).f1)))) = false := by simpa using c7
        clear c7
        have H' := Aside0.mk H
        clear H
        have p185 : 0 ≤ (x5_1 : Int) := of_decide_eq_true (by first | (with_reducible assumption) | assumption)
        have q185 : x5_1 < (l0.length : Int) := of_decide_eq_true (by first | (with_reducible assumption) | assumption)
        obtain ⟨ad185, e185, hx185_0, hx185_1⟩ := at_T58 HR0.out x5_1 p185 q185
        cases e185
        replace p185 := eq_true p185
        replace q185 := eq_true q185
        have p186 : 0 ≤ (x5_1 : Int) := of_decide_eq_true (by first | (with_reducible assumption) | assumption)
        have q186 : x5_1 < (l1.length : Int) := of_decide_eq_true (by first | (with_reducible assumption) | assumption)
        obtain ⟨ad186, e186, hx186_0, hx186_1⟩ := at_T58 HR1.out x5_1 p186 q186
        cases e186
        replace p186 := eq_true p186
        replace q186 := eq_true q186
        go_wp2
        repeat (go_quiet (fail); try go_wp2)
        go_roundg k1
        case measure => have := HK1.out; omega
        case rel => exact ⟨(wrap64 (x5_1 + 1)), (by first | rfl | (simp; done) | (simp [*]; done)), H', ⟨by have := HK1.out; omega⟩, by repeat (first | exact Drawn0.refl _ | apply Drawn0.step)⟩
      ·rw [if_neg c6] at H
       exact absurd H (by simp)
     ·rw [if_neg c5] at H
      exact absurd H (by simp)
    ·rw [if_neg c4] at H
     have c4b0 : decide (x5_1 < (l0.length : Int)) = false := decide_eq_false c4
     clear c4
     obtain rfl := Option.some.inj H
     go_wp2
     repeat (go_quiet (fail); try go_wp2)
     go_ret
     exact ⟨by first | rfl | (simp; done) | (simp [*]; done), by repeat (first | exact Drawn0.refl _ | apply Drawn0.step)⟩
 ·rw [if_neg c3] at H
  have c3b0 : ((l0.length : Int) == (l1.length : Int)) = false := beq_eq_false_iff_ne.mpr c3
  have c3b1 : ((l0.length : Int) != (l1.length : Int)) = true := bne_iff_ne.mpr c3
  have c3b2 : (l0.length == l1.length) = false := by first | simpa using c3 | (simp at c3 ⊢; omega)
  obtain rfl := Option.some.inj H
  go_enter Tryd.func35, Tryd.ntmps35
  go_wp2
  repeat (go_quiet (fail); try go_wp2)
  go_ret
  exact ⟨by first | rfl | (simp; done) | (simp [*]; done), by repeat (first | exact Drawn0.refl _ | apply Drawn0.step)⟩
def span_Count.l0 : Nat → Int → List (S133) → Int → Int → Option (Int × Int)
 | 0, _, _, _, _ => none
 | k + 1, x6, x17, x18, x19 => if x19 < x18 then (if 0 ≤ x19 then (if x19 < (x17.length : Int) then (span_Count.l0 k (wrap64 (x6 + (wrap64 (((rd_T133 x17 x19).f1) - ((rd_T133 x17 x19).f0))))) x17 x18 (wrap64 (x19 + 1))) else (none)) else (none)) else (some (x6, 0))
def span_Count.f (k : Nat) (l0 : List (S133)) : Option (Int × Int) := (span_Check.f k l0).bind fun bt187 => (if bt187.2 = 0 then (span_Count.l0 k 0 l0 (l0.length : Int) 0) else (some (0, bt187.2)))
theorem span_Count.mono_l : ∀ k, (∀ y0 y1 y2 y3, LeO (span_Count.l0 k y0 y1 y2 y3) (span_Count.l0 (k + 1) y0 y1 y2 y3))
 | 0 => fun _ _ _ _ r h => by simp [span_Count.l0] at h
 | k + 1 => by
  have ih0 := span_Count.mono_l k
  ·intro y0 y1 y2 y3
   unfold span_Count.l0
   repeat' first
   | (with_reducible exact ih0 _ _ _ _)
   | (with_reducible exact span_Check.mono _ _)
   | (with_reducible exact LeO.refl _)
   | (with_reducible exact LeO.none _)
   | (with_reducible refine LeO.ite ?_ ?_)
   | (with_reducible refine LeO.bind ?_ (fun _ => ?_))
   | exact ih0 _ _ _ _
   | exact span_Check.mono _ _
   | exact LeO.none _
   | refine LeO.ite ?_ ?_
   | refine LeO.bind ?_ (fun _ => ?_)
theorem span_Count.mono : ∀ a0 k, LeO (span_Count.f k a0) (span_Count.f (k + 1) a0) := by
 intro a0 k
 have ih0 := span_Count.mono_l k
 unfold span_Count.f
 repeat' first
   | (with_reducible exact ih0 _ _ _ _)
   | (with_reducible exact span_Check.mono _ _)
   | (with_reducible exact LeO.refl _)
   | (with_reducible exact LeO.none _)
   | (with_reducible refine LeO.ite ?_ ?_)
   | (with_reducible refine LeO.bind ?_ (fun _ => ?_))
   | exact ih0 _ _ _ _
   | exact span_Check.mono _ _
   | exact LeO.none _
   | refine LeO.ite ?_ ?_
   | refine LeO.bind ?_ (fun _ => ?_)
set_option maxHeartbeats 8000000 in
set_option maxRecDepth 100000 in
theorem span_Count.calls (k : Nat) (A0 : Option Addr) (c0 : Nat) (l0 : List (S133)) (r1 : Int) (r2 : Int) (w : World) (hr0 : Kd.C k133 w A0 l0.length l0) (hc0 : l0.length ≤ c0) (h : span_Count.f k l0 = some (r1, r2)) :
  Calls Tryd.prog 38 #[.slice A0 l0.length c0] w fun e w' => e = .returned (.tuple #[.int .i64 r1, .int .i64 r2]) ∧ Below w.heap.size w w' := by
 have hu133 := Tryd.underlying133
 have HR0 := Aside0.mk hr0
 have HC0 := Aside0.mk hc0
 clear hr0 hc0
 have HB := Aside0.mk (Below.refl w.heap.size w)
 have H : ((span_Check.f k l0).bind fun bt187 => (if bt187.2 = 0 then (span_Count.l0 k 0 l0 (l0.length : Int) 0) else (some (0, bt187.2)))) = some (r1, r2) := h
 clear h
 replace H := Option.bind_eq_some_iff.mp H
 obtain ⟨⟨t187, t188⟩, A20, H⟩ := H
 replace H : (if t188 = 0 then (span_Count.l0 k 0 l0 (l0.length : Int) 0) else (some (0, t188))) = some (r1, r2) := H
 have A2 := Aside0.mk A20
 clear A20
 by_cases c3 : t188 = 0
 ·rw [if_pos c3] at H
  have c3b0 : (t188 == 0) = true := beq_iff_eq.mpr c3
  have c3b1 : (t188 != 0) = false := bne_eq_false_iff_eq.mpr c3
  clear c3
  have H' := Aside0.mk H
  clear H
  go_enter Tryd.func38, Tryd.ntmps38
  go_wp2_with (first | ((with_reducible refine gate_callee (f := 37) rfl ?_); refine goesL_ (some 11) rfl rfl Tryd.func37 (by kernel_rfl) rfl #[.slice A0 l0.length c0] rfl (by (try simp only [List.map_toArray, List.map_cons, List.map_nil]); first | done | rfl | (simp only [List.length_drop, List.length_take]; rfl)) ?_; (with_reducible refine (span_Check.calls k _ _ l0 t187 t188 _ ?side1 ?side2 A2.out).mono ?_); (case side1 => repeat (first | exact HR0.out | (with_reducible refine Kd.C_alloc ?_ _) | (with_reducible refine Kd.C_drewN ?_ _) | (with_reducible refine Kd.C_drew ?_))); (case side2 => exact HC0.out); rintro e w4 ⟨rfl, hb⟩; refine ⟨_, rfl, ?_⟩; have n0_ := Aside0.mk (below_step (by repeat (first | (with_reducible first | exact HB.out | apply below_alloc | apply pw_below_drewN | apply below_drew1) | exact HB.out)) hb); clear HB; have HB := n0_; clear n0_; (try clear hb); (try clear hb2); (try clear hk); (try clear hi)))
  go_loopg [6, 19] k (fun kq v6 v19 w' => ∃ (x6_1 : Int) (x19_1 : Int), v6 = .int .i64 x6_1 ∧ v19 = .int .i64 x19_1 ∧ Aside0 (span_Count.l0 kq x6_1 l0 (l0.length : Int) x19_1 = some (r1, r2)) ∧ Aside0 (kq ≤ k) ∧ Aside0 (Below w.heap.size w w'))
  case atStart => exact ⟨(0), (0), (by first | rfl | (simp; done) | (simp [*]; done)), (by first | rfl | (simp; done) | (simp [*]; done)), H', ⟨Nat.le_refl _⟩, ⟨by repeat (first | (with_reducible first | exact HB.out | apply below_alloc | apply pw_below_drewN | apply below_drew1) | exact HB.out)⟩⟩
  case round =>
   clear H'
   try clear p2
   try clear c3
   try clear c3b0
   try clear c3b1
   obtain ⟨x6_1, x19_1, rfl, rfl, HA, HK1, HB⟩ := hrel
   cases gk with
   | zero => exact absurd HA.out (by simp [span_Count.l0])
   | succ k1 =>
    have H := HA.out
    clear HA
    simp only [span_Count.l0] at H
    by_cases c5 : x19_1 < (l0.length : Int)
    ·rw [if_pos c5] at H
     have c5b0 : decide (x19_1 < (l0.length : Int)) = true := decide_eq_true c5
     clear c5
     by_cases c6 : 0 ≤ x19_1
     ·rw [if_pos c6] at H
      have c6b0 : decide (0 ≤ x19_1) = true := decide_eq_true c6
      clear c6
      by_cases c7 : x19_1 < (l0.length : Int)
      ·rw [if_pos c7] at H
       have c7b0 : decide (x19_1 < (l0.length : Int)) = true := decide_eq_true c7
       clear c7
       have H' := Aside0.mk H
       clear H
       have p189 : 0 ≤ (x19_1 : Int) := of_decide_eq_true (by first | (with_reducible assumption) | assumption)
       have q189 : x19_1 < (l0.length : Int) := of_decide_eq_true (by first | (with_reducible assumption) | assumption)
       obtain ⟨ad189, e189, hx189_0, hx189_1⟩ := at_T133 HR0.out x19_1 p189 q189
       cases e189
       replace hx189_0 := (HB.out.cell (World.block_lt_of_cell? w _ hx189_0)).trans hx189_0
       replace hx189_1 := (HB.out.cell (World.block_lt_of_cell? w _ hx189_1)).trans hx189_1
       replace p189 := eq_true p189
       replace q189 := eq_true q189
       go_wp2_with (first | ((with_reducible refine gate_dst (N := 8) rfl ?_); refine box_event ?hg (N := 8) ?hd (cs := #[.int .i64 0, .int .i64 0]) (t := 133) ?hr ?_; (case hd => rfl); (case hg => rfl); (case hr => first | (go_simp; done) | (go_simp; rfl)); intro gb190 hg w8 hbox hb; have n0_ := Aside0.mk (below_step (by repeat (first | (with_reducible first | exact HB.out | apply below_alloc | apply pw_below_drewN | apply below_drew1) | exact HB.out)) hb); have n1_ := Aside0.mk (hbox); have n2_ := Aside0.mk ((by rw [hg]; exact (below_size (by repeat (first | (with_reducible first | exact HB.out | apply below_alloc | apply pw_below_drewN | apply below_drew1) | exact HB.out))) : w.heap.size ≤ gb190)); have n3_ := Aside0.mk ((by rw [hg]; exact (below_size (by repeat (first | (with_reducible first | exact HB.out | apply below_alloc | apply pw_below_drewN | apply below_drew1) | exact HB.out))) : w.heap.size ≤ gb190)); clear HB; have HB := n0_; have BK190 := n1_; have GW190 := n2_; have GE190 := n3_; clear n0_ n1_ n2_ n3_; clear hb hbox hg; have hcz9_0 : w8.cell? ⟨gb190, 0, none⟩ = some (.int .i64 0) := (blk_cell BK190.out 0).trans rfl; have hcz9_1 : w8.cell? ⟨gb190, 1, none⟩ = some (.int .i64 0) := (blk_cell BK190.out 1).trans rfl; have hfz9_0 := blk_frozen BK190.out 0; have hfz9_1 := blk_frozen BK190.out 1))
       go_roundg k1
       case measure => have := HK1.out; omega
       case rel => exact ⟨(wrap64 (x6_1 + (wrap64 (((rd_T133 l0 x19_1).f1) - ((rd_T133 l0 x19_1).f0))))), (wrap64 (x19_1 + 1)), (by first | rfl | (simp; done) | (simp [*]; done)), (by first | rfl | (simp; done) | (simp [*]; done)), H', ⟨by have := HK1.out; omega⟩, ⟨by repeat (first | (with_reducible first | exact HB.out | apply below_alloc | apply pw_below_drewN | apply below_drew1 | refine below_set ?_ GE190.out) | exact HB.out)⟩⟩
      ·rw [if_neg c7] at H
       exact absurd H (by simp)
     ·rw [if_neg c6] at H
      exact absurd H (by simp)
    ·rw [if_neg c5] at H
     have c5b0 : decide (x19_1 < (l0.length : Int)) = false := decide_eq_false c5
     clear c5
     simp only [Option.some.injEq, Prod.mk.injEq] at H
     obtain ⟨rfl, rfl⟩ := H
     go_wp2
     go_ret2
     exact ⟨by first | rfl | (simp [errW_none, errW_some] <;> rfl) | (simp [*, errW_none, errW_some] <;> rfl), by repeat (first | (with_reducible first | exact HB.out | apply below_alloc | apply pw_below_drewN | apply below_drew1) | exact HB.out)⟩
 ·rw [if_neg c3] at H
  have c3b0 : (t188 == 0) = false := beq_eq_false_iff_ne.mpr c3
  have c3b1 : (t188 != 0) = true := bne_iff_ne.mpr c3
  simp only [Option.some.injEq, Prod.mk.injEq] at H
  obtain ⟨rfl, rfl⟩ := H
  go_enter Tryd.func38, Tryd.ntmps38
  go_wp2_with (first | ((with_reducible refine gate_callee (f := 37) rfl ?_); refine goesL_ (some 11) rfl rfl Tryd.func37 (by kernel_rfl) rfl #[.slice A0 l0.length c0] rfl (by (try simp only [List.map_toArray, List.map_cons, List.map_nil]); first | done | rfl | (simp only [List.length_drop, List.length_take]; rfl)) ?_; (with_reducible refine (span_Check.calls k _ _ l0 t187 t188 _ ?side1 ?side2 A2.out).mono ?_); (case side1 => repeat (first | exact HR0.out | (with_reducible refine Kd.C_alloc ?_ _) | (with_reducible refine Kd.C_drewN ?_ _) | (with_reducible refine Kd.C_drew ?_))); (case side2 => exact HC0.out); rintro e w10 ⟨rfl, hb⟩; refine ⟨_, rfl, ?_⟩; have n0_ := Aside0.mk (below_step (by repeat (first | (with_reducible first | exact HB.out | apply below_alloc | apply pw_below_drewN | apply below_drew1) | exact HB.out)) hb); clear HB; have HB := n0_; clear n0_; (try clear hb); (try clear hb2); (try clear hk); (try clear hi)))
  go_ret2
  exact ⟨by first | rfl | (simp [errW_none, errW_some] <;> rfl) | (simp [*, errW_none, errW_some] <;> rfl), by repeat (first | (with_reducible first | exact HB.out | apply below_alloc | apply pw_below_drewN | apply below_drew1) | exact HB.out)⟩
def redraftlaw03_at.f (a0 : Int) : Option (Int) := some (Int.tmod (wrap64 ((Int.tmod a0 3) + 3)) 3)
set_option maxHeartbeats 8000000 in
set_option maxRecDepth 100000 in
theorem redraftlaw03_at.calls (a0 : Int) (r : Int) (w : World) (h : redraftlaw03_at.f a0 = some r) :
  Calls Tryd.prog 79 #[.int .i64 a0] w fun e w' => e = .returned (.int .i64 r) ∧ Drawn0 w w' := by
 have H : (some (Int.tmod (wrap64 ((Int.tmod a0 3) + 3)) 3)) = some r := h
 clear h
 obtain rfl := Option.some.inj H
 go_enter Tryd.func79, Tryd.ntmps79
 go_wp2
 go_ret
 exact ⟨by first | rfl | (simp; done) | (simp [*]; done), by repeat (first | exact Drawn0.refl _ | apply Drawn0.step)⟩
end Go.Proofs.YteeigokkafcaaaaDoor.Pr
end
section
namespace Go.Proofs.YteeigokkafcaaaaDoorRope
open Go.RowKit Go.Proofs.YteeigokkafcaaaaDoorW.PrintWords Go.Proofs.YteeigokkafcaaaaDoorW.PrintMore Go.Proofs.YteeigokkafcaaaaDoor.Pr
set_option linter.unusedSimpArgs false
set_option linter.unusedVariables false
def addR (l : List (Nat × Nat)) (q : Nat) : List (Nat × Nat) :=
  match l.reverse with
  | [] => [(q, q + 1)]
  | b :: t => if b.2 = q then t.reverse ++ [(b.1, q + 1)] else l ++ [(q, q + 1)]
theorem addR_nil (q : Nat) : addR [] q = [(q, q + 1)] := rfl
theorem addR_snoc (L : List (Nat × Nat)) (b : Nat × Nat) (q : Nat) : addR (L ++ [b]) q = if b.2 = q then L ++ [(b.1, q + 1)] else L ++ [b] ++ [(q, q + 1)] := by
  unfold addR
  rw [List.reverse_append]
  simp
structure Chs (cs : List (Int × Int)) (down : Bool) (q : Nat) (l : List (Nat × Nat)) : Prop where
  one : ∀ r ∈ l, r.1 < r.2 ∧ r.2 ≤ q
  two : l.Pairwise (fun a b => a.2 < b.1)
  len : l.length ≤ q
  hid : ∀ r ∈ l, ∀ p, r.1 ≤ p → p < r.2 → down = true → (cs.getD p (0, 0)).2 ≠ 0
theorem Chs.zero (cs : List (Int × Int)) (down : Bool) : Chs cs down 0 [] := ⟨by simp, List.Pairwise.nil, Nat.le_refl _, by simp⟩
theorem Chs.skip {cs : List (Int × Int)} {down : Bool} {q : Nat} {l : List (Nat × Nat)} (h : Chs cs down q l) : Chs cs down (q + 1) l :=
  ⟨fun r hr => ⟨(h.one r hr).1, Nat.le_succ_of_le (h.one r hr).2⟩, h.two, Nat.le_succ_of_le h.len, h.hid⟩
theorem Chs.add {cs : List (Int × Int)} {down : Bool} {q : Nat} {l : List (Nat × Nat)} (h : Chs cs down q l) (hd : down = true → (cs.getD q (0, 0)).2 ≠ 0) : Chs cs down (q + 1) (addR l q) := by
  rcases List.eq_nil_or_concat l with rfl | ⟨L, b, rfl⟩
  · rw [addR_nil]
    refine ⟨fun r hr => ?_, by simp, by simp, fun r hr p h1 h2 hdn => ?_⟩
    · obtain rfl := List.mem_singleton.1 hr
      exact ⟨Nat.lt_succ_self _, Nat.le_refl _⟩
    · obtain rfl := List.mem_singleton.1 hr
      obtain rfl : p = q := by dsimp only at h1 h2; omega
      exact hd hdn
  · rw [List.concat_eq_append] at *
    rw [addR_snoc]
    have hb := h.one b (by simp)
    have ht := List.pairwise_append.1 h.two
    have hlen := h.len
    simp only [List.length_append, List.length_cons, List.length_nil] at hlen
    by_cases c : b.2 = q
    · rw [if_pos c]
      refine ⟨fun r hr => ?_, ?_, by simp; omega, fun r hr p h1 h2 hdn => ?_⟩
      · rcases List.mem_append.1 hr with hr | hr
        · have := h.one r (List.mem_append_left _ hr); exact ⟨this.1, by omega⟩
        · obtain rfl := List.mem_singleton.1 hr; exact ⟨by dsimp only; omega, Nat.le_refl _⟩
      · refine List.pairwise_append.2 ⟨ht.1, by simp, fun a ha x hx => ?_⟩
        obtain rfl := List.mem_singleton.1 hx
        exact ht.2.2 a ha b (by simp)
      · rcases List.mem_append.1 hr with hr | hr
        · exact h.hid r (List.mem_append_left _ hr) p h1 h2 hdn
        · obtain rfl := List.mem_singleton.1 hr
          dsimp only at h1 h2
          by_cases c2 : p = q
          · rw [c2]; exact hd hdn
          · exact h.hid b (by simp) p h1 (by omega) hdn
    · rw [if_neg c]
      refine ⟨fun r hr => ?_, ?_, by simp; omega, fun r hr p h1 h2 hdn => ?_⟩
      · rcases List.mem_append.1 hr with hr | hr
        · have := h.one r hr; exact ⟨this.1, by omega⟩
        · obtain rfl := List.mem_singleton.1 hr; exact ⟨Nat.lt_succ_self _, Nat.le_refl _⟩
      · refine List.pairwise_append.2 ⟨h.two, by simp, fun a ha x hx => ?_⟩
        obtain rfl := List.mem_singleton.1 hx
        dsimp only
        rcases List.mem_append.1 ha with ha | ha
        · have := ht.2.2 a ha b (by simp); omega
        · obtain rfl := List.mem_singleton.1 ha; omega
      · rcases List.mem_append.1 hr with hr | hr
        · exact h.hid r hr p h1 h2 hdn
        · obtain rfl := List.mem_singleton.1 hr
          obtain rfl : p = q := by dsimp only at h1 h2; omega
          exact hd hdn
theorem sRng_append (a b : List (Nat × Nat)) : sRng (a ++ b) = sRng a ++ sRng b := by simp [sRng]
theorem chosen_l0 {cs : List (Int × Int)} (hb : cs.length ≤ 1048576) (a b : Int) (down : Bool) : ∀ (d q : Nat) (l : List (Nat × Nat)), q + d = cs.length → Chs cs down q l → ∃ k l', redraftlaw03_chosen.l0 k (sCells cs) a b down (sRng l) (q : Int) = some (sRng l') ∧ Chs cs down cs.length l' := by
  intro d
  induction d with
  | zero =>
    intro q l hq h
    refine ⟨1, l, ?_, ?_⟩
    · rw [redraftlaw03_chosen.l0, if_neg (by rw [sCells_len]; omega)]
    · rwa [show cs.length = q by omega]
  | succ d ih =>
    intro q l hq h
    have hql : q < cs.length := by omega
    have e1 : wrap64 ((q : Int) + 1) = ((q + 1 : Nat) : Int) := by rw [w64 (by omega) (by omega)]; omega
    have hskip := ih (q + 1) l (by omega) h.skip
    have hj : ∀ x : Bool, (x = false → down = true → cs[q].2 ≠ 0) → ∃ k l', redraftlaw03_chosen.j1 k (sCells cs) a b down (sRng l) (q : Int) x = some (sRng l') ∧ Chs cs down cs.length l' := by
      intro x hx
      cases x with
      | true =>
        obtain ⟨k, l', hk, hl'⟩ := hskip
        exact ⟨k + 1, l', by rw [redraftlaw03_chosen.j1, if_pos rfl, e1]; exact hk, hl'⟩
      | false =>
        have hadd := ih (q + 1) (addR l q) (by omega) (h.add (fun hd => by
          rw [List.getD_eq_getElem?_getD, List.getElem?_eq_getElem hql]
          exact hx rfl hd))
        obtain ⟨k, l', hk, hl'⟩ := hadd
        refine ⟨k + 1, l', ?_, hl'⟩
        have hll := h.len
        rw [redraftlaw03_chosen.j1, if_neg (by decide), e1]
        rcases List.eq_nil_or_concat l with rfl | ⟨L, r, rfl⟩
        · rw [if_neg (by simp [sRng]), if_pos (by simp [sRng])]
          rw [addR_nil] at hk
          exact hk
        · rw [List.concat_eq_append] at *
          rw [addR_snoc] at hk
          have hlr : (sRng (L ++ [r])).length = L.length + 1 := by rw [sRng_len]; simp
          have hLb : L.length + 1 ≤ q := by simpa using hll
          have e2 : wrap64 (((sRng (L ++ [r])).length : Int) - 1) = (L.length : Int) := by rw [hlr, w64 (by omega) (by omega)]; omega
          have hrd : rd_T133 (sRng (L ++ [r])) (L.length : Int) = ⟨(r.1 : Int), (r.2 : Int)⟩ := by
            have := rd_sRng (l := L ++ [r]) (i := L.length) (by simp)
            rw [this]
            simp
          rw [if_pos (by omega), e2, if_pos (by omega), if_pos (by omega), hrd]
          dsimp only
          by_cases c : r.2 = q
          · rw [if_pos (by omega)]
            rw [if_pos c] at hk
            have hset : (sRng (L ++ [r])).set (L.length : Int).toNat ⟨(r.1 : Int), ((q + 1 : Nat) : Int)⟩ = sRng (L ++ [(r.1, q + 1)]) := by
              rw [Int.toNat_natCast, sRng_append, List.set_append_right _ _ (by rw [sRng_len]; exact Nat.le_refl _), sRng_len, Nat.sub_self, sRng_append]
              rfl
            rw [hset]
            exact hk
          · rw [if_neg (by omega), if_pos (by omega)]
            rw [if_neg c, sRng_append] at hk
            exact hk
    have r1 : redraftlaw03_rest.f a 7 = some (a % 7) := rest_is (by decide) (by decide)
    have r2 : redraftlaw03_rest.f b 11 = some (b % 11) := rest_is (by decide) (by decide)
    obtain ⟨z, hz⟩ : ∃ z, z = wrap64 (wrap64 ((q : Int) * (a % 7)) + b % 11) := ⟨_, rfl⟩
    have r3 : redraftlaw03_rest.f z 11 = some (z % 11) := rest_is (by decide) (by decide)
    have key : ∀ k, redraftlaw03_chosen.l0 (k + 1) (sCells cs) a b down (sRng l) (q : Int) = if z % 11 < 5 then (if down = true then redraftlaw03_chosen.j1 k (sCells cs) a b down (sRng l) (q : Int) (cs[q].2 == 0) else redraftlaw03_chosen.j1 k (sCells cs) a b down (sRng l) (q : Int) false) else redraftlaw03_chosen.j1 k (sCells cs) a b down (sRng l) (q : Int) true := by
      intro k
      rw [redraftlaw03_chosen.l0, if_pos (by rw [sCells_len]; omega), r1, Option.bind_some, r2, Option.bind_some, ← hz, r3, Option.bind_some, if_pos (Int.natCast_nonneg q), rd_sCells hql]
    by_cases c1 : z % 11 < 5
    · by_cases c2 : down = true
      · obtain ⟨k, l', hk, hl'⟩ := hj (cs[q].2 == 0) (fun e _ => by simpa using e)
        exact ⟨k + 1, l', by rw [key, if_pos c1, if_pos c2]; exact hk, hl'⟩
      · obtain ⟨k, l', hk, hl'⟩ := hj false (fun _ e => absurd e c2)
        exact ⟨k + 1, l', by rw [key, if_pos c1, if_neg c2]; exact hk, hl'⟩
    · obtain ⟨k, l', hk, hl'⟩ := hj true (fun e => by cases e)
      exact ⟨k + 1, l', by rw [key, if_neg c1]; exact hk, hl'⟩
theorem chosen_is (cs : List (Int × Int)) (hb : cs.length ≤ 32768) (a b : Int) (down : Bool) : ∃ k l, redraftlaw03_chosen.f k (sCells cs) a b down = some (sRng l) ∧ Norm l cs.length ∧ (down = true → ∀ r ∈ l, ∀ c ∈ (cs.take r.2).drop r.1, c.2 ≠ 0) := by
  obtain ⟨k, l, hk, h⟩ := chosen_l0 (cs := cs) (by omega) a b down cs.length 0 [] (by omega) (Chs.zero _ _)
  refine ⟨k, l, hk, ⟨h.one, fun i hi => ?_, by have := h.len; omega⟩, fun hd r hr c hc => ?_⟩
  · exact List.pairwise_iff_getElem.1 h.two i (i + 1) (by omega) hi (Nat.lt_succ_self _)
  · obtain ⟨i, hi, rfl⟩ := List.getElem_of_mem hc
    have hone := h.one r hr
    have hi' := hi
    rw [List.length_drop, List.length_take] at hi'
    have := h.hid r hr (r.1 + i) (Nat.le_add_right _ _) (by omega) hd
    rw [List.getD_eq_getElem?_getD, List.getElem?_eq_getElem (by omega)] at this
    simpa using this
end Go.Proofs.YteeigokkafcaaaaDoorRope
end
section
namespace Go.Proofs.YteeigokkafcaaaaDoorRope
open Go.RowKit Go.Proofs.YteeigokkafcaaaaDoorW.PrintWords Go.Proofs.YteeigokkafcaaaaDoorW.PrintMore Go.Proofs.YteeigokkafcaaaaDoor.Pr
set_option linter.unusedSimpArgs false
set_option linter.unusedVariables false
structure RowOk (H : Int) (cs : List (Int × Int)) : Prop where
  rn : ∀ c ∈ cs, Rn c.1
  h : ∀ c ∈ cs, 0 ≤ c.2 ∧ c.2 ≤ H
theorem cells4k {W : World} {g k : Nat} {a b c d : Value} (h : W.heap[g]? = some (Obj.cells #[a, b, c, d] k (0, 0))) : W.cell? ⟨g, 0, none⟩ = some a ∧ W.cell? ⟨g, 1, none⟩ = some b ∧ W.cell? ⟨g, 2, none⟩ = some c ∧ W.cell? ⟨g, 3, none⟩ = some d := by
  simp [World.cell?, h]
theorem RopeHas.lt {W : World} {b : Nat} {cs : List (Int × Int)} (h : RopeHas W b cs) : b < W.heap.size := by
  obtain ⟨K, t, h, _⟩ := h
  obtain ⟨v, hv, _⟩ := h.h
  exact new_lt hv
theorem Stand.row' {w W W' : World} {b : Nat} {A A' : Option Addr} {c c' : Nat} {cs cs' cs'' : List (Int × Int)} (h : Stand w W b A c cs cs') (hb : Below W.heap.size W W') {ok : Nat → Prop} (hr : Kd.R k36 36 W' W.heap.size ok (.slice A' cs''.length c') (sCells cs'')) : Stand w W' b A' c' cs'' cs' := by
  have h' := h.step hb
  refine ⟨h'.bel, h'.bars, ⟨W.heap.size, Kd.R_mono (Kd.R_bound hr) (fun k hk e => ?_)⟩, h'.rope, h'.lb, h'.nz⟩
  have := h.rope.lt
  have := hk.2.1
  omega
theorem RowOk.ins {H : Int} {cs : List (Int × Int)} (h : RowOk H cs) {at_ : Nat} {l : List Int} {hd : Int} (hl : ∀ r ∈ l, Rn r) (hh : 0 ≤ hd ∧ hd ≤ H) : RowOk (H + 1) (insC cs at_ l hd) := by
  refine ⟨ins_rn h.rn hl, fun c hm => ?_⟩
  rw [insC, List.mem_append, List.mem_append] at hm
  rcases hm with (hm | hm) | hm
  · have := h.h _ (List.mem_of_mem_take hm); omega
  · obtain ⟨r, hr, rfl⟩ := List.mem_map.1 hm; exact ⟨hh.1, by dsimp only; omega⟩
  · have := h.h _ (List.mem_of_mem_drop hm); omega
theorem bump1_mem {cs : List (Int × Int)} {r : Nat × Nat} {b : Int} {c : Int × Int} (h : c ∈ bump1 cs r b) : c ∈ cs ∨ ∃ d ∈ (cs.take r.2).drop r.1, c = (d.1, d.2 + b) := by
  rw [bump1, List.mem_append, List.mem_append] at h
  rcases h with (h | h) | h
  · exact .inl (List.mem_of_mem_take h)
  · obtain ⟨d, hd, rfl⟩ := List.mem_map.1 h
    exact .inr ⟨d, hd, rfl⟩
  · exact .inl (List.mem_of_mem_drop h)
theorem bumpC_mem {cs : List (Int × Int)} {l : List (Nat × Nat)} {b : Int} (hN : Norm l cs.length) : ∀ i, i ≤ l.length → ∀ c ∈ bumpC cs (l.take i) b, c ∈ cs ∨ ∃ r ∈ l, ∃ d ∈ (cs.take r.2).drop r.1, c = (d.1, d.2 + b) := by
  intro i
  induction i with
  | zero => intro _ c hc; exact .inl hc
  | succ i ih =>
    intro hi c hc
    have hil : i < l.length := by omega
    rw [bumpC_take hil] at hc
    rcases bump1_mem hc with h | ⟨d, hd, rfl⟩
    · exact ih (by omega) c h
    · rw [bumpC_mid hN hil] at hd
      exact .inr ⟨l[i], List.getElem_mem hil, d, hd, rfl⟩
theorem RowOk.bump {H : Int} {cs : List (Int × Int)} (h : RowOk H cs) {l : List (Nat × Nat)} {b : Int} (hN : Norm l cs.length) (hok : BumpOk cs l b) (hb : b ≤ 1) : RowOk (H + 1) (bumpC cs l b) := by
  have hm := bumpC_mem (b := b) hN l.length (Nat.le_refl _)
  rw [List.take_length] at hm
  refine ⟨fun c hc => ?_, fun c hc => ?_⟩
  · rcases hm c hc with h1 | ⟨r, hr, d, hd, rfl⟩
    · exact h.rn _ h1
    · exact h.rn d (List.mem_of_mem_take (List.mem_of_mem_drop hd))
  · rcases hm c hc with h1 | ⟨r, hr, d, hd, rfl⟩
    · have := h.h _ h1; omega
    · have := h.h _ (List.mem_of_mem_take (List.mem_of_mem_drop hd))
      have := hok r hr d hd
      dsimp only
      omega
end Go.Proofs.YteeigokkafcaaaaDoorRope
end
section
namespace Go.Proofs.YteeigokkafcaaaaDoorRope
open Go.RowKit Go.Proofs.YteeigokkafcaaaaDoorW.PrintWords Go.Proofs.YteeigokkafcaaaaDoorW.PrintMore Go.Proofs.YteeigokkafcaaaaDoor.Pr
set_option linter.unusedSimpArgs false
set_option linter.unusedVariables false
def k44 : Kd (Int × Int × Int × Int) := Kd.iso (Kd.pair (Kd.int .i64) (Kd.pair (Kd.int .i64) (Kd.pair (Kd.int .i64) (Kd.int .i64)))) (fun x : Int × Int × Int × Int => x)
theorem at_T44 {w : World} {A : Option Addr} {ps : List (Int × Int × Int × Int)} (h : Kd.C k44 w A ps.length ps) {k : Nat} (hk : k < ps.length) : ∃ ad, A = some ad ∧ w.cell? (ad.add (k * 4)) = some (.int .i64 ps[k].1) ∧ w.cell? ⟨(ad.add (k * 4)).block, (ad.add (k * 4)).off + 1, none⟩ = some (.int .i64 ps[k].2.1) ∧ w.cell? ⟨(ad.add (k * 4)).block, (ad.add (k * 4)).off + 2, none⟩ = some (.int .i64 ps[k].2.2.1) ∧ w.cell? ⟨(ad.add (k * 4)).block, (ad.add (k * 4)).off + 3, none⟩ = some (.int .i64 ps[k].2.2.2) := by
  obtain ⟨ad, c, e, hl, hK, hc⟩ := Kd.C_get h (0, 0, 0, 0) (k : Int) (by omega) (by omega)
  have hx : ps.getD (k : Int).toNat (0, 0, 0, 0) = ps[k] := by simp [hk]
  rw [hx] at hK
  obtain ⟨c0, c1, rfl, h0, c2, c3, rfl, h1, c4, c5, rfl, h2, h3⟩ := hK
  have h0' : c0 = [.int .i64 ps[k].1] := h0
  have h1' : c2 = [.int .i64 ps[k].2.1] := h1
  have h2' : c4 = [.int .i64 ps[k].2.2.1] := h2
  have h3' : c5 = [.int .i64 ps[k].2.2.2] := h3
  subst h0' h1' h2' h3'
  have hs : k44.sz = 4 := rfl
  refine ⟨ad, e, ?_, ?_, ?_, ?_⟩
  · have := hc 0 _ rfl
    rw [hs] at this
    simpa using this
  · have := hc 1 _ rfl
    rw [hs, Int.toNat_natCast, add_field _ _ _ (by decide)] at this
    exact this
  · have := hc 2 _ rfl
    rw [hs, Int.toNat_natCast, add_field _ _ _ (by decide)] at this
    exact this
  · have := hc 3 _ rfl
    rw [hs, Int.toNat_natCast, add_field _ _ _ (by decide)] at this
    exact this
theorem runsG_hid : ∀ (ps : List (Int × Int)) (i : Nat) (prev : Option Int), ∀ x ∈ runsG i prev ps, 0 ≤ x.2 ∧ x.2 ≤ 2
  | [], _, _, x, hx => by cases hx
  | p :: ps, i, prev, x, hx => by
    rcases List.mem_cons.1 hx with rfl | hx
    · have := hidOf_rng prev p.2
      exact ⟨this.1, by have := this.2; show hidOf prev p.2 ≤ _; omega⟩
    · exact runsG_hid ps _ _ x hx
theorem rcells_ok (ps : List (Int × Int)) : RowOk 2 (rcells (runsL ps)) := by
  refine ⟨rcells_rn ps, fun c hc => ?_⟩
  unfold rcells at hc
  obtain ⟨x, hx, hc⟩ := List.mem_flatMap.1 hc
  obtain ⟨r, hr, rfl⟩ := List.mem_map.1 hc
  exact runsG_hid _ _ _ x hx
end Go.Proofs.YteeigokkafcaaaaDoorRope
end
section
namespace Go.Proofs.YteeigokkafcaaaaDoorRope
open Go.RowKit Go.Proofs.YteeigokkafcaaaaDoorW.PrintWords Go.Proofs.YteeigokkafcaaaaDoorW.PrintMore Go.Proofs.YteeigokkafcaaaaDoor.Pr
set_option linter.unusedSimpArgs false
set_option linter.unusedVariables false
structure Few (l : List (List Int × Int)) : Prop where
  one : ∀ x ∈ l, x.1 ≠ []
  two : ∀ i (h : i + 1 < l.length), l[i + 1].2 ≠ l[i].2
theorem Few.nil : Few [] := ⟨by simp, by simp⟩
theorem Few.single {x : List Int × Int} (h : x.1 ≠ []) : Few [x] := ⟨by simpa using h, by simp⟩
theorem GoodRuns.few {l : List (List Int × Int)} (h : GoodRuns l) : Few l := ⟨fun x hx => (h.one x hx).1, h.two⟩
theorem Few.tail {x : List Int × Int} {l : List (List Int × Int)} (h : Few (x :: l)) : Few l := by
  refine ⟨fun y hy => h.one y (List.mem_cons_of_mem _ hy), fun i hi => ?_⟩
  have := h.two (i + 1) (by simpa using hi)
  simpa using this
theorem Few.snoc {o : List (List Int × Int)} {a : List Int} {h : Int} {rs : List Int} {h' : Int} (hf : Few (o ++ [(a, h)])) (hr : rs ≠ []) (hne : h' ≠ h) : Few (o ++ [(a, h)] ++ [(rs, h')]) := by
  refine ⟨fun x hx => ?_, fun i hi => ?_⟩
  · rcases List.mem_append.1 hx with hx | hx
    · exact hf.one x hx
    · rw [List.mem_singleton.1 hx]; exact hr
  · have hl : (o ++ [(a, h)]).length = o.length + 1 := by simp
    have hi' := hi
    rw [List.length_append, hl] at hi'
    simp only [List.length_cons, List.length_nil] at hi'
    have hlast : ∀ hj : o.length < (o ++ [(a, h)]).length, (o ++ [(a, h)])[o.length].2 = h := by simp
    obtain ⟨L, hL⟩ : ∃ L, L = o ++ [(a, h)] := ⟨_, rfl⟩
    rw [← hL] at hl hlast hf
    simp only [← hL]
    by_cases c : i + 1 < o.length + 1
    · rw [List.getElem_append_left (by omega), List.getElem_append_left (by omega)]
      exact hf.two i (by omega)
    · obtain rfl : i = o.length := by omega
      rw [List.getElem_append_right (by omega), List.getElem_append_left (by omega), hlast (by omega)]
      simpa [hl] using hne
theorem Few.grow {o : List (List Int × Int)} {a : List Int} {h : Int} (b : List Int) (hf : Few (o ++ [(a, h)])) : Few (o ++ [(a ++ b, h)]) := by
  refine ⟨fun x hx => ?_, fun i hi => ?_⟩
  · rcases List.mem_append.1 hx with hx | hx
    · exact hf.one x (List.mem_append_left _ hx)
    · rw [List.mem_singleton.1 hx]
      have := hf.one (a, h) (by simp)
      intro e
      exact this (List.append_eq_nil_iff.1 e).1
  · have key : ∀ (j : Nat) (hj : j < (o ++ [(a ++ b, h)]).length) (hj' : j < (o ++ [(a, h)]).length), (o ++ [(a ++ b, h)])[j].2 = (o ++ [(a, h)])[j].2 := by
      intro j hj hj'
      by_cases c : j < o.length
      · rw [List.getElem_append_left c, List.getElem_append_left c]
      · have : j = o.length := by simp at hj; omega
        subst this
        simp
    have hi' : i + 1 < (o ++ [(a, h)]).length := by simpa using hi
    rw [key _ _ hi', key _ _ (by omega)]
    exact hf.two i hi'
theorem rcells_cons (x : List Int × Int) (l : List (List Int × Int)) : rcells (x :: l) = x.1.map (fun c => (c, x.2)) ++ rcells l := by simp [rcells]
theorem few_head {x : List Int × Int} {l : List (List Int × Int)} (h : Few (x :: l)) : (rcells (x :: l)).takeWhile (fun c => c.2 == x.2) = x.1.map (fun c => (c, x.2)) := by
  rw [rcells_cons]
  have h1 : ∀ (a : List Int) (s : List (Int × Int)), (a.map (fun c => (c, x.2)) ++ s).takeWhile (fun c => c.2 == x.2) = a.map (fun c => (c, x.2)) ++ s.takeWhile (fun c => c.2 == x.2) := by
    intro a s
    induction a with
    | nil => rfl
    | cons r t ih => simp [List.takeWhile, ih]
  rw [h1]
  cases l with
  | nil => simp [rcells]
  | cons y t =>
    have hy := h.one y (by simp)
    have h2 := h.two 0 (by simp)
    obtain ⟨a, k⟩ := y
    cases a with
    | nil => exact absurd rfl hy
    | cons r a =>
      have hk : (k == x.2) = false := beq_eq_false_iff_ne.mpr (by simpa using h2)
      simp [rcells, List.takeWhile, hk]
theorem few_uniq : ∀ (l l' : List (List Int × Int)), Few l → Few l' → rcells l = rcells l' → l = l'
  | [], [], _, _, _ => rfl
  | [], y :: t, _, h', e => by
    have h1 := List.length_pos_iff.2 (h'.one y (by simp))
    rw [rcells_cons] at e
    have e' := congrArg List.length e
    rw [List.length_append, List.length_map] at e'
    simp only [rcells, List.flatMap_nil, List.length_nil] at e'
    omega
  | x :: t, [], h, _, e => by
    have h1 := List.length_pos_iff.2 (h.one x (by simp))
    rw [rcells_cons] at e
    have e' := congrArg List.length e
    rw [List.length_append, List.length_map] at e'
    simp only [rcells, List.flatMap_nil, List.length_nil] at e'
    omega
  | x :: t, y :: s, h, h', e => by
    have hx := h.one x (by simp)
    have hy := h'.one y (by simp)
    have hk : x.2 = y.2 := by
      obtain ⟨a, k⟩ := x
      obtain ⟨b, j⟩ := y
      cases a with
      | nil => exact absurd rfl hx
      | cons r a =>
        cases b with
        | nil => exact absurd rfl hy
        | cons q b =>
          rw [rcells_cons, rcells_cons] at e
          simp only [List.map_cons, List.cons_append] at e
          injection e with e _
          injection e
    have h1 := few_head h
    have h2 := few_head h'
    rw [e, hk, h2, ← hk] at h1
    have h3 : y.1 = x.1 := by
      have := congrArg (List.map Prod.fst) h1
      simpa [List.map_map, Function.comp_def] using this
    have hxy : x = y := Prod.ext h3.symm hk
    subst hxy
    rw [rcells_cons, rcells_cons, List.append_cancel_left_eq] at e
    rw [few_uniq t s h.tail h'.tail e]
def allR (o : List (List Int × Int)) (acc : List Int) (h : Int) : List (List Int × Int) := if acc = [] then o else o ++ [(acc, h)]
theorem allR_nil (o : List (List Int × Int)) (h : Int) : allR o [] h = o := rfl
structure RunsQ (C : List (Int × Int)) (q : Nat) (o : List (List Int × Int)) (acc : List Int) (h : Int) : Prop where
  few : Few (allR o acc h)
  cells : rcells (allR o acc h) = C.take q
  fresh : acc = [] → o = []
theorem RunsQ.zero (C : List (Int × Int)) : RunsQ C 0 [] [] 0 := ⟨Few.nil, rfl, fun _ => rfl⟩
theorem RunsQ.same {C : List (Int × Int)} {q : Nat} {o : List (List Int × Int)} {acc rs : List Int} {h : Int} (H : RunsQ C q o acc h) (hr : rs ≠ []) (hc : C.take (q + rs.length) = C.take q ++ rs.map (fun c => (c, h))) : RunsQ C (q + rs.length) o (acc ++ rs) h := by
  have hne : acc ++ rs ≠ [] := fun e => hr (List.append_eq_nil_iff.1 e).2
  by_cases c : acc = []
  · subst c
    have := H.fresh rfl
    subst this
    have h0 := H.cells
    refine ⟨?_, ?_, fun e => absurd e hne⟩
    · simp only [allR, List.nil_append, if_neg hr]; exact Few.single hr
    · rw [hc, ← h0]; simp [allR, rcells, hr]
  · have h1 := H.few
    have h2 := H.cells
    rw [allR, if_neg c] at h1 h2
    refine ⟨?_, ?_, fun e => absurd e hne⟩
    · rw [allR, if_neg hne]; exact h1.grow rs
    · rw [hc, ← h2, allR, if_neg hne]; simp [rcells]
theorem RunsQ.other {C : List (Int × Int)} {q : Nat} {o : List (List Int × Int)} {acc rs : List Int} {h h' : Int} (H : RunsQ C q o acc h) (hr : rs ≠ []) (hne : h' ≠ h) (hc : C.take (q + rs.length) = C.take q ++ rs.map (fun c => (c, h'))) : RunsQ C (q + rs.length) (allR o acc h) rs h' := by
  refine ⟨?_, ?_, fun e => absurd e hr⟩
  · rw [allR, if_neg hr]
    by_cases c : acc = []
    · subst c
      have := H.fresh rfl
      subst this
      exact Few.single hr
    · have h1 := H.few
      rw [allR, if_neg c] at h1 ⊢
      exact h1.snoc hr hne
  · rw [allR, if_neg hr, hc, ← H.cells]; simp [rcells]
theorem RunsQ.hid {C : List (Int × Int)} {q : Nat} {o : List (List Int × Int)} {acc : List Int} {h : Int} (H : RunsQ C q o acc h) : (allR o acc h).length ≤ q := by
  have h1 : ∀ (l : List (List Int × Int)), (∀ x ∈ l, x.1 ≠ []) → l.length ≤ (rcells l).length := by
    intro l
    induction l with
    | nil => intro _; simp
    | cons x t ih =>
      intro hx
      have := ih (fun y hy => hx y (List.mem_cons_of_mem _ hy))
      have h0 := List.length_pos_iff.2 (hx x (by simp))
      rw [rcells_cons, List.length_append, List.length_map, List.length_cons]
      omega
  have := h1 _ H.few.one
  rw [H.cells, List.length_take] at this
  omega
theorem RunsQ.acc {C : List (Int × Int)} {q : Nat} {o : List (List Int × Int)} {acc : List Int} {h : Int} (H : RunsQ C q o acc h) : acc.length ≤ q := by
  by_cases c : acc = []
  · subst c; simp
  · have := congrArg List.length H.cells
    rw [allR, if_neg c, List.length_take] at this
    simp [rcells] at this
    omega
end Go.Proofs.YteeigokkafcaaaaDoorRope
end
section
namespace Go.Proofs.YteeigokkafcaaaaDoorRope
open Go.RowKit Go.Proofs.YteeigokkafcaaaaDoorW.PrintWords Go.Proofs.YteeigokkafcaaaaDoorW.PrintMore Go.Proofs.YteeigokkafcaaaaDoor.Pr
set_option linter.unusedSimpArgs false
set_option linter.unusedVariables false
theorem Bld.row {B b : Nat} {acc : List Int} {W W' : World} (h : Bld B b acc W) {row : Option Nat} (hg : W.grownBy W' row) (hr : ∀ k, row = some k → ∃ c t, W.heap[k]? = some (Obj.cells c t (0, 0)) ∧ t ≠ 118 ∧ t ≠ 5) : Bld B b acc W' := by
  refine h.imp ?_ ?_ <;>
    · rintro ⟨hB, v', hv, hown, hne⟩
      refine ⟨hB, v', (hg.block b (new_lt hv) (fun e => ?_)).trans hv, hown.kept hg ?_, hne⟩
      · obtain ⟨c, t, hc, h1, _⟩ := hr b e.symm
        rw [hv] at hc
        injection hc with hc
        injection hc with _ hc _
        exact h1 hc.symm
      · rcases hvo : v'.ownBlock with _ | k
        · exact .inl rfl
        · refine .inr (fun e => ?_)
          obtain ⟨c, t, hc, _, h2⟩ := hr k e.symm
          obtain ⟨c', fz, hc'⟩ := Lib.ownsRowF_kind hown k hvo
          rw [hc] at hc'
          injection hc' with hc'
          injection hc' with _ hc' _
          exact h2 hc'
set_option maxRecDepth 100000 in
set_option maxHeartbeats 4000000 in
theorem reset_calls {B b : Nat} {acc : List Int} {W : World} (h : Bld B b acc W) : Calls Tryd.prog 64 #[.pointer (some ⟨b, 0, none⟩)] W fun e w' => e = .returned (.tuple #[]) ∧ Bld B b [] w' ∧ KpB B b W w' := by
  have hB := h.at.1
  have h' : ∃ p v, W.heap[b]? = some (.cells #[p, v] 118 (0, 0)) := by
    rcases h with ⟨_, v, hv, _⟩ | ⟨_, v, hv, _⟩ <;> exact ⟨_, v, hv⟩
  obtain ⟨p, v, hv⟩ := h'
  have y0 : W.cell? ⟨b, 0, none⟩ = some p := by simp [World.cell?, hv]
  have f0 : W.frozen? ⟨b, 0, none⟩ = false := by simp [World.frozen?, hv]
  have hv1 : (W.setCell ⟨b, 0, none⟩ (.pointer none)).heap[b]? = some (.cells #[.pointer none, v] 118 (0, 0)) := by simp [World.setCell, Array.getElem?_modify, hv]
  have y1 : (W.setCell ⟨b, 0, none⟩ (.pointer none)).cell? ⟨b, 1, none⟩ = some v := by simp [World.cell?, hv1]
  have f1 : (W.setCell ⟨b, 0, none⟩ (.pointer none)).frozen? ⟨b, 1, none⟩ = false := by simp [World.frozen?, hv1]
  have hv2 : ((W.setCell ⟨b, 0, none⟩ (.pointer none)).setCell ⟨b, 1, none⟩ (.slice none 0 0)).heap[b]? = some (.cells #[.pointer none, .slice none 0 0] 118 (0, 0)) := by
    simp [World.setCell, Array.getElem?_modify, hv]
  go_enter Tryd.func64, Tryd.ntmps64
  go_wp2
  go_end0
  refine ⟨rfl, .inl ⟨hB, _, hv2, ⟨by simp [utf, Lib.byteCells], .inl ⟨rfl, by simp [utf, Lib.byteCells]⟩⟩, by simp [Value.ownBlock]⟩, ⟨?_, ?_⟩⟩
  · exact ((Below.refl B W).setCell (p := ⟨b, 0, none⟩) hB _).setCell (p := ⟨b, 1, none⟩) hB _
  · exact Lib.OthersKept.setCell (Lib.OthersKept.setCell (Lib.OthersKept.refl 5 (some b) W) ⟨b, 0, none⟩ rfl _) ⟨b, 1, none⟩ rfl _
structure RunsS (B OUT b HID END : Nat) (w : World) (o : List (List Int × Int)) (acc : List Int) (hid : Int) (W : World) : Prop where
  out : ∃ v, W.heap[OUT]? = some (.cells #[v] 23 (0, 0)) ∧ Kd.R k58 58 W B (fun k => B ≤ k) v (sRuns o)
  bld : Bld B b acc W
  hc : W.heap[HID]? = some (.cells #[.int .i64 hid] 3 (0, 0))
  ec : W.heap[END]? = some (.cells #[.func (.func 61) #[] #[.pointer (some ⟨b, 0, none⟩), .pointer (some ⟨OUT, 0, none⟩), .pointer (some ⟨HID, 0, none⟩)]] 1 (0, 0))
  bel : Below B w W
  lo : B ≤ OUT
  lh : B ≤ HID
section
variable {B OUT b HID END : Nat} {w W W' : World} {o : List (List Int × Int)} {acc acc' : List Int} {hid : Int}
theorem RunsS.below (h : RunsS B OUT b HID END w o acc hid W) (hB : B ≤ W.heap.size) (hb : Below W.heap.size W W') : RunsS B OUT b HID END w o acc hid W' := by
  obtain ⟨v, hv, hR⟩ := h.out
  exact ⟨⟨v, (hb.block _ (new_lt hv)).trans hv, Kd.R_below hR hb⟩, h.bld.below hb, (hb.block _ (new_lt h.hc)).trans h.hc, (hb.block _ (new_lt h.ec)).trans h.ec, h.bel.trans (hb.mono hB), h.lo, h.lh⟩
theorem R58_kpb {ok : Nat → Prop} {base : Nat} {v : Value} (h : Kd.R k58 58 W base ok v (sRuns o)) (hk : KpB B b W W') (hb : ∃ c, W.heap[b]? = some (Obj.cells c 118 (0, 0))) : Kd.R k58 58 W' base ok v (sRuns o) := by
  refine Kd.R_mono (Kd.R_step (Kd.R_bound h) (fun k hk' hl => ?_)) (fun k hk => hk.1)
  obtain ⟨_, _, _, q, hq, cells, hc⟩ := hk'
  obtain rfl : q = 58 := by simpa using (show q ∈ [58] from hq)
  obtain ⟨c0, hb⟩ := hb
  rw [hc]
  exact hk.cells hc (by decide) (ty_ne hc hb (by decide))
theorem RunsS.kpb (h : RunsS B OUT b HID END w o acc hid W) (hk : KpB B b W W') (hb : Bld B b acc' W') : RunsS B OUT b HID END w o acc' hid W' := by
  obtain ⟨_, c0, hc0⟩ := h.bld.at
  obtain ⟨v, hv, hR⟩ := h.out
  exact ⟨⟨v, hk.cells hv (by decide) (ty_ne hv hc0 (by decide)), R58_kpb hR hk ⟨c0, hc0⟩⟩, hb, hk.cells h.hc (by decide) (ty_ne h.hc hc0 (by decide)), hk.cells h.ec (by decide) (ty_ne h.ec hc0 (by decide)), h.bel.trans hk.bl, h.lo, h.lh⟩
end
theorem R58_ne {ok : Nat → Prop} {W : World} {o : List (List Int × Int)} {base : Nat} {v : Value} (h : Kd.R k58 58 W base ok v (sRuns o)) {k : Nat} {c : Array Value} {t : Nat} (hk : W.heap[k]? = some (Obj.cells c t (0, 0))) (ht : t ≠ 58) : some k ≠ v.ownBlock := by
  intro e
  obtain ⟨cells, hc⟩ := Kd.N_typed (Kd.R_N h) k e.symm
  rw [hk] at hc
  injection hc with hc
  injection hc with _ hc _
  exact ht hc
theorem R58_typed {ok : Nat → Prop} {W : World} {o : List (List Int × Int)} {base : Nat} {v : Value} (h : Kd.R k58 58 W base ok v (sRuns o)) : ∀ k, v.ownBlock = some k → ∃ c t, W.heap[k]? = some (Obj.cells c t (0, 0)) ∧ t = 58 := fun k e => by
  obtain ⟨cells, hc⟩ := Kd.N_typed (Kd.R_N h) k e
  exact ⟨cells, 58, hc, rfl⟩
theorem RunsS.push {B OUT b HID END : Nat} {w W W4 : World} {o o' : List (List Int × Int)} {acc : List Int} {hid : Int} {v v4 : Value} (S : RunsS B OUT b HID END w o acc hid W) (hv : W.heap[OUT]? = some (.cells #[v] 23 (0, 0))) (hR : Kd.R k58 58 W B (fun k => B ≤ k) v (sRuns o)) (hR4 : Kd.R k58 58 W4 B (fun k => B ≤ k) v4 (sRuns o')) (hB : B ≤ W.heap.size) (hg : W.grownBy W4 v.ownBlock) :
    RunsS B OUT b HID END w o' acc hid (W4.setCell ⟨OUT, 0, none⟩ v4) ∧ KpW B W (W4.setCell ⟨OUT, 0, none⟩ v4) := by
  have hv4 := (hg.block _ (new_lt hv) (R58_ne hR hv (by decide))).trans hv
  have hB4 : Below B W W4 := ⟨hg.os, hg.tape, hg.output, hg.size, fun k hk => hg.block k (Nat.lt_of_lt_of_le hk hB) (fun e => by have h1 : B ≤ k := hR.1 k e.symm; omega)⟩
  have keep : ∀ (k : Nat) (c : Array Value) (t : Nat), W.heap[k]? = some (Obj.cells c t (0, 0)) → t ≠ 58 → t ≠ 23 → (W4.setCell ⟨OUT, 0, none⟩ v4).heap[k]? = some (Obj.cells c t (0, 0)) := by
    intro k c t hk h1 h2
    have h4 := (hg.block _ (new_lt hk) (R58_ne hR hk h1)).trans hk
    exact set_other h4 (ty_ne h4 hv4 h2)
  have hgs : W4.grownBy (W4.setCell ⟨OUT, 0, none⟩ v4) (some OUT) := ⟨rfl, rfl, rfl, by simp [World.setCell], fun i hi hne => Below.heap_setCell W4 ⟨OUT, 0, none⟩ v4 i (fun e => hne (by rw [show i = OUT from e]))⟩
  have hbl : Bld B b acc (W4.setCell ⟨OUT, 0, none⟩ v4) := by
    refine (S.bld.row hg (fun k e => ?_)).row hgs (fun k e => ?_)
    · obtain ⟨c, t, h1, h2⟩ := R58_typed hR k e
      exact ⟨c, t, h1, by rw [h2]; decide, by rw [h2]; decide⟩
    · injection e with e
      subst e
      exact ⟨_, 23, hv4, by decide, by decide⟩
  have hb' : Below B W (W4.setCell ⟨OUT, 0, none⟩ v4) := hB4.setCell (p := ⟨OUT, 0, none⟩) S.lo _
  refine ⟨⟨⟨v4, set1k hv4, ?_⟩, hbl, keep _ _ _ S.hc (by decide) (by decide), keep _ _ _ S.ec (by decide) (by decide), S.bel.trans hb', S.lo, S.lh⟩, ⟨hb', fun k c ty hty hk => keep k c ty hk (by rcases hty with rfl | rfl <;> decide) (by rcases hty with rfl | rfl <;> decide)⟩⟩
  refine Kd.R_mono (Kd.R_step (Kd.R_bound hR4) (fun k hk' hl => ?_)) (fun k hk => hk.1)
  obtain ⟨_, _, _, q, hq, cells, hc⟩ := hk'
  obtain rfl : q = 58 := by simpa using (show q ∈ [58] from hq)
  rw [hc]
  exact set_other hc (ty_ne hc hv4 (by decide))
theorem byteCells_utf_nil : (Lib.byteCells (utf [])).length = 0 := rfl
theorem byteCells_utf_pos {acc : List Int} (h : acc ≠ []) : 0 < (Lib.byteCells (utf acc)).length := by
  rw [Lib.byteCells_length]
  have := (utf_len acc).1
  have := List.length_pos_iff.2 h
  omega
set_option maxRecDepth 100000 in
set_option maxHeartbeats 16000000 in
theorem end_calls {B OUT b HID END : Nat} {w W : World} {o : List (List Int × Int)} {acc : List Int} {hid : Int} (S : RunsS B OUT b HID END w o acc hid W) (hB : B ≤ W.heap.size) (ho : o.length ≤ 1048576) (hacc : acc.length ≤ 1048576) :
    Calls Tryd.prog 61 #[.pointer (some ⟨b, 0, none⟩), .pointer (some ⟨OUT, 0, none⟩), .pointer (some ⟨HID, 0, none⟩)] W fun e w' => e = .returned (.tuple #[]) ∧ RunsS B OUT b HID END w (allR o acc hid) [] hid w' ∧ KpW B W w' := by
  obtain ⟨_, c0, hc0⟩ := S.bld.at
  by_cases hz : acc = []
  · subst hz
    rw [allR_nil]
    have hl := Tryd.Builder_Len_f B b _ W S.bld
    rw [byteCells_utf_nil] at hl
    go_enter Tryd.func61, Tryd.ntmps61
    go_wp2_with (first
      | (go_at_call 62; refine hl.mono ?_; rintro e w1 ⟨rfl, rfl⟩)
      | (go_at_call 64; refine (reset_calls S.bld).mono ?_; rintro e w2 ⟨rfl, hb2, k2⟩))
    go_end0
    exact ⟨rfl, S.kpb k2 hb2, k2.kpw hc0⟩
  · have hl := Tryd.Builder_Len_f B b _ W S.bld
    obtain ⟨n, hn⟩ : ∃ n, n = (Lib.byteCells (utf acc)).length := ⟨_, rfl⟩
    have hn0 := byteCells_utf_pos hz
    rw [← hn] at hl hn0
    have dn : decide (0 < n) = true := decide_eq_true hn0
    have hall : allR o acc hid = o ++ [(acc, hid)] := by rw [allR, if_neg hz]
    rw [hall]
    obtain ⟨v, hv, hR⟩ := S.out
    obtain ⟨A, c, rfl⟩ := Kd.R_slice hR
    have hlt := new_lt hv
    have hstr : ∀ W', Below W.heap.size W W' → Calls Tryd.prog 63 #[.pointer (some ⟨b, 0, none⟩)] W' fun e w' => e = .returned (.string (txt acc)) ∧ (Bld B b acc w' ∧ KpB B b W w') := fun W' hW => by
      refine (Tryd.Builder_String_any_k B b (utf acc) W' (S.bld.below hW) (Nat.le_trans hB hW.size)).mono ?_
      rintro e w' ⟨he, h1, h2, h3⟩
      exact ⟨he, h1, (KpB.of hW hB).trans ⟨h2, h3⟩⟩
    have HL : Hid (((sRuns o).length + 1) * 24 ≤ 140737488355328) := Lib.hid (by rw [show (sRuns o).length = o.length by simp [sRuns]]; omega)
    obtain ⟨y0, g0⟩ := cells1k hv
    obtain ⟨y1, _⟩ := cells1k S.hc
    have HSTR := Lib.hid hstr
    clear hn hn0 hz hall ho hacc hstr
    go_enter Tryd.func61, Tryd.ntmps61
    go_wp2_with (go_at_call 62; refine hl.mono ?_; rintro e w1 ⟨rfl, rfl⟩)
    go_region_law (first
      | (go_simp; go_at_call 63; refine (HSTR.out _ (by (repeat first | exact Below.refl _ _ | refine Below.drew ?_))).mono ?_; rintro e w3 ⟨rfl, hb3, k3⟩; have hv3 := k3.cells hv (by decide) (ty_ne hv hc0 (by decide)); have hh3 := k3.cells S.hc (by decide) (ty_ne S.hc hc0 (by decide)); have hz0 := cells1k hv3; have hz1 := cells1k hh3; obtain ⟨z0, zf⟩ := hz0; obtain ⟨z1, _⟩ := hz1; have q0 := pw_cell_below (below_alloc (Below.refl w3.heap.size w3) (.cells #[.string (txt acc), .int .i64 hid] 58)) z0; have hR3 := R58_kpb hR k3 ⟨_, hc0⟩)
      | (refine Kd.R_append_step k58 (w0 := w1) B (by rfl) (.tmp 5) (.tmp 9) 23 58 (.agg #[.string ByteArray.empty, .int .i64 0]) 24 rfl Tryd.underlying23 info58' rfl (by decide) (by decide) (.slice A (sRuns o).length c) (sRuns o) ⟨txt acc, hid⟩ [.string (txt acc), .int .i64 hid] (fun k => B ≤ k) (fun _ => False) rfl rfl (k58_mkM _ _ _ ⟨_, _⟩) (fun _ h => h.elim) (fun k hk => Nat.le_trans (Nat.le_trans hB k3.bl.size) hk) hR3 k3.bl (Nat.le_trans hB k3.bl.size) HL.out ?_; intro v4 w4 hR4 hB4 hg4 hat4; have hsl := Kd.R_slice hR4; obtain ⟨A4, c4, hvv⟩ := hsl; subst hvv; have hv4 := (hg4.block _ (new_lt hv3) (R58_ne hR3 hv3 (by decide))).trans hv3; have hx := cells1k hv4; obtain ⟨x0, x1⟩ := hx))
    all_goals
      have hR5 : Kd.R k58 58 w4 B (fun k => B ≤ k) (.slice A4 (sRuns o ++ [(⟨txt acc, hid⟩ : S58)]).length c4) (sRuns (o ++ [(acc, hid)])) := by rw [sRuns_snoc]; exact hR4
      obtain ⟨S5, k5⟩ := (S.kpb k3 hb3).push hv3 hR3 hR5 (Nat.le_trans hB k3.bl.size) hg4
      rw [List.length_append] at S5 k5
      obtain ⟨W5, hW5⟩ : ∃ W5, w4.setCell ⟨OUT, 0, none⟩ (.slice A4 ((sRuns o).length + [(⟨txt acc, hid⟩ : S58)].length) c4) = W5 := ⟨_, rfl⟩
      rw [hW5] at S5 k5
      have hW5' : w4.setCell ⟨OUT, 0, none⟩ (.slice A4 ((sRuns o).length + 1) c4) = W5 := hW5
      rw [hW5']
      clear hW5 hW5' hR4 hR5 hat4 hg4 hv4 x0 x1 q0 z0 zf z1 hR3 hh3 hv3 y0 g0 y1 hv hR HSTR hl
      simp only [Exit.then]
      go_at_K
      go_wp2_with (go_at_call 64; refine (reset_calls S5.bld).mono ?_; rintro e w6 ⟨rfl, hb6, k6⟩)
      go_end0
      obtain ⟨_, c1, hc1⟩ := S5.bld.at
      exact ⟨rfl, S5.kpb k6 hb6, (k3.kpw hc0).trans (k5.trans (k6.kpw hc1))⟩
end Go.Proofs.YteeigokkafcaaaaDoorRope
end
section
namespace Go.Proofs.YteeigokkafcaaaaDoorRope
open Go.RowKit Go.Proofs.YteeigokkafcaaaaDoorW.PrintWords Go.Proofs.YteeigokkafcaaaaDoorW.PrintMore Go.Proofs.YteeigokkafcaaaaDoor.Pr
set_option linter.unusedSimpArgs false
set_option linter.unusedVariables false
theorem RunsS.sethid {B OUT b HID END : Nat} {w W : World} {o : List (List Int × Int)} {acc : List Int} {hid : Int} (S : RunsS B OUT b HID END w o acc hid W) (h : Int) : RunsS B OUT b HID END w o acc h (W.setCell ⟨HID, 0, none⟩ (.int .i64 h)) ∧ KpW B W (W.setCell ⟨HID, 0, none⟩ (.int .i64 h)) := by
  obtain ⟨v, hv, hR⟩ := S.out
  have hk := KpW.set (v := .int .i64 h) S.lh S.hc
  refine ⟨⟨⟨v, set_other hv (ty_ne hv S.hc (by decide)), ?_⟩, S.bld.set _ S.hc, set1k S.hc, set_other S.ec (ty_ne S.ec S.hc (by decide)), S.bel.trans hk.b, S.lo, S.lh⟩, hk⟩
  refine Kd.R_mono (Kd.R_step (Kd.R_bound hR) (fun k hk' hl => ?_)) (fun k hk => hk.1)
  obtain ⟨_, _, _, q, hq, cells, hc⟩ := hk'
  obtain rfl : q = 58 := by simpa using (show q ∈ [58] from hq)
  rw [hc]
  exact set_other hc (ty_ne hc S.hc (by decide))
set_option maxRecDepth 100000 in
set_option maxHeartbeats 16000000 in
theorem runs2_same {B OUT b HID END : Nat} {w W : World} {o : List (List Int × Int)} {acc : List Int} {h : Int} (S : RunsS B OUT b HID END w o acc h W) (hB : B ≤ W.heap.size) (at_ : Int) {rs : List Int} {A : Option Addr} {c : Nat} (hr : RunesAt W A rs) (hA : ∀ ad, A = some ad → ad.block < B) (hrn : ∀ r ∈ rs, Rn r) (hal : acc.length + rs.length ≤ 1048576) :
    Calls Tryd.prog 66 #[.int .i64 at_, .agg #[.slice A rs.length c, .int .i64 h], .pointer (some ⟨HID, 0, none⟩), .pointer (some ⟨END, 0, none⟩), .pointer (some ⟨b, 0, none⟩)] W fun e w' => e = .returned (.bool true) ∧ RunsS B OUT b HID END w o (acc ++ rs) h w' ∧ KpW B W w' := by
  have HRN := Lib.hid hrn
  have HAL := Lib.hid hal
  have bl : (rs.length : Int) ≤ 1048576 := by omega
  obtain ⟨W1, hW1⟩ : ∃ W1, W.alloc (.cells #[.slice A rs.length c, .int .i64 h] 113) = W1 := ⟨_, rfl⟩
  have hb1 : Below W.heap.size W W1 := by rw [← hW1]; exact below_alloc (Below.refl _ W) _
  have z0 : W1.cell? ⟨W.heap.size, 0, none⟩ = some (.slice A rs.length c) := by rw [← hW1]; simp
  have z1 : W1.cell? ⟨W.heap.size, 1, none⟩ = some (.int .i64 h) := by rw [← hW1]; simp
  have S1 := S.below hB hb1
  have k1 := KpW.of hb1 hB
  have y1 := (cells1k S1.hc).1
  clear hrn hal
  go_enter Tryd.func66, Tryd.ntmps66
  go_wp2
  go_loopw [21] (fun i wr => ∃ k : Nat, k ≤ rs.length ∧ i = .int .i64 (k : Int) ∧ RunsS B OUT b HID END w o (acc ++ rs.take k) h wr ∧ KpW B W wr) (fun i _ => rs.length - (intOf i).toNat)
  case atStart => exact ⟨0, Nat.zero_le _, rfl, by simpa using S1, k1⟩
  case round =>
    obtain ⟨k, hkl, rfl, hI, hK⟩ := hrel
    by_cases hlt : k < rs.length
    · obtain ⟨ad, hAd, y0⟩ := Kd.at_int (hr.kept hA hK) (k : Int) (by omega) (by omega)
      subst hAd
      have e1 : rd rs (k : Int) = rs[k] := by
        show rs.getD (k : Int).toNat 0 = rs[k]
        rw [Int.toNat_natCast, List.getD_eq_getElem?_getD, List.getElem?_eq_getElem hlt]
        rfl
      rw [e1, Int.toNat_natCast] at y0
      have hR := HRN.out _ (List.getElem_mem hlt)
      have hbt := byte_take (acc := acc) hlt
      have hlen : (Lib.byteCells (utf (acc ++ rs.take k))).length + 4 ≤ 140737488355328 := by
        have := byte_len (acc ++ rs.take k)
        rw [List.length_append, List.length_take] at this
        have := HAL.out
        (try simp only [List.length_nil] at *)
        omega
      obtain ⟨r, hr'⟩ : ∃ r, r = rs[k] := ⟨_, rfl⟩
      rw [← hr'] at y0 hR hbt
      have HBT := Lib.hid hbt
      have hBw : B ≤ wr.heap.size := Nat.le_trans hB hK.b.size
      clear hbt hr' e1
      obtain ⟨r0, r1, r2⟩ := hR
      have r3 : -2147483648 ≤ r := by omega
      have r4 : r ≤ 2147483647 := by omega
      clear r0 r1 r2
      go_wp2_with (go_at_call 67; refine (Tryd.Builder_WriteRune_k B b _ r r3 r4 _ hI.bld hlen hBw).mono ?_; rintro e w2 ⟨rfl, h2, b2, k2⟩)
      go_roundw
      case rel =>
        obtain ⟨_, c9, hc9⟩ := hI.bld.at
        have h3 : Bld B b (acc ++ rs.take (k + 1)) w2 := by unfold Bld; rw [← HBT.out]; exact .inr h2
        exact ⟨k + 1, hlt, by go_num, hI.kpb ⟨b2, k2⟩ h3, hK.trans (KpB.kpw ⟨b2, k2⟩ hc9)⟩
      case measure => simp [intOf]; omega
    · obtain rfl : k = rs.length := by omega
      rw [List.take_length] at hI
      clear hlt hkl
      have d1 : decide (rs.length < rs.length) = false := decide_eq_false (Nat.lt_irrefl _)
      go_wp2
      go_ret
      exact ⟨rfl, hI, hK⟩
set_option maxRecDepth 100000 in
set_option maxHeartbeats 16000000 in
theorem runs2_other {B OUT b HID END : Nat} {w W : World} {o : List (List Int × Int)} {acc : List Int} {hid h : Int} (S : RunsS B OUT b HID END w o acc hid W) (hne : h ≠ hid) (hB : B ≤ W.heap.size) (at_ : Int) {rs : List Int} {A : Option Addr} {c : Nat} (hr : RunesAt W A rs) (hA : ∀ ad, A = some ad → ad.block < B) (hrn : ∀ r ∈ rs, Rn r) (ho : o.length ≤ 1048576) (hac : acc.length ≤ 1048576) (hal : rs.length ≤ 1048576) :
    Calls Tryd.prog 66 #[.int .i64 at_, .agg #[.slice A rs.length c, .int .i64 h], .pointer (some ⟨HID, 0, none⟩), .pointer (some ⟨END, 0, none⟩), .pointer (some ⟨b, 0, none⟩)] W fun e w' => e = .returned (.bool true) ∧ RunsS B OUT b HID END w (allR o acc hid) rs h w' ∧ KpW B W w' := by
  have HRN := Lib.hid hrn
  have HAL := Lib.hid hal
  have bl : (rs.length : Int) ≤ 1048576 := by omega
  have dn : (h == hid) = false := beq_eq_false_iff_ne.mpr hne
  obtain ⟨W1, hW1⟩ : ∃ W1, W.alloc (.cells #[.slice A rs.length c, .int .i64 h] 113) = W1 := ⟨_, rfl⟩
  have hb1 : Below W.heap.size W W1 := by rw [← hW1]; exact below_alloc (Below.refl _ W) _
  have hbx : W1.heap[W.heap.size]? = some (.cells #[.slice A rs.length c, .int .i64 h] 113 (0, 0)) := by rw [← hW1]; exact heap_new _ _
  have z0 : W1.cell? ⟨W.heap.size, 0, none⟩ = some (.slice A rs.length c) := by rw [← hW1]; simp
  have z1 : W1.cell? ⟨W.heap.size, 1, none⟩ = some (.int .i64 h) := by rw [← hW1]; simp
  have S1 := S.below hB hb1
  have hB1 := Nat.le_trans hB hb1.size
  have k1 := KpW.of hb1 hB
  have y1 := (cells1k S1.hc).1
  have y2 := (cells1k S1.ec).1
  have hend := end_calls S1 hB1 ho hac
  have HEND := Lib.hid hend
  clear hrn hal ho hac hend hne
  go_enter Tryd.func66, Tryd.ntmps66
  go_wp2_with (go_at_call 61; refine HEND.out.mono ?_; rintro e w3 ⟨rfl, S3, k3⟩; have hbx3 := k3.n _ _ _ (.inr rfl) hbx; have hz3 := cells2 hbx3; obtain ⟨u0, u1⟩ := hz3; have hy3 := cells1k S3.hc; obtain ⟨y3, f3⟩ := hy3; have h4 := S3.sethid h; obtain ⟨S4, k4⟩ := h4; have hbx4 := k4.n _ _ _ (.inr rfl) hbx3; have hz4 := cells2 hbx4; obtain ⟨t0, t1⟩ := hz4)
  have kA := k1.trans (k3.trans k4)
  go_loopw [21] (fun i wr => ∃ k : Nat, k ≤ rs.length ∧ i = .int .i64 (k : Int) ∧ RunsS B OUT b HID END w (allR o acc hid) (([] : List Int) ++ rs.take k) h wr ∧ KpW B W wr) (fun i _ => rs.length - (intOf i).toNat)
  case atStart => exact ⟨0, Nat.zero_le _, rfl, by simpa using S4, kA⟩
  case round =>
    obtain ⟨k, hkl, rfl, hI, hK⟩ := hrel
    by_cases hlt : k < rs.length
    · obtain ⟨ad, hAd, y0⟩ := Kd.at_int (hr.kept hA hK) (k : Int) (by omega) (by omega)
      subst hAd
      have e1 : rd rs (k : Int) = rs[k] := by
        show rs.getD (k : Int).toNat 0 = rs[k]
        rw [Int.toNat_natCast, List.getD_eq_getElem?_getD, List.getElem?_eq_getElem hlt]
        rfl
      rw [e1, Int.toNat_natCast] at y0
      have hR := HRN.out _ (List.getElem_mem hlt)
      have hbt := byte_take (acc := ([] : List Int)) hlt
      have hlen : (Lib.byteCells (utf (([] : List Int) ++ rs.take k))).length + 4 ≤ 140737488355328 := by
        have := byte_len (([] : List Int) ++ rs.take k)
        rw [List.length_append, List.length_take] at this
        have := HAL.out
        (try simp only [List.length_nil] at *)
        omega
      obtain ⟨r, hr'⟩ : ∃ r, r = rs[k] := ⟨_, rfl⟩
      rw [← hr'] at y0 hR hbt
      have HBT := Lib.hid hbt
      have hBw : B ≤ wr.heap.size := Nat.le_trans hB hK.b.size
      clear hbt hr' e1
      obtain ⟨r0, r1, r2⟩ := hR
      have r3 : -2147483648 ≤ r := by omega
      have r4 : r ≤ 2147483647 := by omega
      clear r0 r1 r2
      go_wp2_with (go_at_call 67; refine (Tryd.Builder_WriteRune_k B b _ r r3 r4 _ hI.bld hlen hBw).mono ?_; rintro e w2 ⟨rfl, h2, b2, k2⟩)
      go_roundw
      case rel =>
        obtain ⟨_, c9, hc9⟩ := hI.bld.at
        have h3 : Bld B b (([] : List Int) ++ rs.take (k + 1)) w2 := by unfold Bld; rw [← HBT.out]; exact .inr h2
        exact ⟨k + 1, hlt, by go_num, hI.kpb ⟨b2, k2⟩ h3, hK.trans (KpB.kpw ⟨b2, k2⟩ hc9)⟩
      case measure => simp [intOf]; omega
    · obtain rfl : k = rs.length := by omega
      rw [List.take_length] at hI
      clear hlt hkl
      have d1 : decide (rs.length < rs.length) = false := decide_eq_false (Nat.lt_irrefl _)
      go_wp2
      go_ret
      exact ⟨rfl, hI, hK⟩
end Go.Proofs.YteeigokkafcaaaaDoorRope
end
section
namespace Go.Proofs.YteeigokkafcaaaaDoorRope
open Go.RowKit Go.Proofs.YteeigokkafcaaaaDoorW.PrintWords Go.Proofs.YteeigokkafcaaaaDoorW.PrintMore Go.Proofs.YteeigokkafcaaaaDoor.Pr
set_option linter.unusedSimpArgs false
set_option linter.unusedVariables false
theorem run_store_fn {P : Program} {w : World} (a : Addr) (m : Mode) (f : Fn) {x1 : _} {x2 : _} : (store a (.func f x1 x2) m).run P w = stored P w a (.func f x1 x2) m := run_store P w a _ m rfl
attribute [local go_sem] run_store_fn
theorem At.take {C : List (Int × Int)} {q : Nat} {s : List (Int × Int)} (h : At C q s) : C.take (q + s.length) = C.take q ++ s := by
  obtain ⟨X, Y, rfl, rfl⟩ := h
  have e1 : List.take X.length (X ++ s ++ Y) = X := by rw [List.append_assoc, List.take_left]
  have e2 : List.take (X.length + s.length) (X ++ s ++ Y) = X ++ s := by
    rw [show X.length + s.length = (X ++ s).length by simp, List.take_left]
  rw [e1, e2]
def RunsJ (B OUT b HID END : Nat) (w : World) (C : List (Int × Int)) (q : Nat) (W : World) : Prop := ∃ o acc hid, RunsQ C q o acc hid ∧ q ≤ C.length ∧ RunsS B OUT b HID END w o acc hid W
theorem see66 {B OUT b HID END : Nat} {w : World} {C : List (Int × Int)} (hC : C.length ≤ 1048576) (hN : ∀ c ∈ C, Rn c.1) (at_ : Nat) (p : Pc) (W : World) (hj : RunsJ B OUT b HID END w C at_ W) (ha : At C at_ p.cells) (hr : RunesAt W p.A p.rs) (hA : ∀ ad, p.A = some ad → ad.block < B) (hne : p.rs ≠ []) (hB : B ≤ W.heap.size) :
    Calls Tryd.prog 66 #[.int .i64 (at_ : Int), .agg #[.slice p.A p.rs.length p.c, .int .i64 p.hid], .pointer (some ⟨HID, 0, none⟩), .pointer (some ⟨END, 0, none⟩), .pointer (some ⟨b, 0, none⟩)] W fun e w' => (e = .returned (.bool true) ∧ RunsJ B OUT b HID END w C (at_ + p.rs.length) w' ∧ KpW B W w') ∨ (e = .returned (.bool false) ∧ False) := by
  obtain ⟨o, acc, hid, hq, hqC, S⟩ := hj
  have hle := ha.le
  have htk := ha.take
  have hpl : p.cells.length = p.rs.length := by simp [Pc.cells]
  rw [hpl] at hle htk
  have hrn : ∀ r ∈ p.rs, Rn r := by
    intro r hr'
    have : (r, p.hid) ∈ C := by
      obtain ⟨X, Y, hXY, _⟩ := ha
      rw [hXY]
      simp only [List.mem_append]
      exact .inl (.inr (List.mem_map.2 ⟨r, hr', rfl⟩))
    exact hN _ this
  have h1 := hq.hid
  have h2 := hq.acc
  by_cases c : p.hid = hid
  · subst c
    refine (runs2_same S hB at_ hr hA hrn (by omega)).mono ?_
    rintro e w' ⟨he, S', k'⟩
    exact .inl ⟨he, ⟨_, _, _, hq.same hne htk, hle, S'⟩, k'⟩
  · have h3 : o.length ≤ (allR o acc hid).length := by
      unfold allR
      split <;> simp
    refine (runs2_other S c hB at_ hr hA hrn (by omega) (by omega) (by omega)).mono ?_
    rintro e w' ⟨he, S', k'⟩
    exact .inl ⟨he, ⟨_, _, _, hq.other hne c htk, hle, S'⟩, k'⟩
set_option maxRecDepth 100000 in
set_option maxHeartbeats 16000000 in
theorem runs_of {K0 : Nat → Prop} {W : World} {b0 : Nat} {t : Tree} (h : RopeAt K0 W b0 t) (hsz : t.cells.length ≤ 1048576) (hN : ∀ c ∈ t.cells, Rn c.1) :
    Calls Tryd.prog 23 #[.pointer (some ⟨b0, 0, none⟩)] W fun e w' => ∃ A c L, e = .returned (.slice A (sRuns L).length c) ∧ Kd.R k58 58 w' W.heap.size (fun k => W.heap.size ≤ k) (.slice A (sRuns L).length c) (sRuns L) ∧ Few L ∧ rcells L = t.cells ∧ Below W.heap.size W w' := by
  obtain ⟨p0, hv, hE, hn, hlt⟩ := h.blk
  have ht := hE.t _ List.mem_cons_self
  have ht2 := Rpo.of (ht.rep.bound ht.good)
  have ht3 : Rpo (fun k => k < W.heap.size) W t (.pointer p0) := ht2.mono (fun k hk => hk.2)
  have y00 : W.cell? ⟨b0, 0, none⟩ = some (.pointer p0) := by simp [World.cell?, hv]
  obtain ⟨fv, hfv⟩ : ∃ fv : Value, fv = .func (.func 61) #[] #[.pointer (some ⟨W.heap.size + 1, 0, none⟩), .pointer (some ⟨W.heap.size, 0, none⟩), .pointer (some ⟨W.heap.size + 1 + 1, 0, none⟩)] := ⟨_, rfl⟩
  obtain ⟨W5, hW5⟩ : ∃ W5, ((((W.alloc (.cells #[.slice none 0 0] 23)).alloc (.cells #[.pointer none, .slice none 0 0] 118)).alloc (.cells #[.int .i64 0] 3)).alloc (.cells #[.func (.func 61) #[] #[.pointer (some ⟨W.heap.size + 1, 0, none⟩), .pointer (some ⟨W.heap.size, 0, none⟩), .pointer (some ⟨W.heap.size + 1 + 1, 0, none⟩)]] 1)) = W5 := ⟨_, rfl⟩
  have hb5 : Below W.heap.size W W5 := by rw [← hW5]; exact below_alloc (below_alloc (below_alloc (below_alloc (Below.refl _ W) _) _) _) _
  have o1 : W5.heap[W.heap.size]? = some (Obj.cells #[.slice none 0 0] 23 (0, 0)) := by
    rw [← hW5]; exact ((below_alloc (below_alloc (below_alloc (Below.refl _ _) _) _) _).block _ (by simp)).trans (heap_new W _)
  have o2 : W5.heap[W.heap.size + 1]? = some (Obj.cells #[.pointer none, .slice none 0 0] 118 (0, 0)) := by
    rw [← hW5]
    have := heap_new (W.alloc (.cells #[.slice none 0 0] 23)) (.cells #[.pointer none, .slice none 0 0] 118)
    rw [World.size_alloc] at this
    exact ((below_alloc (below_alloc (Below.refl _ _) _) _).block _ (by simp)).trans this
  have o3 : W5.heap[W.heap.size + 1 + 1]? = some (Obj.cells #[.int .i64 0] 3 (0, 0)) := by
    rw [← hW5]
    have := heap_new ((W.alloc (.cells #[.slice none 0 0] 23)).alloc (.cells #[.pointer none, .slice none 0 0] 118)) (.cells #[.int .i64 0] 3)
    rw [World.size_alloc, World.size_alloc] at this
    exact ((below_alloc (Below.refl _ _) _).block _ (by simp)).trans this
  have o4 : W5.heap[W.heap.size + 1 + 1 + 1]? = some (Obj.cells #[.func (.func 61) #[] #[.pointer (some ⟨W.heap.size + 1, 0, none⟩), .pointer (some ⟨W.heap.size, 0, none⟩), .pointer (some ⟨W.heap.size + 1 + 1, 0, none⟩)]] 1 (0, 0)) := by
    rw [← hW5]
    have := heap_new (((W.alloc (.cells #[.slice none 0 0] 23)).alloc (.cells #[.pointer none, .slice none 0 0] 118)).alloc (.cells #[.int .i64 0] 3)) (.cells #[.func (.func 61) #[] #[.pointer (some ⟨W.heap.size + 1, 0, none⟩), .pointer (some ⟨W.heap.size, 0, none⟩), .pointer (some ⟨W.heap.size + 1 + 1, 0, none⟩)]] 1)
    rwa [World.size_alloc, World.size_alloc, World.size_alloc] at this
  have S5 : RunsS W.heap.size W.heap.size (W.heap.size + 1) (W.heap.size + 1 + 1) (W.heap.size + 1 + 1 + 1) W [] [] 0 W5 :=
    ⟨⟨_, o1, Kd.R_nil _ _ _ _ _⟩, .inl ⟨Nat.le_succ _, _, o2, ⟨rfl, .inl ⟨rfl, rfl⟩⟩, by simp [Value.ownBlock]⟩, o3, o4, hb5, Nat.le_refl _, by omega⟩
  have y5 := pw_cell_below hb5 y00
  have hwk := walk_66 (B := W.heap.size) (C := t.cells) (lo := 0) (J := RunsJ W.heap.size W.heap.size (W.heap.size + 1) (W.heap.size + 1 + 1) (W.heap.size + 1 + 1 + 1) W t.cells) (Jx := fun _ => False) (k0 := .pointer (some ⟨W.heap.size + 1 + 1, 0, none⟩)) (k1 := .pointer (some ⟨W.heap.size + 1 + 1 + 1, 0, none⟩)) (k2 := .pointer (some ⟨W.heap.size + 1, 0, none⟩)) hsz (Nat.zero_le _)
    (fun at_ p W' hj _ ha hr hA _ hne _ hB' => see66 hsz hN at_ p W' hj ha hr hA hne hB')
    (fun at_ n W' hj hn => by rw [show at_ + n = at_ by omega]; exact hj)
    (fun at_ W' W'' hj hb' => by obtain ⟨o, acc, hid, hq, hqC, S⟩ := hj; exact ⟨o, acc, hid, hq, hqC, S.below (Nat.le_trans S.bel.size (Nat.le_refl _)) hb'⟩)
    t.size t (.pointer p0) W5 0 (Nat.le_refl _) (ht3.below hb5) ht.good hb5.size (At.all _) ⟨[], [], 0, RunsQ.zero _, Nat.zero_le _, S5⟩
  rw [Nat.zero_add] at hwk
  replace hwk := hwk.mono (fun e w' h => h.elim id (fun h => h.2.elim))
  have HWK := Lib.hid hwk
  have HSZ := Lib.hid hsz
  clear hwk o1 o2 o3 o4 S5 hfv fv hsz
  go_enter Tryd.func23, Tryd.ntmps23
  go_wp2_with (first
    | (go_at_call 65; refine HWK.out.mono ?_; rintro e w6 ⟨rfl, hj6, k6⟩; obtain ⟨o, acc, hid, hq, _, S6⟩ := hj6; have y6 := (cells1k S6.ec).1; have hB6 := S6.bel.size; have h1 := hq.hid; have h2 := hq.acc; have h3 : o.length ≤ (allR o acc hid).length := (by unfold allR; split <;> simp); have hend := end_calls S6 hB6 (by have := HSZ.out; omega) (by have := HSZ.out; omega); have HEND := Lib.hid hend; clear h1 h2 h3 hend)
    | (go_at_call 61; refine HEND.out.mono ?_; rintro e w7 ⟨rfl, S7, k7⟩; have ho7 := S7.out; obtain ⟨v7, hv7, hR7⟩ := ho7; have hs7 := Kd.R_slice hR7; obtain ⟨A7, c7, hvv⟩ := hs7; subst hvv; have y7 := (cells1k hv7).1))
  go_ret
  refine ⟨A7, c7, allR o acc hid, rfl, hR7, hq.few, ?_, S7.bel⟩
  rw [hq.cells, List.take_length]
theorem rope_runs {W : World} {b : Nat} {cs : List (Int × Int)} (h : RopeHas W b cs) (hsz : cs.length ≤ 1048576) (hN : ∀ c ∈ cs, Rn c.1) : Calls Tryd.prog 23 #[.pointer (some ⟨b, 0, none⟩)] W fun e w' => ∃ A c L, e = .returned (.slice A L.length c) ∧ Kd.R k58 58 w' W.heap.size (fun k => W.heap.size ≤ k) (.slice A L.length c) (sRuns L) ∧ Few L ∧ rcells L = cs ∧ Below W.heap.size W w' := by
  obtain ⟨K, t, h, rfl⟩ := h
  refine (runs_of h hsz hN).mono ?_
  rintro e w' ⟨A, c, L, he, hR, hf, hc, hb⟩
  rw [show (sRuns L).length = L.length by simp [sRuns]] at he hR
  exact ⟨A, c, L, he, hR, hf, hc, hb⟩
end Go.Proofs.YteeigokkafcaaaaDoorRope
end
section
namespace Go.Proofs.YteeigokkafcaaaaDoor.Pr
open Go.RowKit Go.Proofs.YteeigokkafcaaaaDoorW.PrintWords Go.Proofs.YteeigokkafcaaaaDoorW.PrintLast Go.Proofs.YteeigokkafcaaaaDoorW.PrintMore
attribute [local go_sem] max2_int min2_int max_two min_two max_three min_three max_four min_four
set_option linter.unusedVariables false
set_option linter.unusedSimpArgs false
def rope_sums_shown.f (a0_0 : Int) (a0_1 : Int) (a0_2 : Int) (a0_3 : Int) (a0_4 : Int) (a0_5 : Int) : Option (Int) := if a0_3 = 0 then (some a0_4) else (some 0)
set_option maxHeartbeats 8000000 in
set_option maxRecDepth 100000 in
theorem rope_sums_shown.calls (a0_0 : Int) (a0_1 : Int) (a0_2 : Int) (a0_3 : Int) (a0_4 : Int) (a0_5 : Int) (r : Int) (w : World) (h : rope_sums_shown.f a0_0 a0_1 a0_2 a0_3 a0_4 a0_5 = some r) :
  Calls Tryd.prog 59 #[.agg #[.int .i64 a0_0, .int .i64 a0_1, .int .i64 a0_2, .int .i64 a0_3, .int .i64 a0_4, .int .i64 a0_5]] w fun e w' => e = .returned (.int .i64 r) ∧ Below w.heap.size w w' := by
 have hu110 := Tryd.underlying110
 have HB := Aside0.mk (Below.refl w.heap.size w)
 have H : (if a0_3 = 0 then (some a0_4) else (some 0)) = some r := h
 clear h
 by_cases c2 : a0_3 = 0
 ·rw [if_pos c2] at H
  have c2b0 : (a0_3 == 0) = true := beq_iff_eq.mpr c2
  have c2b1 : (a0_3 != 0) = false := bne_eq_false_iff_eq.mpr c2
  clear c2
  obtain rfl := Option.some.inj H
  go_enter Tryd.func59, Tryd.ntmps59
  go_wp2_with (first | ((with_reducible refine gate_dst (N := 1) rfl ?_); refine box_event ?hg (N := 1) ?hd (cs := #[.int .i64 a0_0, .int .i64 a0_1, .int .i64 a0_2, .int .i64 a0_3, .int .i64 a0_4, .int .i64 a0_5]) (t := 110) ?hr ?_; (case hd => rfl); (case hg => rfl); (case hr => first | (go_simp; done) | (go_simp; rfl)); intro gb126 hg w3 hbox hb; have n0_ := Aside0.mk (below_step (by repeat (first | (with_reducible first | exact HB.out | apply below_alloc | apply pw_below_drewN | apply below_drew1) | exact HB.out)) hb); have n1_ := Aside0.mk (hbox); have n2_ := Aside0.mk ((by rw [hg]; exact (below_size (by repeat (first | (with_reducible first | exact HB.out | apply below_alloc | apply pw_below_drewN | apply below_drew1) | exact HB.out))) : w.heap.size ≤ gb126)); have n3_ := Aside0.mk ((by rw [hg]; exact (below_size (by repeat (first | (with_reducible first | exact HB.out | apply below_alloc | apply pw_below_drewN | apply below_drew1) | exact HB.out))) : w.heap.size ≤ gb126)); clear HB; have HB := n0_; have BK126 := n1_; have GW126 := n2_; have GE126 := n3_; clear n0_ n1_ n2_ n3_; clear hb hbox hg; have hcz4_0 : w3.cell? ⟨gb126, 0, none⟩ = some (.int .i64 a0_0) := (blk_cell BK126.out 0).trans rfl; have hcz4_1 : w3.cell? ⟨gb126, 1, none⟩ = some (.int .i64 a0_1) := (blk_cell BK126.out 1).trans rfl; have hcz4_2 : w3.cell? ⟨gb126, 2, none⟩ = some (.int .i64 a0_2) := (blk_cell BK126.out 2).trans rfl; have hcz4_3 : w3.cell? ⟨gb126, 3, none⟩ = some (.int .i64 a0_3) := (blk_cell BK126.out 3).trans rfl; have hcz4_4 : w3.cell? ⟨gb126, 4, none⟩ = some (.int .i64 a0_4) := (blk_cell BK126.out 4).trans rfl; have hcz4_5 : w3.cell? ⟨gb126, 5, none⟩ = some (.int .i64 a0_5) := (blk_cell BK126.out 5).trans rfl; have hfz4_0 := blk_frozen BK126.out 0; have hfz4_1 := blk_frozen BK126.out 1; have hfz4_2 := blk_frozen BK126.out 2; have hfz4_3 := blk_frozen BK126.out 3; have hfz4_4 := blk_frozen BK126.out 4; have hfz4_5 := blk_frozen BK126.out 5))
  go_ret
  exact ⟨by first | rfl | (simp [errW_none, errW_some] <;> rfl) | (simp [*, errW_none, errW_some] <;> rfl), by repeat (first | (with_reducible first | exact HB.out | apply below_alloc | apply pw_below_drewN | apply below_drew1 | refine below_set ?_ GE126.out) | exact HB.out)⟩
 ·rw [if_neg c2] at H
  have c2b0 : (a0_3 == 0) = false := beq_eq_false_iff_ne.mpr c2
  have c2b1 : (a0_3 != 0) = true := bne_iff_ne.mpr c2
  obtain rfl := Option.some.inj H
  go_enter Tryd.func59, Tryd.ntmps59
  go_wp2_with (first | ((with_reducible refine gate_dst (N := 1) rfl ?_); refine box_event ?hg (N := 1) ?hd (cs := #[.int .i64 a0_0, .int .i64 a0_1, .int .i64 a0_2, .int .i64 a0_3, .int .i64 a0_4, .int .i64 a0_5]) (t := 110) ?hr ?_; (case hd => rfl); (case hg => rfl); (case hr => first | (go_simp; done) | (go_simp; rfl)); intro gb126 hg w5 hbox hb; have n0_ := Aside0.mk (below_step (by repeat (first | (with_reducible first | exact HB.out | apply below_alloc | apply pw_below_drewN | apply below_drew1) | exact HB.out)) hb); have n1_ := Aside0.mk (hbox); have n2_ := Aside0.mk ((by rw [hg]; exact (below_size (by repeat (first | (with_reducible first | exact HB.out | apply below_alloc | apply pw_below_drewN | apply below_drew1) | exact HB.out))) : w.heap.size ≤ gb126)); have n3_ := Aside0.mk ((by rw [hg]; exact (below_size (by repeat (first | (with_reducible first | exact HB.out | apply below_alloc | apply pw_below_drewN | apply below_drew1) | exact HB.out))) : w.heap.size ≤ gb126)); clear HB; have HB := n0_; have BK126 := n1_; have GW126 := n2_; have GE126 := n3_; clear n0_ n1_ n2_ n3_; clear hb hbox hg; have hcz6_0 : w5.cell? ⟨gb126, 0, none⟩ = some (.int .i64 a0_0) := (blk_cell BK126.out 0).trans rfl; have hcz6_1 : w5.cell? ⟨gb126, 1, none⟩ = some (.int .i64 a0_1) := (blk_cell BK126.out 1).trans rfl; have hcz6_2 : w5.cell? ⟨gb126, 2, none⟩ = some (.int .i64 a0_2) := (blk_cell BK126.out 2).trans rfl; have hcz6_3 : w5.cell? ⟨gb126, 3, none⟩ = some (.int .i64 a0_3) := (blk_cell BK126.out 3).trans rfl; have hcz6_4 : w5.cell? ⟨gb126, 4, none⟩ = some (.int .i64 a0_4) := (blk_cell BK126.out 4).trans rfl; have hcz6_5 : w5.cell? ⟨gb126, 5, none⟩ = some (.int .i64 a0_5) := (blk_cell BK126.out 5).trans rfl; have hfz6_0 := blk_frozen BK126.out 0; have hfz6_1 := blk_frozen BK126.out 1; have hfz6_2 := blk_frozen BK126.out 2; have hfz6_3 := blk_frozen BK126.out 3; have hfz6_4 := blk_frozen BK126.out 4; have hfz6_5 := blk_frozen BK126.out 5))
  go_ret
  exact ⟨by first | rfl | (simp [errW_none, errW_some] <;> rfl) | (simp [*, errW_none, errW_some] <;> rfl), by repeat (first | (with_reducible first | exact HB.out | apply below_alloc | apply pw_below_drewN | apply below_drew1 | refine below_set ?_ GE126.out) | exact HB.out)⟩
def redraftlaw03_digits.l0 : Nat → Int → Int → Option (Int)
 | 0, _, _ => none
 | k + 1, x0, x3 => if x0 > 0 then (redraftlaw03_digits.l0 k (wrap64 (Int.tdiv x0 2)) (wrap64 (x3 + 1))) else (some x3)
def redraftlaw03_digits.f (k : Nat) (a0 : Int) : Option (Int) := redraftlaw03_digits.l0 k a0 0
theorem redraftlaw03_digits.mono_l : ∀ k, (∀ y0 y1, LeO (redraftlaw03_digits.l0 k y0 y1) (redraftlaw03_digits.l0 (k + 1) y0 y1))
 | 0 => fun _ _ r h => by simp [redraftlaw03_digits.l0] at h
 | k + 1 => by
  have ih0 := redraftlaw03_digits.mono_l k
  ·intro y0 y1
   unfold redraftlaw03_digits.l0
   repeat' first
   | (with_reducible exact ih0 _ _)
   | (with_reducible exact LeO.refl _)
   | (with_reducible exact LeO.none _)
   | (with_reducible refine LeO.ite ?_ ?_)
   | (with_reducible refine LeO.bind ?_ (fun _ => ?_))
   | exact ih0 _ _
   | exact LeO.none _
   | refine LeO.ite ?_ ?_
   | refine LeO.bind ?_ (fun _ => ?_)
theorem redraftlaw03_digits.mono : ∀ a0 k, LeO (redraftlaw03_digits.f k a0) (redraftlaw03_digits.f (k + 1) a0) := by
 intro a0 k
 have ih0 := redraftlaw03_digits.mono_l k
 unfold redraftlaw03_digits.f
 repeat' first
   | (with_reducible exact ih0 _ _)
   | (with_reducible exact LeO.refl _)
   | (with_reducible exact LeO.none _)
   | (with_reducible refine LeO.ite ?_ ?_)
   | (with_reducible refine LeO.bind ?_ (fun _ => ?_))
   | exact ih0 _ _
   | exact LeO.none _
   | refine LeO.ite ?_ ?_
   | refine LeO.bind ?_ (fun _ => ?_)
set_option maxHeartbeats 8000000 in
set_option maxRecDepth 100000 in
theorem redraftlaw03_digits.calls (k : Nat) (a0 : Int) (r : Int) (w : World) (h : redraftlaw03_digits.f k a0 = some r) :
  Calls Tryd.prog 25 #[.int .i64 a0] w fun e w' => e = .returned (.int .i64 r) ∧ Drawn0 w w' := by
 have H : (redraftlaw03_digits.l0 k a0 0) = some r := h
 clear h
 have H' := Aside0.mk H
 clear H
 go_enter Tryd.func25, Tryd.ntmps25
 go_wp2
 go_loopg [0, 3] k (fun kq v0 v3 w' => ∃ (x0_1 : Int) (x3_1 : Int), v0 = .int .i64 x0_1 ∧ v3 = .int .i64 x3_1 ∧ Aside0 (redraftlaw03_digits.l0 kq x0_1 x3_1 = some r) ∧ Aside0 (kq ≤ k) ∧ Drawn0 w w')
 case atStart => exact ⟨(a0), (0), (by first | rfl | (simp; done) | (simp [*]; done)), (by first | rfl | (simp; done) | (simp [*]; done)), H', ⟨Nat.le_refl _⟩, by repeat (first | exact Drawn0.refl _ | apply Drawn0.step)⟩
 case round =>
  clear H'
  obtain ⟨x0_1, x3_1, rfl, rfl, HA, HK1, ⟨m1, rfl⟩⟩ := hrel
  cases gk with
  | zero => exact absurd HA.out (by simp [redraftlaw03_digits.l0])
  | succ k1 =>
   have H := HA.out
   clear HA
   simp only [redraftlaw03_digits.l0] at H
   by_cases c2 : x0_1 > 0
   ·rw [if_pos c2] at H
    have c2b0 : decide (0 < x0_1) = true := decide_eq_true c2
    clear c2
    have H' := Aside0.mk H
    clear H
    go_wp2
    go_roundg k1
    case measure => have := HK1.out; omega
    case rel => exact ⟨(wrap64 (Int.tdiv x0_1 2)), (wrap64 (x3_1 + 1)), (by first | rfl | (simp; done) | (simp [*]; done)), (by first | rfl | (simp; done) | (simp [*]; done)), H', ⟨by have := HK1.out; omega⟩, by repeat (first | exact Drawn0.refl _ | apply Drawn0.step)⟩
   ·rw [if_neg c2] at H
    have c2b0 : decide (0 < x0_1) = false := decide_eq_false c2
    clear c2
    obtain rfl := Option.some.inj H
    go_wp2
    go_ret
    exact ⟨by first | rfl | (simp; done) | (simp [*]; done), by repeat (first | exact Drawn0.refl _ | apply Drawn0.step)⟩
end Go.Proofs.YteeigokkafcaaaaDoor.Pr
end
section
namespace Go.Proofs.YteeigokkafcaaaaDoorRope
open Go.RowKit Go.Proofs.YteeigokkafcaaaaDoorW.PrintWords Go.Proofs.YteeigokkafcaaaaDoorW.PrintMore Go.Proofs.YteeigokkafcaaaaDoor.Pr
set_option linter.unusedSimpArgs false
set_option linter.unusedVariables false
def BoxAt (W : World) (b : Nat) : Prop := ∃ p, W.heap[b]? = some (.cells #[.pointer p] 108 (0, 0))
theorem RopeHas.box {W : World} {b : Nat} {cs : List (Int × Int)} (h : RopeHas W b cs) : BoxAt W b := by
  obtain ⟨K, t, h, _⟩ := h
  obtain ⟨p, hv, _⟩ := h.blk
  exact ⟨p, hv⟩
end Go.Proofs.YteeigokkafcaaaaDoorRope
end
section
namespace Go.Proofs.YteeigokkafcaaaaDoorRope
open Go.RowKit Go.Proofs.YteeigokkafcaaaaDoorW.PrintWords Go.Proofs.YteeigokkafcaaaaDoorW.PrintMore Go.Proofs.YteeigokkafcaaaaDoor.Pr
set_option linter.unusedSimpArgs false
set_option linter.unusedVariables false
structure Sta (w W : World) (b : Nat) (A : Option Addr) (c : Nat) (cs cs' : List (Int × Int)) : Prop where
  gr : w.grownBy W (some b)
  bars : BarsAt W
  row : Row (fun k => k = b) W A c cs
  rope : RopeHas W b cs'
  nz : b ≠ 0
theorem grownBy_refl (W : World) (row : Option Nat) : W.grownBy W row := ⟨rfl, rfl, rfl, Nat.le_refl _, fun _ _ _ => rfl⟩
theorem grownBy_join {a w w' : World} {row : Option Nat} (h : a.grownBy w row) (k : w.grownBy w' row) : a.grownBy w' row :=
  ⟨k.os.trans h.os, k.tape.trans h.tape, k.output.trans h.output, Nat.le_trans h.size k.size, fun i hi hne => (k.block i (Nat.lt_of_lt_of_le hi h.size) hne).trans (h.block i hi hne)⟩
theorem grownBy_of_below {W W' : World} {row : Option Nat} (h : Below W.heap.size W W') : W.grownBy W' row := ⟨h.os, h.tape, h.output, h.size, fun k hk _ => h.block k hk⟩
section
variable {w W W' : World} {b : Nat} {A : Option Addr} {c : Nat} {cs cs' cs'' : List (Int × Int)}
theorem Sta.step (h : Sta w W b A c cs cs') (hb : Below W.heap.size W W') : Sta w W' b A c cs cs' :=
  ⟨grownBy_join h.gr (grownBy_of_below hb), h.bars.below hb, h.row.below hb, h.rope.below hb, h.nz⟩
theorem Sta.put (h : Sta w W b A c cs cs') (hg : W.grownBy W' (some b)) (hr : RopeHas W' b cs'') : Sta w W' b A c cs cs'' :=
  ⟨grownBy_join h.gr hg, h.bars.grown hg h.nz, h.row.grown hg rfl, hr, h.nz⟩
theorem Sta.row' {A' : Option Addr} {c' : Nat} (h : Sta w W b A c cs cs') (hb : Below W.heap.size W W') {ok : Nat → Prop} (hr : Kd.R k36 36 W' W.heap.size ok (.slice A' cs''.length c') (sCells cs'')) : Sta w W' b A' c' cs'' cs' ∧ Row (fun k => k < w.heap.size) W' A' c' cs'' := by
  have h' := h.step hb
  have hlt := h.rope.lt
  refine ⟨⟨h'.gr, h'.bars, ⟨W.heap.size, Kd.R_mono (Kd.R_bound hr) (fun k hk e => ?_)⟩, h'.rope, h'.nz⟩, ⟨W.heap.size, Kd.R_mono (Kd.R_bound hr) (fun k hk e => ?_)⟩⟩
  · have := hk.2.1
    omega
  · have := hk.2.1
    have := h.gr.size
    omega
end
noncomputable def choL (cs : List (Int × Int)) (a b : Int) (down : Bool) : List (Nat × Nat) := if h : cs.length ≤ 32768 then Classical.choose (Classical.choose_spec (chosen_is cs h a b down)) else []
theorem choL_is (cs : List (Int × Int)) (hb : cs.length ≤ 32768) (a b : Int) (down : Bool) : ∃ k, redraftlaw03_chosen.f k (sCells cs) a b down = some (sRng (choL cs a b down)) ∧ Norm (choL cs a b down) cs.length ∧ (down = true → ∀ r ∈ choL cs a b down, ∀ c ∈ (cs.take r.2).drop r.1, c.2 ≠ 0) := by
  refine ⟨Classical.choose (chosen_is cs hb a b down), ?_⟩
  rw [choL, dif_pos hb]
  exact Classical.choose_spec (Classical.choose_spec (chosen_is cs hb a b down))
noncomputable def actC (cs : List (Int × Int)) (kd ka kb kn : Int) : List (Int × Int) :=
  if kd = 0 then insC cs (ka % ((cs.length : Int) + 1)).toNat (wordsL ((kn % 48).toNat + 1) kb) (kb % 3)
  else if kd = 1 then bumpC cs (choL cs ka kb false) 1 else bumpC cs (choL cs ka kb true) (-1)
set_option maxRecDepth 100000 in
set_option maxHeartbeats 16000000 in
theorem actsD_put {w W : World} {b : Nat} {A : Option Addr} {c : Nat} {cs : List (Int × Int)} {H : Int} (S : Sta w W b A c cs cs) (hr : RowOk H cs) (hH : 2 ≤ H) (hl : cs.length ≤ 20000) (ka kb kn : Int) :
    Calls Tryd.prog 27 #[.pointer (some ⟨b, 0, none⟩), .slice A cs.length c, .agg #[.int .i64 0, .int .i64 ka, .int .i64 kb, .int .i64 kn]] W fun e w' => ∃ A' c', e = .returned (.tuple #[.slice A' (actC cs 0 ka kb kn).length c', .bool true]) ∧ Sta w w' b A' c' (actC cs 0 ka kb kn) (actC cs 0 ka kb kn) ∧ Row (fun k => k < w.heap.size) w' A' c' (actC cs 0 ka kb kn) ∧ RowOk (H + 1) (actC cs 0 ka kb kn) ∧ (actC cs 0 ka kb kn).length ≤ cs.length + 48 := by
  obtain ⟨N, hN⟩ : ∃ N, N = cs.length := ⟨_, rfl⟩
  have bN : (N : Int) ≤ 20000 := by omega
  have m1 := Int.emod_nonneg ka (show ((N : Int) + 1) ≠ 0 by omega)
  have m2 := Int.emod_lt_of_pos ka (show (0 : Int) < (N : Int) + 1 by omega)
  obtain ⟨at_, hat⟩ : ∃ at_ : Nat, ka % ((N : Int) + 1) = (at_ : Int) := ⟨(ka % ((N : Int) + 1)).toNat, by omega⟩
  have m3 := Int.emod_nonneg kn (show (48 : Int) ≠ 0 by decide)
  have m4 := Int.emod_lt_of_pos kn (show (0 : Int) < 48 by decide)
  obtain ⟨q, hq⟩ : ∃ q : Nat, kn % 48 = (q : Int) := ⟨(kn % 48).toNat, by omega⟩
  have m5 := Int.emod_nonneg kb (show (3 : Int) ≠ 0 by decide)
  have m6 := Int.emod_lt_of_pos kb (show (0 : Int) < 3 by decide)
  obtain ⟨hd, hhd⟩ : ∃ hd : Int, kb % 3 = hd := ⟨_, rfl⟩
  have hd0 : 0 ≤ hd ∧ hd ≤ 2 := by omega
  have hatN : at_ ≤ cs.length := by omega
  have hq48 : q < 48 := by omega
  clear m1 m2 m3 m4 m5 m6
  obtain ⟨s, hs⟩ : ∃ s, s = wordsL (q + 1) kb := ⟨_, rfl⟩
  have hsl : s.length = q + 1 := by rw [hs, wordsL_len]
  have hsL : Lets s := by rw [hs]; exact wordsL_lets _ _
  have hlen : (insC cs at_ s hd).length ≤ cs.length + 48 := by rw [insC_len]; omega
  rw [← hN] at hlen
  have hrow : RowOk (H + 1) (insC cs at_ s hd) := hr.ins hsL.rns (by omega)
  have bq : (q : Int) < 48 := by omega
  have R1 : ∀ W, Calls Tryd.prog 28 #[.int .i64 ka, .int .i64 ((N : Int) + 1)] W fun e w' => e = .returned (.int .i64 (at_ : Int)) ∧ Below W.heap.size W w' := fun W => by rw [← hat]; exact rest_b (by omega) (by omega) W
  have R2 : ∀ W : World, Calls Tryd.prog 28 #[.int .i64 kn, .int .i64 48] W fun e w' => e = .returned (.int .i64 (q : Int)) ∧ ∃ m, w' = W.drewN m := fun W => by
    refine (redraftlaw03_rest.calls kn 48 _ W (rest_is (by decide) (by decide))).mono ?_
    rintro e w' ⟨he, ⟨nd, hw⟩⟩
    rw [hq] at he
    exact ⟨he, nd, hw⟩
  have R3 : ∀ W, Calls Tryd.prog 28 #[.int .i64 kb, .int .i64 3] W fun e w' => e = .returned (.int .i64 hd) ∧ Below W.heap.size W w' := fun W => by rw [← hhd]; exact rest_b (by omega) (by omega) W
  have R4 : ∀ W : World, Calls Tryd.prog 29 #[.int .i64 (1 + (q : Int)), .int .i64 kb] W fun e w' => e = .returned (.string (txt s)) ∧ ∃ m, w' = W.drewN m := fun W => by
    rw [hs, show 1 + (q : Int) = ((q + 1 : Nat) : Int) by omega]
    refine (words_calls (q + 1) kb (by omega) W).mono ?_
    rintro e w' ⟨he, ⟨nd, hw⟩⟩
    exact ⟨he, nd, hw⟩
  have I1 : ∀ W, RopeHas W b cs → BarsAt W → Calls Tryd.prog 33 #[.pointer (some ⟨b, 0, none⟩), .int .i64 (at_ : Int), .string (txt s), .int .i64 hd] W fun e w' => e = .returned (.int .i64 0) ∧ RopeHas w' b (insC cs at_ s hd) ∧ W.grownBy w' (some b) := fun W h hw => rope_insert h hw hatN hsL (fun e => by rw [e] at hsl; simp at hsl) (by omega) (by omega)
  have I2 : ∀ W, Row (fun k => k = b) W A c cs → Calls Tryd.prog 52 #[.slice A N c, .int .i64 (at_ : Int), .string (txt s), .int .i64 hd] W fun e w' => ∃ A' c', e = .returned (.slice A' (insC cs at_ s hd).length c') ∧ Kd.R k36 36 w' W.heap.size (fun b => W.heap.size ≤ b) (.slice A' (insC cs at_ s hd).length c') (sCells (insC cs at_ s hd)) ∧ Below W.heap.size W w' := fun W h => by rw [hN]; exact put_calls hatN (by omega) hsL h.rd h.cap
  replace R1 := Lib.hid R1
  replace R2 := Lib.hid R2
  replace R3 := Lib.hid R3
  replace R4 := Lib.hid R4
  replace I1 := Lib.hid I1
  replace I2 := Lib.hid I2
  obtain ⟨st, hst⟩ : ∃ st, st = txt s := ⟨_, rfl⟩
  rw [← hst] at R4 I1 I2
  have hact : actC cs 0 ka kb kn = insC cs at_ s hd := by
    rw [actC, if_pos rfl, ← hN, hat, Int.toNat_natCast, hq, Int.toNat_natCast, hhd, ← hs]
  rw [hact]
  obtain ⟨cs', hcs'⟩ : ∃ cs', cs' = insC cs at_ s hd := ⟨_, rfl⟩
  rw [← hcs']
  rw [← hcs'] at I1 I2 hlen hrow
  have HLEN := Lib.hid hlen
  have HROW := Lib.hid hrow
  have hbx : (W.alloc (.cells #[.int .i64 0, .int .i64 ka, .int .i64 kb, .int .i64 kn] 44)).heap[W.heap.size]? = some (Obj.cells #[.int .i64 0, .int .i64 ka, .int .i64 kb, .int .i64 kn] 44 (0, 0)) := heap_new _ _
  have S1 := S.step (below_alloc (Below.refl _ W) (.cells #[.int .i64 0, .int .i64 ka, .int .i64 kb, .int .i64 kn] 44))
  rw [← hN]
  clear hact hat hq hhd hs hsl hsL hatN hq48 hlen hrow hr hH hl hst hcs' S hN
  go_enter Tryd.func27, Tryd.ntmps27
  go_wp2_with (go_at_call 28; refine (R1.out _).mono ?_; clear R1; rintro e w2 ⟨rfl, hb2⟩)
  have hbx2 := (hb2.block _ (new_lt hbx)).trans hbx
  have S2 := S1.step hb2
  obtain ⟨x0, x1, x2, x3⟩ := cells4k hbx2
  clear hbx hb2 S1
  go_quiet (first
      | (go_at_call 28; exact Calls.quiet_of (R2.out _))
      | (go_at_call 29; exact Calls.quiet_of (R4.out _)))
  have S3 := S2.step (pw_below_drewN (Below.refl _ w2) nq)
  go_wp2_with (first
    | (go_at_call 28; refine (R3.out _).mono ?_; clear R3; rintro e w5 ⟨rfl, hb5⟩; have S5 := S3.step hb5)
    | (go_at_call 33; refine (I1.out w5 S5.rope S5.bars).mono ?_; clear I1; rintro e w6 ⟨rfl, hro, hg⟩; have S6 := S5.put hg hro)
    | (go_at_call 52; refine (I2.out w6 S6.row).mono ?_; clear I2; rintro e w7 ⟨A', c', rfl, hR7, hb7⟩))
  go_ret2
  exact ⟨A', c', rfl, (S6.row' hb7 hR7).1, (S6.row' hb7 hR7).2, HROW.out, HLEN.out⟩
set_option maxRecDepth 100000 in
set_option maxHeartbeats 16000000 in
theorem actsD_up {w W : World} {b : Nat} {A : Option Addr} {c : Nat} {cs : List (Int × Int)} {H : Int} (S : Sta w W b A c cs cs) (hr : RowOk H cs) (hH : 2 ≤ H ∧ H ≤ 1000) (hl : cs.length ≤ 20000) (ka kb kn : Int) :
    Calls Tryd.prog 27 #[.pointer (some ⟨b, 0, none⟩), .slice A cs.length c, .agg #[.int .i64 1, .int .i64 ka, .int .i64 kb, .int .i64 kn]] W fun e w' => ∃ A' c', e = .returned (.tuple #[.slice A' (actC cs 1 ka kb kn).length c', .bool true]) ∧ Sta w w' b A' c' (actC cs 1 ka kb kn) (actC cs 1 ka kb kn) ∧ Row (fun k => k < w.heap.size) w' A' c' (actC cs 1 ka kb kn) ∧ RowOk (H + 1) (actC cs 1 ka kb kn) ∧ (actC cs 1 ka kb kn).length ≤ cs.length + 48 := by
  have hact : actC cs 1 ka kb kn = bumpC cs (choL cs ka kb false) 1 := by rw [actC, if_neg (by decide), if_pos rfl]
  rw [hact]
  clear hact
  obtain ⟨k, hk, hN, hdn⟩ := choL_is cs (by omega) ka kb false
  obtain ⟨l, hl_⟩ : ∃ l, l = choL cs ka kb false := ⟨_, rfl⟩
  rw [← hl_] at hk hN hdn ⊢
  clear hl_
  have hok : BumpOk cs l 1 := by
    intro r hr' d hd
    have h1 := hr.h d (List.mem_of_mem_take (List.mem_of_mem_drop hd))
    have h2 := fun h => hdn h r hr' d hd
    omega
  have hlen : (bumpC cs l 1).length = cs.length := bumpC_len hN
  have hrow : RowOk (H + 1) (bumpC cs l 1) := hr.bump hN hok (by decide)
  obtain ⟨kb', hkb⟩ := bumped_is hN (by omega) hok
  have hll := hN.len
  have B1 : ∀ W A' c', RopeHas W b cs → Kd.C k133 W A' l.length (sRng l) → l.length ≤ c' → Calls Tryd.prog 39 #[.pointer (some ⟨b, 0, none⟩), .slice A' l.length c', .int .i64 1] W fun e w' => e = .returned (.int .i64 0) ∧ RopeHas w' b (bumpC cs l 1) ∧ W.grownBy w' (some b) := fun W A' c' h h2 h3 => rope_bump h (.inl rfl) hN hok (by omega) h2 h3
  have C1 : ∀ W, Row (fun k => k = b) W A c cs → Calls Tryd.prog 68 #[.slice A cs.length c, .int .i64 ka, .int .i64 kb, .bool false] W fun e w' => ∃ A' c', e = .returned (.slice A' l.length c') ∧ Kd.R k133 133 w' W.heap.size (fun _ => True) (.slice A' l.length c') (sRng l) ∧ Below W.heap.size W w' := fun W h => by
    have h1 := h.rd
    have h2 := h.cap
    rw [← sCells_len cs] at h1 h2 ⊢
    refine (redraftlaw03_chosen.calls k A c (sCells cs) ka kb false (sRng l) W h1 h2 hk).mono ?_
    rintro e w' ⟨v, he, hR, hb⟩
    obtain ⟨A', c', hv⟩ := Kd.R_slice hR
    rw [sRng_len] at hv
    subst hv
    exact ⟨A', c', he, hR, hb⟩
  have C2 : ∀ W A' c', Row (fun k => k = b) W A c cs → Kd.C k133 W A' l.length (sRng l) → l.length ≤ c' → Calls Tryd.prog 50 #[.slice A cs.length c, .slice A' l.length c', .int .i64 1] W fun e w' => ∃ A' c', e = .returned (.slice A' (bumpC cs l 1).length c') ∧ Kd.R k36 36 w' W.heap.size (fun _ => True) (.slice A' (bumpC cs l 1).length c') (sCells (bumpC cs l 1)) ∧ Below W.heap.size W w' := fun W A' c' h h3 h4 => by
    have h1 := h.rd
    have h2 := h.cap
    rw [← sCells_len cs] at h1 h2 ⊢
    rw [← sRng_len l] at h3 h4 ⊢
    refine (redraftlaw03_bumped.calls kb' A c (sCells cs) A' c' (sRng l) 1 (sCells (bumpC cs l 1)) W h1 h2 h3 h4 hkb).mono ?_
    rintro e w' ⟨v, he, hR, hb⟩
    obtain ⟨A', c', hv⟩ := Kd.R_slice hR
    rw [sCells_len] at hv
    subst hv
    exact ⟨A', c', he, hR, hb⟩
  replace B1 := Lib.hid B1
  replace C1 := Lib.hid C1
  replace C2 := Lib.hid C2
  obtain ⟨cs', hcs'⟩ : ∃ cs', cs' = bumpC cs l 1 := ⟨_, rfl⟩
  rw [← hcs']
  rw [← hcs'] at B1 C2 hlen hrow
  have HLEN := Lib.hid hlen
  have HROW := Lib.hid hrow
  have HLL := Lib.hid hll
  have hbx : (W.alloc (.cells #[.int .i64 1, .int .i64 ka, .int .i64 kb, .int .i64 kn] 44)).heap[W.heap.size]? = some (Obj.cells #[.int .i64 1, .int .i64 ka, .int .i64 kb, .int .i64 kn] 44 (0, 0)) := heap_new _ _
  have S1 := S.step (below_alloc (Below.refl _ W) (.cells #[.int .i64 1, .int .i64 ka, .int .i64 kb, .int .i64 kn] 44))
  clear hk hN hdn hok hlen hrow hkb hll hr hH hl hcs' S
  go_enter Tryd.func27, Tryd.ntmps27
  go_wp2_with (first
    | (go_at_call 68; refine (C1.out _ S1.row).mono ?_; clear C1; rintro e w2 ⟨A2, c2, rfl, hR2, hb2⟩; have S2 := S1.step hb2; have hC2 : Kd.C k133 w2 A2 l.length (sRng l) := (by have := (Kd.R_reads' hR2).2.2; rwa [sRng_len] at this); have hc2 := (Kd.R_reads' hR2).2.1; have HL0 : Hid ((([] : List S133).length + l.length) * 16 ≤ 140737488355328) := Lib.hid (by have := HLL.out; simp only [List.length_nil]; omega))
    | ((with_reducible refine gate_builtin (b := .append) (xs := #[.const (.slice none 0 0), .tmp 58]) rfl ?_); at_builtin; refine Kd.R_append_rows k133 (w0 := w2) w2.heap.size rfl (.const (.slice none 0 0)) (.tmp 58) 61 133 (.agg #[.int .i64 0, .int .i64 0]) 16 rfl Tryd.underlying61 info133 rfl (by decide) (by decide) _ ([] : List S133) (sRng l) _ _ _ (fun b => w2.heap.size ≤ b) (fun _ => False) rfl rfl (Kd.R_nil _ _ _ _ _) hC2 (fun _ _ h => h) (fun _ h => h.elim) (fun _ h => h) (Below.refl _ _) (Nat.le_refl _) HL0.out ?_; intro v3 w3 hR3 hB3 hg3 hat3; clear hg3 hat3; rw [List.nil_append] at hR3; obtain ⟨A3, c3, hv3⟩ := Kd.R_slice hR3; rw [sRng_len] at hv3; subst hv3; have S3 := S2.step hB3; have hC3 : Kd.C k133 w3 A3 l.length (sRng l) := (by have := (Kd.R_reads' hR3).2.2; rwa [sRng_len] at this); have hc3 := (Kd.R_reads' hR3).2.1)
    | (go_at_call 39; refine (B1.out w3 A3 c3 S3.rope hC3 hc3).mono ?_; clear B1; rintro e w4 ⟨rfl, hro, hg⟩; have S4 := S3.put hg hro; have hlt := S1.rope.lt; have hR4 := Kd.R_step (w1 := w4) (Kd.R_mono (Kd.R_bound (Kd.R_below hR2 hB3)) (fun k hk => hk.2.1)) (fun k hk hl => hg.block k hl (fun e => by injection e with e; omega)); have hC4 : Kd.C k133 w4 A2 l.length (sRng l) := (by have := (Kd.R_reads' hR4).2.2; rwa [sRng_len] at this))
    | (go_at_call 50; refine (C2.out w4 A2 c2 S4.row hC4 hc2).mono ?_; clear C2; rintro e w5 ⟨A', c', rfl, hR5, hb5⟩))
  go_ret2
  exact ⟨A', c', rfl, (S4.row' hb5 hR5).1, (S4.row' hb5 hR5).2, HROW.out, by have := HLEN.out; omega⟩
set_option maxRecDepth 100000 in
set_option maxHeartbeats 16000000 in
theorem actsD_down {w W : World} {b : Nat} {A : Option Addr} {c : Nat} {cs : List (Int × Int)} {H : Int} (S : Sta w W b A c cs cs) (hr : RowOk H cs) (hH : 2 ≤ H ∧ H ≤ 1000) (hl : cs.length ≤ 20000) (kd ka kb kn : Int) (h0 : kd ≠ 0) (h1 : kd ≠ 1) :
    Calls Tryd.prog 27 #[.pointer (some ⟨b, 0, none⟩), .slice A cs.length c, .agg #[.int .i64 kd, .int .i64 ka, .int .i64 kb, .int .i64 kn]] W fun e w' => ∃ A' c', e = .returned (.tuple #[.slice A' (actC cs kd ka kb kn).length c', .bool true]) ∧ Sta w w' b A' c' (actC cs kd ka kb kn) (actC cs kd ka kb kn) ∧ Row (fun k => k < w.heap.size) w' A' c' (actC cs kd ka kb kn) ∧ RowOk (H + 1) (actC cs kd ka kb kn) ∧ (actC cs kd ka kb kn).length ≤ cs.length + 48 := by
  have hact : actC cs kd ka kb kn = bumpC cs (choL cs ka kb true) (-1) := by rw [actC, if_neg h0, if_neg h1]
  rw [hact]
  clear hact
  obtain ⟨k, hk, hN, hdn⟩ := choL_is cs (by omega) ka kb true
  obtain ⟨l, hl_⟩ : ∃ l, l = choL cs ka kb true := ⟨_, rfl⟩
  rw [← hl_] at hk hN hdn ⊢
  clear hl_
  have hok : BumpOk cs l (-1) := by
    intro r hr' d hd
    have h1 := hr.h d (List.mem_of_mem_take (List.mem_of_mem_drop hd))
    have h2 := fun h => hdn h r hr' d hd
    have h3 := h2 rfl
    omega
  have hlen : (bumpC cs l (-1)).length = cs.length := bumpC_len hN
  have hrow : RowOk (H + 1) (bumpC cs l (-1)) := hr.bump hN hok (by decide)
  obtain ⟨kb', hkb⟩ := bumped_is hN (by omega) hok
  have hll := hN.len
  have B1 : ∀ W A' c', RopeHas W b cs → Kd.C k133 W A' l.length (sRng l) → l.length ≤ c' → Calls Tryd.prog 39 #[.pointer (some ⟨b, 0, none⟩), .slice A' l.length c', .int .i64 (-1)] W fun e w' => e = .returned (.int .i64 0) ∧ RopeHas w' b (bumpC cs l (-1)) ∧ W.grownBy w' (some b) := fun W A' c' h h2 h3 => rope_bump h (.inr rfl) hN hok (by omega) h2 h3
  have C1 : ∀ W, Row (fun k => k = b) W A c cs → Calls Tryd.prog 68 #[.slice A cs.length c, .int .i64 ka, .int .i64 kb, .bool true] W fun e w' => ∃ A' c', e = .returned (.slice A' l.length c') ∧ Kd.R k133 133 w' W.heap.size (fun _ => True) (.slice A' l.length c') (sRng l) ∧ Below W.heap.size W w' := fun W h => by
    have h1 := h.rd
    have h2 := h.cap
    rw [← sCells_len cs] at h1 h2 ⊢
    refine (redraftlaw03_chosen.calls k A c (sCells cs) ka kb true (sRng l) W h1 h2 hk).mono ?_
    rintro e w' ⟨v, he, hR, hb⟩
    obtain ⟨A', c', hv⟩ := Kd.R_slice hR
    rw [sRng_len] at hv
    subst hv
    exact ⟨A', c', he, hR, hb⟩
  have C2 : ∀ W A' c', Row (fun k => k = b) W A c cs → Kd.C k133 W A' l.length (sRng l) → l.length ≤ c' → Calls Tryd.prog 50 #[.slice A cs.length c, .slice A' l.length c', .int .i64 (-1)] W fun e w' => ∃ A' c', e = .returned (.slice A' (bumpC cs l (-1)).length c') ∧ Kd.R k36 36 w' W.heap.size (fun _ => True) (.slice A' (bumpC cs l (-1)).length c') (sCells (bumpC cs l (-1))) ∧ Below W.heap.size W w' := fun W A' c' h h3 h4 => by
    have h1 := h.rd
    have h2 := h.cap
    rw [← sCells_len cs] at h1 h2 ⊢
    rw [← sRng_len l] at h3 h4 ⊢
    refine (redraftlaw03_bumped.calls kb' A c (sCells cs) A' c' (sRng l) (-1) (sCells (bumpC cs l (-1))) W h1 h2 h3 h4 hkb).mono ?_
    rintro e w' ⟨v, he, hR, hb⟩
    obtain ⟨A', c', hv⟩ := Kd.R_slice hR
    rw [sCells_len] at hv
    subst hv
    exact ⟨A', c', he, hR, hb⟩
  replace B1 := Lib.hid B1
  replace C1 := Lib.hid C1
  replace C2 := Lib.hid C2
  obtain ⟨cs', hcs'⟩ : ∃ cs', cs' = bumpC cs l (-1) := ⟨_, rfl⟩
  rw [← hcs']
  rw [← hcs'] at B1 C2 hlen hrow
  have HLEN := Lib.hid hlen
  have HROW := Lib.hid hrow
  have HLL := Lib.hid hll
  have hbx : (W.alloc (.cells #[.int .i64 kd, .int .i64 ka, .int .i64 kb, .int .i64 kn] 44)).heap[W.heap.size]? = some (Obj.cells #[.int .i64 kd, .int .i64 ka, .int .i64 kb, .int .i64 kn] 44 (0, 0)) := heap_new _ _
  have S1 := S.step (below_alloc (Below.refl _ W) (.cells #[.int .i64 kd, .int .i64 ka, .int .i64 kb, .int .i64 kn] 44))
  have d0 : (kd == 0) = false := beq_eq_false_iff_ne.mpr h0
  have d1 : (kd == 1) = false := beq_eq_false_iff_ne.mpr h1
  clear h0 h1
  clear hk hN hdn hok hlen hrow hkb hll hr hH hl hcs' S
  go_enter Tryd.func27, Tryd.ntmps27
  go_wp2_with (first
    | (go_at_call 68; refine (C1.out _ S1.row).mono ?_; clear C1; rintro e w2 ⟨A2, c2, rfl, hR2, hb2⟩; have S2 := S1.step hb2; have hC2 : Kd.C k133 w2 A2 l.length (sRng l) := (by have := (Kd.R_reads' hR2).2.2; rwa [sRng_len] at this); have hc2 := (Kd.R_reads' hR2).2.1; have HL0 : Hid ((([] : List S133).length + l.length) * 16 ≤ 140737488355328) := Lib.hid (by have := HLL.out; simp only [List.length_nil]; omega))
    | ((with_reducible refine gate_builtin (b := .append) (xs := #[.const (.slice none 0 0), .tmp 58]) rfl ?_); at_builtin; refine Kd.R_append_rows k133 (w0 := w2) w2.heap.size rfl (.const (.slice none 0 0)) (.tmp 58) 61 133 (.agg #[.int .i64 0, .int .i64 0]) 16 rfl Tryd.underlying61 info133 rfl (by decide) (by decide) _ ([] : List S133) (sRng l) _ _ _ (fun b => w2.heap.size ≤ b) (fun _ => False) rfl rfl (Kd.R_nil _ _ _ _ _) hC2 (fun _ _ h => h) (fun _ h => h.elim) (fun _ h => h) (Below.refl _ _) (Nat.le_refl _) HL0.out ?_; intro v3 w3 hR3 hB3 hg3 hat3; clear hg3 hat3; rw [List.nil_append] at hR3; obtain ⟨A3, c3, hv3⟩ := Kd.R_slice hR3; rw [sRng_len] at hv3; subst hv3; have S3 := S2.step hB3; have hC3 : Kd.C k133 w3 A3 l.length (sRng l) := (by have := (Kd.R_reads' hR3).2.2; rwa [sRng_len] at this); have hc3 := (Kd.R_reads' hR3).2.1)
    | (go_at_call 39; refine (B1.out w3 A3 c3 S3.rope hC3 hc3).mono ?_; clear B1; rintro e w4 ⟨rfl, hro, hg⟩; have S4 := S3.put hg hro; have hlt := S1.rope.lt; have hR4 := Kd.R_step (w1 := w4) (Kd.R_mono (Kd.R_bound (Kd.R_below hR2 hB3)) (fun k hk => hk.2.1)) (fun k hk hl => hg.block k hl (fun e => by injection e with e; omega)); have hC4 : Kd.C k133 w4 A2 l.length (sRng l) := (by have := (Kd.R_reads' hR4).2.2; rwa [sRng_len] at this))
    | (go_at_call 50; refine (C2.out w4 A2 c2 S4.row hC4 hc2).mono ?_; clear C2; rintro e w5 ⟨A', c', rfl, hR5, hb5⟩))
  go_ret2
  exact ⟨A', c', rfl, (S4.row' hb5 hR5).1, (S4.row' hb5 hR5).2, HROW.out, by have := HLEN.out; omega⟩
theorem actsD_calls {w W : World} {b : Nat} {A : Option Addr} {c : Nat} {cs : List (Int × Int)} {H : Int} (S : Sta w W b A c cs cs) (hr : RowOk H cs) (hH : 2 ≤ H ∧ H ≤ 1000) (hl : cs.length ≤ 20000) (kd ka kb kn : Int) :
    Calls Tryd.prog 27 #[.pointer (some ⟨b, 0, none⟩), .slice A cs.length c, .agg #[.int .i64 kd, .int .i64 ka, .int .i64 kb, .int .i64 kn]] W fun e w' => ∃ A' c', e = .returned (.tuple #[.slice A' (actC cs kd ka kb kn).length c', .bool true]) ∧ Sta w w' b A' c' (actC cs kd ka kb kn) (actC cs kd ka kb kn) ∧ Row (fun k => k < w.heap.size) w' A' c' (actC cs kd ka kb kn) ∧ RowOk (H + 1) (actC cs kd ka kb kn) ∧ (actC cs kd ka kb kn).length ≤ cs.length + 48 := by
  by_cases h0 : kd = 0
  · subst h0; exact actsD_put S hr hH.1 hl ka kb kn
  · by_cases h1 : kd = 1
    · subst h1; exact actsD_up S hr hH hl ka kb kn
    · exact actsD_down S hr hH hl kd ka kb kn h0 h1
end Go.Proofs.YteeigokkafcaaaaDoorRope
end
section
namespace Go.Proofs.YteeigokkafcaaaaDoorRope
open Go.RowKit
set_option linter.unusedSimpArgs false
set_option linter.unusedVariables false
theorem two_pow_le {a b : Nat} (h : a ≤ b) : 2 ^ a ≤ 2 ^ b := Nat.pow_le_pow_right (by decide) h
theorem size_lt (t : Tree) : t.size + 1 ≤ 2 ^ t.ht := by
  induction t with
  | nil => simp [Tree.size, Tree.ht]
  | node l rs hid r plus ihl ihr =>
    have h1 := two_pow_le (Nat.le_max_left l.ht r.ht)
    have h2 := two_pow_le (Nat.le_max_right l.ht r.ht)
    simp only [Tree.size, Tree.ht, Nat.add_comm 1, Nat.pow_succ]
    omega
theorem size_ge {t : Tree} : ∀ {A : Int}, t.Good A → 2 ^ ((t.ht + 1) / 2) ≤ t.size + 1 := by
  induction t with
  | nil => intro A _; simp [Tree.size, Tree.ht]
  | node l rs hid r plus ihl ihr =>
    rintro A ⟨_, _, _, _, _, h6, h7, h8, h9⟩
    have e1 := ihl h8
    have e2 := ihr h9
    have hm : (Tree.node l rs hid r plus).ht = 1 + max l.ht r.ht := rfl
    have hs : (Tree.node l rs hid r plus).size = l.size + 1 + r.size := rfl
    by_cases h0 : max l.ht r.ht = 0
    · rw [hm, hs, h0]
      show 2 ^ 1 ≤ _
      omega
    · have a1 : max l.ht r.ht ≤ l.ht + 1 := by omega
      have a2 : max l.ht r.ht ≤ r.ht + 1 := by omega
      have b1 := two_pow_le (show (max l.ht r.ht + 2) / 2 ≤ (l.ht + 1) / 2 + 1 by omega)
      have b2 := two_pow_le (show (max l.ht r.ht + 2) / 2 ≤ (r.ht + 1) / 2 + 1 by omega)
      rw [Nat.pow_succ] at b1 b2
      rw [hm, hs, show 1 + max l.ht r.ht + 1 = max l.ht r.ht + 2 by omega]
      omega
theorem ht_of {t : Tree} {A : Int} (h : t.Good A) {d : Nat} (h1 : t.size < 2 ^ d) (h2 : 0 < d → 2 ^ (d - 1) ≤ t.size) : d ≤ t.ht ∧ t.ht ≤ 2 * d := by
  have a1 := size_lt t
  have a2 := size_ge h
  constructor
  · rcases Nat.eq_zero_or_pos d with rfl | hd
    · exact Nat.zero_le _
    · have h3 := h2 hd
      have h4 : d - 1 < t.ht := (Nat.pow_lt_pow_iff_right (show 1 < 2 by decide)).1 (by omega)
      omega
  · have h3 : (t.ht + 1) / 2 ≤ d := (Nat.pow_le_pow_iff_right (show 1 < 2 by decide)).1 (by omega)
    omega
def grp : List (List Int × Int) → List (List Int × Int)
  | [] => []
  | p :: t => match grp t with
    | [] => [p]
    | q :: u => if p.2 = q.2 then (p.1 ++ q.1, q.2) :: u else p :: q :: u
theorem grp_head (p : List Int × Int) (t : List (List Int × Int)) : ∃ x u, grp (p :: t) = (x, p.2) :: u ∧ p.1.length ≤ x.length := by
  unfold grp
  split
  · exact ⟨p.1, [], rfl, Nat.le_refl _⟩
  · rename_i q u _
    split
    · rename_i h; exact ⟨p.1 ++ q.1, u, by rw [h], by simp⟩
    · exact ⟨p.1, _, rfl, Nat.le_refl _⟩
def Seam : List (List Int × Int) → Prop
  | [] => True
  | [p] => p.1 ≠ []
  | p :: q :: t => p.1 ≠ [] ∧ (p.2 = q.2 → 32 ≤ p.1.length + q.1.length) ∧ Seam (q :: t)
theorem seam_count : ∀ (ps : List (List Int × Int)) (p : List Int × Int), Seam (p :: ps) → 16 * (p :: ps).length + min p.1.length 16 ≤ (rcells (p :: ps)).length + 16 * (grp (p :: ps)).length
  | [], p, h => by
    have e : grp [p] = [p] := rfl
    rw [e, rcells_cons, List.length_append, List.length_map]
    simp only [List.length_cons, List.length_nil]
    omega
  | q :: t, p, h => by
    obtain ⟨h1, h2, h3⟩ := h
    have ih := seam_count t q h3
    obtain ⟨x, u, he, _⟩ := grp_head q t
    have hp : 0 < p.1.length := List.length_pos_iff.2 h1
    have e : grp (p :: q :: t) = if p.2 = q.2 then (p.1 ++ x, q.2) :: u else p :: (x, q.2) :: u := by
      rw [grp, he]
    rw [he] at ih
    rw [e, rcells_cons, List.length_append, List.length_map]
    by_cases c : p.2 = q.2
    · have := h2 c
      rw [if_pos c]
      simp only [List.length_cons] at ih ⊢
      omega
    · rw [if_neg c]
      simp only [List.length_cons] at ih ⊢
      omega
theorem grp_le : ∀ ps : List (List Int × Int), (grp ps).length ≤ ps.length
  | [] => Nat.le_refl _
  | p :: t => by
    have ih := grp_le t
    unfold grp
    split
    · simp
    · rename_i q u h
      rw [h] at ih
      split <;> simp only [List.length_cons] at ih ⊢ <;> omega
theorem grp_cells : ∀ ps : List (List Int × Int), rcells (grp ps) = rcells ps
  | [] => rfl
  | p :: t => by
    have ih := grp_cells t
    unfold grp
    split
    · rename_i h
      rw [h] at ih
      rw [rcells_cons, rcells_cons, ← ih]
    · rename_i q u h
      rw [h] at ih
      split
      · rename_i c
        rw [rcells_cons, rcells_cons, ← ih, rcells_cons, List.map_append, List.append_assoc, c]
      · rw [rcells_cons, ih, ← rcells_cons]
end Go.Proofs.YteeigokkafcaaaaDoorRope
end
section
namespace Go.Proofs.YteeigokkafcaaaaDoorRope
open Go.RowKit
set_option linter.unusedSimpArgs false
set_option linter.unusedVariables false
def Tree.pcs : Tree → List (List Int × Int)
  | .nil => []
  | .node l rs hid r plus => (pcs l ++ [(rs, hid)] ++ pcs r).map (fun c => (c.1, c.2 + plus))
theorem rcells_plus (k : Int) : ∀ (a : List (List Int × Int)), rcells (a.map (fun c => (c.1, c.2 + k))) = (rcells a).map (fun c => (c.1, c.2 + k))
  | [] => rfl
  | x :: a => by
    rw [List.map_cons, rcells_cons, rcells_cons, rcells_plus k a, List.map_append, List.map_map]
    rfl
theorem Tree.cells_pcs (t : Tree) : t.cells = rcells t.pcs := by
  induction t with
  | nil => rfl
  | node l rs hid r plus ihl ihr =>
    rw [Tree.cells, Tree.pcs, rcells_plus, rcells_append, rcells_append, ← ihl, ← ihr]
    simp [rcells_cons, rcells]
theorem Tree.pcs_size (t : Tree) : t.pcs.length = t.size := by
  induction t with
  | nil => rfl
  | node l rs hid r plus ihl ihr => simp [Tree.pcs, Tree.size, ihl, ihr]; omega
theorem Tree.pcs_lift (t : Tree) (b : Int) : (t.lift b).pcs = t.pcs.map (fun c => (c.1, c.2 + b)) := by
  cases t with
  | nil => rfl
  | node l rs hid r plus =>
    simp only [Tree.lift, Tree.pcs, List.map_map]
    congr 1
    funext c
    simp only [Function.comp, Int.add_assoc]
theorem pcs_open (l : Tree) (rs : List Int) (hid : Int) (r : Tree) (plus : Int) : (Tree.node l rs hid r plus).pcs = (l.lift plus).pcs ++ [(rs, hid + plus)] ++ (r.lift plus).pcs := by
  rw [Tree.pcs_lift, Tree.pcs_lift, Tree.pcs]
  simp
theorem pcs_knot (l : Tree) (rs : List Int) (hid : Int) (r : Tree) : (Tree.node l rs hid r 0).pcs = l.pcs ++ [(rs, hid)] ++ r.pcs := by
  rw [Tree.pcs]
  simp
end Go.Proofs.YteeigokkafcaaaaDoorRope
end
section
namespace Go.Proofs.YteeigokkafcaaaaDoorRope.P2
open Go.RowKit Go.Proofs.YteeigokkafcaaaaDoorW.PrintWords Go.Proofs.YteeigokkafcaaaaDoorW.PrintMore Go.Proofs.YteeigokkafcaaaaDoorRope
set_option linter.unusedSimpArgs false
set_option linter.unusedVariables false
attribute [local go_sem] run_field2 run_field0
def Made (K : Nat → Prop) (w0 : World) (ts : List (Tree × Value)) (ps : List Pc) (bs : List (Nat × Obj)) (cs : List (List Int × Int)) (lo hi : Nat) (e : Ending) (w' : World) : Prop := ∃ t v, e = .returned v ∧ Env K w0 w' ((t, v) :: ts) ps bs ∧ t.pcs = cs ∧ lo ≤ t.ht ∧ t.ht ≤ hi
theorem of_pcs {t a b : Tree} {p : Pc} (h : t.pcs = a.pcs ++ [(p.rs, p.hid)] ++ b.pcs) : t.cells = a.cells ++ p.cells ++ b.cells := by
  rw [Tree.cells_pcs, h, rcells_append, rcells_append, ← Tree.cells_pcs, ← Tree.cells_pcs]
  simp [rcells, Pc.cells]
set_option maxRecDepth 100000 in
set_option maxHeartbeats 4000000 in
theorem weigh_l1 {K : Nat → Prop} {w0 W : World} {ts : List (Tree × Value)} {ps : List Pc} {bs : List (Nat × Obj)} (h : Env K w0 W ts ps bs) {ll lr q : Tree} {lrs : List Int} {lhid lplus : Int} {vl vq : Value} {p : Pc} (hl : ((Tree.node ll lrs lhid lr lplus), vl) ∈ ts) (hq : (q, vq) ∈ ts) (hp : p ∈ ps) (hh : (Tree.node ll lrs lhid lr lplus).ht = q.ht + 2) (hge : lr.ht ≤ ll.ht) (hsz : (Tree.node ll lrs lhid lr lplus).cells.length + p.rs.length + q.cells.length ≤ 1073741824) :
    Calls Tryd.prog 129 #[vl, .agg #[.slice p.A p.rs.length p.c, .int .i64 p.hid], vq] W (Made K w0 ts ps bs ((Tree.node ll lrs lhid lr lplus).pcs ++ [(p.rs, p.hid)] ++ q.pcs) (q.ht + 2) (q.ht + 3)) := by
  have gl : (Tree.node ll lrs lhid lr lplus).Good 0 := (h.t _ hl).good
  have gq : q.Good 0 := (h.t _ hq).good
  have a1 := gl.hts
  have a3 := gq.ht_cells
  have a4 := len_open ll lrs lhid lr lplus
  have a6 : (Tree.node ll lrs lhid lr lplus).ht = 1 + max ll.ht lr.ht := rfl
  have f1 : (((lr.lift lplus).ht : Nat) : Int) = ((lr.ht : Nat) : Int) := by rw [Tree.ht_lift]
  have f2 : (((ll.lift lplus).ht : Nat) : Int) = ((ll.ht : Nat) : Int) := by rw [Tree.ht_lift]
  have c2 : decide (lr.ht ≤ ll.ht) = true := by simp; omega
  have c1 : ((q.ht : Nat) : Int) + 1 < (((Tree.node ll lrs lhid lr lplus).ht : Nat) : Int) := by omega
  have c3 : ¬ ((((Tree.node ll lrs lhid lr lplus).ht : Nat) : Int) + 1 < ((q.ht : Nat) : Int)) := by omega
  have q1 : (0 : Int) ≤ ((q.ht : Nat) : Int) := by omega
  have q2 : ((q.ht : Nat) : Int) ≤ 1073741824 := by omega
  have q3 : (((Tree.node ll lrs lhid lr lplus).ht : Nat) : Int) ≤ 1073741826 := by omega
  have k1 : (lr.lift lplus).ht ≤ q.ht + 1 := by rw [Tree.ht_lift]; omega
  have k2 : q.ht ≤ (lr.lift lplus).ht + 1 := by rw [Tree.ht_lift]; omega
  have s1 : (lr.lift lplus).cells.length + p.rs.length + q.cells.length ≤ 1073741824 := by rw [len_lift]; omega
  have b1 := len_open (lr.lift lplus) p.rs p.hid q 0
  have hN : (Tree.node (lr.lift lplus) p.rs p.hid q 0).ht = 1 + max (lr.lift lplus).ht q.ht := rfl
  rw [len_lift] at b1
  rw [Tree.ht_lift] at hN
  have k3 : (ll.lift lplus).ht ≤ (Tree.node (lr.lift lplus) p.rs p.hid q 0).ht + 1 := by rw [Tree.ht_lift]; omega
  have k4 : (Tree.node (lr.lift lplus) p.rs p.hid q 0).ht ≤ (ll.lift lplus).ht + 1 := by rw [Tree.ht_lift]; omega
  have s2 : (ll.lift lplus).cells.length + lrs.length + (Tree.node (lr.lift lplus) p.rs p.hid q 0).cells.length ≤ 1073741824 := by rw [len_lift]; omega
  have hR : (Tree.node (ll.lift lplus) lrs (lhid + lplus) (Tree.node (lr.lift lplus) p.rs p.hid q 0) 0).ht = 1 + max (ll.lift lplus).ht (Tree.node (lr.lift lplus) p.rs p.hid q 0).ht := rfl
  rw [Tree.ht_lift] at hR
  have h8 : q.ht + 2 ≤ (Tree.node (ll.lift lplus) lrs (lhid + lplus) (Tree.node (lr.lift lplus) p.rs p.hid q 0) 0).ht ∧ (Tree.node (ll.lift lplus) lrs (lhid + lplus) (Tree.node (lr.lift lplus) p.rs p.hid q 0) 0).ht ≤ q.ht + 3 := by omega
  have hcs : (Tree.node (ll.lift lplus) lrs (lhid + lplus) (Tree.node (lr.lift lplus) p.rs p.hid q 0) 0).pcs = (Tree.node ll lrs lhid lr lplus).pcs ++ [(p.rs, p.hid)] ++ q.pcs := by rw [pcs_knot, pcs_knot, pcs_open ll lrs lhid lr lplus]; simp only [List.append_assoc]
  have Hhcs := Lib.hid hcs
  have Hh8 := Lib.hid h8
  clear hh a1 a3 a4 a6 f1 f2 hcs h8 b1 hN hR
  have tok : True := trivial
  go_enter Tryd.func129, Tryd.ntmps129
  go_wp2_with fail
  refine (all_env (h.box _) hl).mono ?_
  rintro e w1 ⟨rfl, hE1⟩
  go_wp2_with fail
  refine (all_env hE1 hq).mono ?_
  rintro e w2 ⟨rfl, hE2⟩
  go_wp2_with fail
  refine (open_env hE2 hl).mono ?_
  rintro e w3 ⟨v1, v2, A3, c3, rfl, hE3⟩
  go_wp2_with fail
  refine (all_env (hE3.box _) List.mem_cons_self).mono ?_
  rintro e w4 ⟨rfl, hE4⟩
  go_wp2_with fail
  refine (all_env hE4 (List.mem_cons_of_mem _ List.mem_cons_self)).mono ?_
  rintro e w5 ⟨rfl, hE5⟩
  go_wp2_with fail
  have mP : (W.heap.size, p.obj) ∈ ((w3.heap.size, Pc.obj ⟨lrs, lhid + lplus, A3, c3⟩) :: (W.heap.size, p.obj) :: bs : List (Nat × Obj)) := List.mem_cons_of_mem _ List.mem_cons_self
  have mL : (w3.heap.size, Pc.obj ⟨lrs, lhid + lplus, A3, c3⟩) ∈ ((w3.heap.size, Pc.obj ⟨lrs, lhid + lplus, A3, c3⟩) :: (W.heap.size, p.obj) :: bs : List (Nat × Obj)) := List.mem_cons_self
  have x00 := hE5.drew.cell0 mP
  have x01 := hE5.drew.cell1 mP
  have x10 := hE5.drew.cell0 mL
  have x11 := hE5.drew.cell1 mL
  dsimp only at x10 x11
  go_region_held3 (fun W' => W'.cell? ⟨W.heap.size, 0, none⟩ = some (.slice p.A p.rs.length p.c) ∧ W'.cell? ⟨W.heap.size, 1, none⟩ = some (.int .i64 (p.hid)) ∧ W'.cell? ⟨w3.heap.size, 0, none⟩ = some (.slice A3 lrs.length c3) ∧ W'.cell? ⟨w3.heap.size, 1, none⟩ = some (.int .i64 (lhid + lplus)))
    (first | with_reducible exact ⟨x00, x01, x10, x11⟩ | with_reducible exact ⟨hE6.cell0 mP, hE6.cell1 mP, hE6.cell0 mL, hE6.cell1 mL⟩ | with_reducible exact ⟨hE7.cell0 mP, hE7.cell1 mP, hE7.cell0 mL, hE7.cell1 mL⟩)
    (first
      | (go_at_call 98; clear tok; refine (knot_env hE5.drew (l := lr.lift lplus) (r := q) (p := p) m1 (u2 hq) (u1 hp) k1 k2 s1).mono ?_; rintro e w6 ⟨v6, rfl, hE6⟩)
      | (go_at_call 98; refine (knot_env hE6 (l := ll.lift lplus) (r := (Tree.node (lr.lift lplus) p.rs p.hid q 0)) (p := ⟨lrs, lhid + lplus, A3, c3⟩) m1 m0 m0 k3 k4 s2).mono ?_; rintro e w7 ⟨v7, rfl, hE7⟩))
  all_goals
    go_wp2
    go_ret
    exact ⟨_, v7, rfl, hE7.sub (sub_keep fun y hy => u3 hy) (fun y hy => u1 hy) (fun y hy => u2 hy), Hhcs.out, Hh8.out.1, Hh8.out.2⟩
set_option maxRecDepth 100000 in
set_option maxHeartbeats 4000000 in
theorem weigh_r1 {K : Nat → Prop} {w0 W : World} {ts : List (Tree × Value)} {ps : List Pc} {bs : List (Nat × Obj)} (h : Env K w0 W ts ps bs) {ll lr q : Tree} {lrs : List Int} {lhid lplus : Int} {vl vq : Value} {p : Pc} (hl : ((Tree.node ll lrs lhid lr lplus), vl) ∈ ts) (hq : (q, vq) ∈ ts) (hp : p ∈ ps) (hh : (Tree.node ll lrs lhid lr lplus).ht = q.ht + 2) (hge : ll.ht ≤ lr.ht) (hsz : (Tree.node ll lrs lhid lr lplus).cells.length + p.rs.length + q.cells.length ≤ 1073741824) :
    Calls Tryd.prog 129 #[vq, .agg #[.slice p.A p.rs.length p.c, .int .i64 p.hid], vl] W (Made K w0 ts ps bs (q.pcs ++ [(p.rs, p.hid)] ++ (Tree.node ll lrs lhid lr lplus).pcs) (q.ht + 2) (q.ht + 3)) := by
  have gl : (Tree.node ll lrs lhid lr lplus).Good 0 := (h.t _ hl).good
  have gq : q.Good 0 := (h.t _ hq).good
  have a1 := gl.hts
  have a3 := gq.ht_cells
  have a4 := len_open ll lrs lhid lr lplus
  have a6 : (Tree.node ll lrs lhid lr lplus).ht = 1 + max ll.ht lr.ht := rfl
  have f1 : (((ll.lift lplus).ht : Nat) : Int) = ((ll.ht : Nat) : Int) := by rw [Tree.ht_lift]
  have f2 : (((lr.lift lplus).ht : Nat) : Int) = ((lr.ht : Nat) : Int) := by rw [Tree.ht_lift]
  have c2 : decide (ll.ht ≤ lr.ht) = true := by simp; omega
  have c1 : ((q.ht : Nat) : Int) + 1 < (((Tree.node ll lrs lhid lr lplus).ht : Nat) : Int) := by omega
  have c3 : ¬ ((((Tree.node ll lrs lhid lr lplus).ht : Nat) : Int) + 1 < ((q.ht : Nat) : Int)) := by omega
  have q1 : (0 : Int) ≤ ((q.ht : Nat) : Int) := by omega
  have q2 : ((q.ht : Nat) : Int) ≤ 1073741824 := by omega
  have q3 : (((Tree.node ll lrs lhid lr lplus).ht : Nat) : Int) ≤ 1073741826 := by omega
  have k1 : (ll.lift lplus).ht ≤ q.ht + 1 := by rw [Tree.ht_lift]; omega
  have k2 : q.ht ≤ (ll.lift lplus).ht + 1 := by rw [Tree.ht_lift]; omega
  have s1 : (ll.lift lplus).cells.length + p.rs.length + q.cells.length ≤ 1073741824 := by rw [len_lift]; omega
  have b1 := len_open q p.rs p.hid (ll.lift lplus) 0
  have hN : (Tree.node q p.rs p.hid (ll.lift lplus) 0).ht = 1 + max q.ht (ll.lift lplus).ht := rfl
  rw [len_lift] at b1
  rw [Tree.ht_lift] at hN
  have k3 : (lr.lift lplus).ht ≤ (Tree.node q p.rs p.hid (ll.lift lplus) 0).ht + 1 := by rw [Tree.ht_lift]; omega
  have k4 : (Tree.node q p.rs p.hid (ll.lift lplus) 0).ht ≤ (lr.lift lplus).ht + 1 := by rw [Tree.ht_lift]; omega
  have s2 : (lr.lift lplus).cells.length + lrs.length + (Tree.node q p.rs p.hid (ll.lift lplus) 0).cells.length ≤ 1073741824 := by rw [len_lift]; omega
  have hR : (Tree.node (Tree.node q p.rs p.hid (ll.lift lplus) 0) lrs (lhid + lplus) (lr.lift lplus) 0).ht = 1 + max (Tree.node q p.rs p.hid (ll.lift lplus) 0).ht (lr.lift lplus).ht := rfl
  rw [Tree.ht_lift] at hR
  have h8 : q.ht + 2 ≤ (Tree.node (Tree.node q p.rs p.hid (ll.lift lplus) 0) lrs (lhid + lplus) (lr.lift lplus) 0).ht ∧ (Tree.node (Tree.node q p.rs p.hid (ll.lift lplus) 0) lrs (lhid + lplus) (lr.lift lplus) 0).ht ≤ q.ht + 3 := by omega
  have hcs : (Tree.node (Tree.node q p.rs p.hid (ll.lift lplus) 0) lrs (lhid + lplus) (lr.lift lplus) 0).pcs = q.pcs ++ [(p.rs, p.hid)] ++ (Tree.node ll lrs lhid lr lplus).pcs := by rw [pcs_knot, pcs_knot, pcs_open ll lrs lhid lr lplus]; simp only [List.append_assoc]
  have Hhcs := Lib.hid hcs
  have Hh8 := Lib.hid h8
  clear hh a1 a3 a4 a6 f1 f2 hcs h8 b1 hN hR
  have tok : True := trivial
  go_enter Tryd.func129, Tryd.ntmps129
  go_wp2_with fail
  refine (all_env (h.box _) hq).mono ?_
  rintro e w1 ⟨rfl, hE1⟩
  go_wp2_with fail
  refine (all_env hE1 hl).mono ?_
  rintro e w2 ⟨rfl, hE2⟩
  go_wp2_with fail
  refine (open_env hE2 hl).mono ?_
  rintro e w3 ⟨v1, v2, A3, c3, rfl, hE3⟩
  go_wp2_with fail
  refine (all_env (hE3.box _) (List.mem_cons_of_mem _ List.mem_cons_self)).mono ?_
  rintro e w4 ⟨rfl, hE4⟩
  go_wp2_with fail
  refine (all_env hE4 List.mem_cons_self).mono ?_
  rintro e w5 ⟨rfl, hE5⟩
  go_wp2_with fail
  have mP : (W.heap.size, p.obj) ∈ ((w3.heap.size, Pc.obj ⟨lrs, lhid + lplus, A3, c3⟩) :: (W.heap.size, p.obj) :: bs : List (Nat × Obj)) := List.mem_cons_of_mem _ List.mem_cons_self
  have mL : (w3.heap.size, Pc.obj ⟨lrs, lhid + lplus, A3, c3⟩) ∈ ((w3.heap.size, Pc.obj ⟨lrs, lhid + lplus, A3, c3⟩) :: (W.heap.size, p.obj) :: bs : List (Nat × Obj)) := List.mem_cons_self
  have x00 := hE5.drew.cell0 mP
  have x01 := hE5.drew.cell1 mP
  have x10 := hE5.drew.cell0 mL
  have x11 := hE5.drew.cell1 mL
  dsimp only at x10 x11
  go_region_held3 (fun W' => W'.cell? ⟨W.heap.size, 0, none⟩ = some (.slice p.A p.rs.length p.c) ∧ W'.cell? ⟨W.heap.size, 1, none⟩ = some (.int .i64 (p.hid)) ∧ W'.cell? ⟨w3.heap.size, 0, none⟩ = some (.slice A3 lrs.length c3) ∧ W'.cell? ⟨w3.heap.size, 1, none⟩ = some (.int .i64 (lhid + lplus)))
    (first | with_reducible exact ⟨x00, x01, x10, x11⟩ | with_reducible exact ⟨hE6.cell0 mP, hE6.cell1 mP, hE6.cell0 mL, hE6.cell1 mL⟩ | with_reducible exact ⟨hE7.cell0 mP, hE7.cell1 mP, hE7.cell0 mL, hE7.cell1 mL⟩)
    (first
      | (go_at_call 98; clear tok; refine (knot_env hE5.drew (l := q) (r := ll.lift lplus) (p := p) (u2 hq) m0 (u1 hp) k2 k1 (by omega)).mono ?_; rintro e w6 ⟨v6, rfl, hE6⟩)
      | (go_at_call 98; refine (knot_env hE6 (l := (Tree.node q p.rs p.hid (ll.lift lplus) 0)) (r := lr.lift lplus) (p := ⟨lrs, lhid + lplus, A3, c3⟩) m0 m2 m0 k4 k3 (by show _ + lrs.length + _ ≤ _; omega)).mono ?_; rintro e w7 ⟨v7, rfl, hE7⟩))
  all_goals
    go_wp2
    go_ret
    exact ⟨_, v7, rfl, hE7.sub (sub_keep fun y hy => u3 hy) (fun y hy => u1 hy) (fun y hy => u2 hy), Hhcs.out, Hh8.out.1, Hh8.out.2⟩
set_option maxRecDepth 100000 in
set_option maxHeartbeats 4000000 in
theorem weigh_l2 {K : Nat → Prop} {w0 W : World} {ts : List (Tree × Value)} {ps : List Pc} {bs : List (Nat × Obj)} (h : Env K w0 W ts ps bs) {ll xl xr q : Tree} {lrs xrs : List Int} {lhid lplus xhid xplus : Int} {vl vq : Value} {p : Pc} (hl : ((Tree.node ll lrs lhid (Tree.node xl xrs xhid xr xplus) lplus), vl) ∈ ts) (hq : (q, vq) ∈ ts) (hp : p ∈ ps) (hh : (Tree.node ll lrs lhid (Tree.node xl xrs xhid xr xplus) lplus).ht = q.ht + 2) (hge : ll.ht < (Tree.node xl xrs xhid xr xplus).ht) (hsz : (Tree.node ll lrs lhid (Tree.node xl xrs xhid xr xplus) lplus).cells.length + p.rs.length + q.cells.length ≤ 1073741824) :
    Calls Tryd.prog 129 #[vl, .agg #[.slice p.A p.rs.length p.c, .int .i64 p.hid], vq] W (Made K w0 ts ps bs ((Tree.node ll lrs lhid (Tree.node xl xrs xhid xr xplus) lplus).pcs ++ [(p.rs, p.hid)] ++ q.pcs) (q.ht + 2) (q.ht + 3)) := by
  have gl : (Tree.node ll lrs lhid (Tree.node xl xrs xhid xr xplus) lplus).Good 0 := (h.t _ hl).good
  have gq : q.Good 0 := (h.t _ hq).good
  have a1 := gl.hts
  have a2 : xl.ht ≤ xr.ht + 1 ∧ xr.ht ≤ xl.ht + 1 := gl.2.2.2.2.2.2.2.2.hts
  have a3 := gq.ht_cells
  have a4 := len_open ll lrs lhid (Tree.node xl xrs xhid xr xplus) lplus
  have a5 := len_open xl xrs xhid xr xplus
  have a6 : (Tree.node ll lrs lhid (Tree.node xl xrs xhid xr xplus) lplus).ht = 1 + max ll.ht (Tree.node xl xrs xhid xr xplus).ht := rfl
  have a7 : (Tree.node xl xrs xhid xr xplus).ht = 1 + max xl.ht xr.ht := rfl
  have f1 : ((((Tree.node xl xrs xhid xr xplus).lift lplus).ht : Nat) : Int) = (((Tree.node xl xrs xhid xr xplus).ht : Nat) : Int) := by rw [Tree.ht_lift]
  have f2 : (((ll.lift lplus).ht : Nat) : Int) = ((ll.ht : Nat) : Int) := by rw [Tree.ht_lift]
  have c2 : decide ((Tree.node xl xrs xhid xr xplus).ht ≤ ll.ht) = false := by simp; omega
  have c1 : ((q.ht : Nat) : Int) + 1 < (((Tree.node ll lrs lhid (Tree.node xl xrs xhid xr xplus) lplus).ht : Nat) : Int) := by omega
  have c3 : ¬ ((((Tree.node ll lrs lhid (Tree.node xl xrs xhid xr xplus) lplus).ht : Nat) : Int) + 1 < ((q.ht : Nat) : Int)) := by omega
  have q1 : (0 : Int) ≤ ((q.ht : Nat) : Int) := by omega
  have q2 : ((q.ht : Nat) : Int) ≤ 1073741824 := by omega
  have q3 : (((Tree.node ll lrs lhid (Tree.node xl xrs xhid xr xplus) lplus).ht : Nat) : Int) ≤ 1073741826 := by omega
  have k1 : (ll.lift lplus).ht ≤ (xl.lift (xplus + lplus)).ht + 1 := by rw [Tree.ht_lift, Tree.ht_lift]; omega
  have k2 : (xl.lift (xplus + lplus)).ht ≤ (ll.lift lplus).ht + 1 := by rw [Tree.ht_lift, Tree.ht_lift]; omega
  have k3 : (xr.lift (xplus + lplus)).ht ≤ q.ht + 1 := by rw [Tree.ht_lift]; omega
  have k4 : q.ht ≤ (xr.lift (xplus + lplus)).ht + 1 := by rw [Tree.ht_lift]; omega
  have s1 : (ll.lift lplus).cells.length + lrs.length + (xl.lift (xplus + lplus)).cells.length ≤ 1073741824 := by rw [len_lift, len_lift]; omega
  have s2 : (xr.lift (xplus + lplus)).cells.length + p.rs.length + q.cells.length ≤ 1073741824 := by rw [len_lift]; omega
  have hF : (Tree.node (ll.lift lplus) lrs (lhid + lplus) (xl.lift (xplus + lplus)) 0).ht = 1 + max (ll.lift lplus).ht (xl.lift (xplus + lplus)).ht := rfl
  have hQ : (Tree.node (xr.lift (xplus + lplus)) p.rs p.hid q 0).ht = 1 + max (xr.lift (xplus + lplus)).ht q.ht := rfl
  rw [Tree.ht_lift, Tree.ht_lift] at hF
  rw [Tree.ht_lift] at hQ
  have bF := len_open (ll.lift lplus) lrs (lhid + lplus) (xl.lift (xplus + lplus)) 0
  have bQ := len_open (xr.lift (xplus + lplus)) p.rs p.hid q 0
  rw [len_lift, len_lift] at bF
  rw [len_lift] at bQ
  have k5 : (Tree.node (ll.lift lplus) lrs (lhid + lplus) (xl.lift (xplus + lplus)) 0).ht ≤ (Tree.node (xr.lift (xplus + lplus)) p.rs p.hid q 0).ht + 1 := by omega
  have k6 : (Tree.node (xr.lift (xplus + lplus)) p.rs p.hid q 0).ht ≤ (Tree.node (ll.lift lplus) lrs (lhid + lplus) (xl.lift (xplus + lplus)) 0).ht + 1 := by omega
  have s3 : (Tree.node (ll.lift lplus) lrs (lhid + lplus) (xl.lift (xplus + lplus)) 0).cells.length + xrs.length + (Tree.node (xr.lift (xplus + lplus)) p.rs p.hid q 0).cells.length ≤ 1073741824 := by omega
  have hR : (Tree.node (Tree.node (ll.lift lplus) lrs (lhid + lplus) (xl.lift (xplus + lplus)) 0) xrs (xhid + (xplus + lplus)) (Tree.node (xr.lift (xplus + lplus)) p.rs p.hid q 0) 0).ht = 1 + max (Tree.node (ll.lift lplus) lrs (lhid + lplus) (xl.lift (xplus + lplus)) 0).ht (Tree.node (xr.lift (xplus + lplus)) p.rs p.hid q 0).ht := rfl
  have h8 : q.ht + 2 ≤ (Tree.node (Tree.node (ll.lift lplus) lrs (lhid + lplus) (xl.lift (xplus + lplus)) 0) xrs (xhid + (xplus + lplus)) (Tree.node (xr.lift (xplus + lplus)) p.rs p.hid q 0) 0).ht ∧ (Tree.node (Tree.node (ll.lift lplus) lrs (lhid + lplus) (xl.lift (xplus + lplus)) 0) xrs (xhid + (xplus + lplus)) (Tree.node (xr.lift (xplus + lplus)) p.rs p.hid q 0) 0).ht ≤ q.ht + 3 := by omega
  have hcs : (Tree.node (Tree.node (ll.lift lplus) lrs (lhid + lplus) (xl.lift (xplus + lplus)) 0) xrs (xhid + (xplus + lplus)) (Tree.node (xr.lift (xplus + lplus)) p.rs p.hid q 0) 0).pcs = (Tree.node ll lrs lhid (Tree.node xl xrs xhid xr xplus) lplus).pcs ++ [(p.rs, p.hid)] ++ q.pcs := by rw [pcs_knot, pcs_knot, pcs_knot, pcs_open ll lrs lhid (Tree.node xl xrs xhid xr xplus) lplus, show (Tree.node xl xrs xhid xr xplus).lift lplus = .node xl xrs xhid xr (xplus + lplus) from rfl, pcs_open xl xrs xhid xr (xplus + lplus)]; simp only [List.append_assoc]
  have Hhcs := Lib.hid hcs
  have Hh8 := Lib.hid h8
  clear hh a1 a3 a4 a6 f1 f2 hcs h8 a2 a5 a7 hF hQ bF bQ hR
  have tok : True := trivial
  go_enter Tryd.func129, Tryd.ntmps129
  go_wp2_with fail
  refine (all_env (h.box _) hl).mono ?_
  rintro e w1 ⟨rfl, hE1⟩
  go_wp2_with fail
  refine (all_env hE1 hq).mono ?_
  rintro e w2 ⟨rfl, hE2⟩
  go_wp2_with fail
  refine (open_env hE2 hl).mono ?_
  rintro e w3 ⟨v1, v2, A3, c3, rfl, hE3⟩
  go_wp2_with fail
  refine (all_env (hE3.box _) List.mem_cons_self).mono ?_
  rintro e w4 ⟨rfl, hE4⟩
  go_wp2_with fail
  refine (all_env hE4 (List.mem_cons_of_mem _ List.mem_cons_self)).mono ?_
  rintro e w5 ⟨rfl, hE5⟩
  go_wp2_with fail
  have tok2 : True := trivial
  refine (open_env hE5 (l := xl) (r := xr) (rs := xrs) (hid := xhid) (plus := xplus + lplus) (v := v2) m1).mono ?_
  rintro e w6 ⟨v3, v4, A6, c6, rfl, hE6⟩
  have hE7 := hE6.box (.cells #[.slice A6 xrs.length c6, .int .i64 (xhid + (xplus + lplus))] 113)
  go_wp2_with fail
  have mP : (W.heap.size, p.obj) ∈ ((w6.heap.size, Pc.obj ⟨xrs, xhid + (xplus + lplus), A6, c6⟩) :: (w3.heap.size, Pc.obj ⟨lrs, lhid + lplus, A3, c3⟩) :: (W.heap.size, p.obj) :: bs : List (Nat × Obj)) := m2
  have mL : (w3.heap.size, Pc.obj ⟨lrs, lhid + lplus, A3, c3⟩) ∈ ((w6.heap.size, Pc.obj ⟨xrs, xhid + (xplus + lplus), A6, c6⟩) :: (w3.heap.size, Pc.obj ⟨lrs, lhid + lplus, A3, c3⟩) :: (W.heap.size, p.obj) :: bs : List (Nat × Obj)) := m1
  have mX : (w6.heap.size, Pc.obj ⟨xrs, xhid + (xplus + lplus), A6, c6⟩) ∈ ((w6.heap.size, Pc.obj ⟨xrs, xhid + (xplus + lplus), A6, c6⟩) :: (w3.heap.size, Pc.obj ⟨lrs, lhid + lplus, A3, c3⟩) :: (W.heap.size, p.obj) :: bs : List (Nat × Obj)) := m0
  have x00 := hE7.drew.cell0 mP
  have x01 := hE7.drew.cell1 mP
  have x10 := hE7.drew.cell0 mL
  have x11 := hE7.drew.cell1 mL
  have x20 := hE7.drew.cell0 mX
  have x21 := hE7.drew.cell1 mX
  dsimp only at x10 x11 x20 x21
  go_region_held3 (fun W' => W'.cell? ⟨W.heap.size, 0, none⟩ = some (.slice p.A p.rs.length p.c) ∧ W'.cell? ⟨W.heap.size, 1, none⟩ = some (.int .i64 (p.hid)) ∧ W'.cell? ⟨w3.heap.size, 0, none⟩ = some (.slice A3 lrs.length c3) ∧ W'.cell? ⟨w3.heap.size, 1, none⟩ = some (.int .i64 (lhid + lplus)) ∧ W'.cell? ⟨w6.heap.size, 0, none⟩ = some (.slice A6 xrs.length c6) ∧ W'.cell? ⟨w6.heap.size, 1, none⟩ = some (.int .i64 (xhid + (xplus + lplus))))
    (first | with_reducible exact ⟨x00, x01, x10, x11, x20, x21⟩ | with_reducible exact ⟨hE8.cell0 mP, hE8.cell1 mP, hE8.cell0 mL, hE8.cell1 mL, hE8.cell0 mX, hE8.cell1 mX⟩ | with_reducible exact ⟨hE9.cell0 mP, hE9.cell1 mP, hE9.cell0 mL, hE9.cell1 mL, hE9.cell0 mX, hE9.cell1 mX⟩ | with_reducible exact ⟨hE10.cell0 mP, hE10.cell1 mP, hE10.cell0 mL, hE10.cell1 mL, hE10.cell0 mX, hE10.cell1 mX⟩)
    (first
      | (go_at_call 98; clear tok; refine (knot_env hE7.drew (l := ll.lift lplus) (r := (xl.lift (xplus + lplus))) (p := ⟨lrs, lhid + lplus, A3, c3⟩) m2 m0 m1 k1 k2 s1).mono ?_; rintro e w8 ⟨v8, rfl, hE8⟩)
      | (go_at_call 98; clear tok2; refine (knot_env hE8 (l := (xr.lift (xplus + lplus))) (r := q) (p := p) m2 (u5 hq) (u2 hp) k3 k4 s2).mono ?_; rintro e w9 ⟨v9, rfl, hE9⟩)
      | (go_at_call 98; refine (knot_env hE9 (l := (Tree.node (ll.lift lplus) lrs (lhid + lplus) (xl.lift (xplus + lplus)) 0)) (r := (Tree.node (xr.lift (xplus + lplus)) p.rs p.hid q 0)) (p := ⟨xrs, xhid + (xplus + lplus), A6, c6⟩) m1 m0 m0 k5 k6 s3).mono ?_; rintro e w10 ⟨v10, rfl, hE10⟩))
  all_goals
    go_wp2
    go_ret
    exact ⟨_, v10, rfl, hE10.sub (sub_keep fun y hy => u6 hy) (fun y hy => u2 hy) (fun y hy => u3 hy), Hhcs.out, Hh8.out.1, Hh8.out.2⟩
set_option maxRecDepth 100000 in
set_option maxHeartbeats 4000000 in
theorem weigh_r2 {K : Nat → Prop} {w0 W : World} {ts : List (Tree × Value)} {ps : List Pc} {bs : List (Nat × Obj)} (h : Env K w0 W ts ps bs) {lr xl xr q : Tree} {lrs xrs : List Int} {lhid lplus xhid xplus : Int} {vl vq : Value} {p : Pc} (hl : ((Tree.node (Tree.node xl xrs xhid xr xplus) lrs lhid lr lplus), vl) ∈ ts) (hq : (q, vq) ∈ ts) (hp : p ∈ ps) (hh : (Tree.node (Tree.node xl xrs xhid xr xplus) lrs lhid lr lplus).ht = q.ht + 2) (hge : lr.ht < (Tree.node xl xrs xhid xr xplus).ht) (hsz : (Tree.node (Tree.node xl xrs xhid xr xplus) lrs lhid lr lplus).cells.length + p.rs.length + q.cells.length ≤ 1073741824) :
    Calls Tryd.prog 129 #[vq, .agg #[.slice p.A p.rs.length p.c, .int .i64 p.hid], vl] W (Made K w0 ts ps bs (q.pcs ++ [(p.rs, p.hid)] ++ (Tree.node (Tree.node xl xrs xhid xr xplus) lrs lhid lr lplus).pcs) (q.ht + 2) (q.ht + 3)) := by
  have gl : (Tree.node (Tree.node xl xrs xhid xr xplus) lrs lhid lr lplus).Good 0 := (h.t _ hl).good
  have gq : q.Good 0 := (h.t _ hq).good
  have a1 := gl.hts
  have a2 : xl.ht ≤ xr.ht + 1 ∧ xr.ht ≤ xl.ht + 1 := gl.2.2.2.2.2.2.2.1.hts
  have a3 := gq.ht_cells
  have a4 := len_open (Tree.node xl xrs xhid xr xplus) lrs lhid lr lplus
  have a5 := len_open xl xrs xhid xr xplus
  have a6 : (Tree.node (Tree.node xl xrs xhid xr xplus) lrs lhid lr lplus).ht = 1 + max (Tree.node xl xrs xhid xr xplus).ht lr.ht := rfl
  have a7 : (Tree.node xl xrs xhid xr xplus).ht = 1 + max xl.ht xr.ht := rfl
  have f1 : ((((Tree.node xl xrs xhid xr xplus).lift lplus).ht : Nat) : Int) = (((Tree.node xl xrs xhid xr xplus).ht : Nat) : Int) := by rw [Tree.ht_lift]
  have f2 : (((lr.lift lplus).ht : Nat) : Int) = ((lr.ht : Nat) : Int) := by rw [Tree.ht_lift]
  have c2 : decide ((Tree.node xl xrs xhid xr xplus).ht ≤ lr.ht) = false := by simp; omega
  have c1 : ((q.ht : Nat) : Int) + 1 < (((Tree.node (Tree.node xl xrs xhid xr xplus) lrs lhid lr lplus).ht : Nat) : Int) := by omega
  have c3 : ¬ ((((Tree.node (Tree.node xl xrs xhid xr xplus) lrs lhid lr lplus).ht : Nat) : Int) + 1 < ((q.ht : Nat) : Int)) := by omega
  have q1 : (0 : Int) ≤ ((q.ht : Nat) : Int) := by omega
  have q2 : ((q.ht : Nat) : Int) ≤ 1073741824 := by omega
  have q3 : (((Tree.node (Tree.node xl xrs xhid xr xplus) lrs lhid lr lplus).ht : Nat) : Int) ≤ 1073741826 := by omega
  have k1 : (lr.lift lplus).ht ≤ (xr.lift (xplus + lplus)).ht + 1 := by rw [Tree.ht_lift, Tree.ht_lift]; omega
  have k2 : (xr.lift (xplus + lplus)).ht ≤ (lr.lift lplus).ht + 1 := by rw [Tree.ht_lift, Tree.ht_lift]; omega
  have k3 : (xl.lift (xplus + lplus)).ht ≤ q.ht + 1 := by rw [Tree.ht_lift]; omega
  have k4 : q.ht ≤ (xl.lift (xplus + lplus)).ht + 1 := by rw [Tree.ht_lift]; omega
  have s1 : (lr.lift lplus).cells.length + lrs.length + (xr.lift (xplus + lplus)).cells.length ≤ 1073741824 := by rw [len_lift, len_lift]; omega
  have s2 : (xl.lift (xplus + lplus)).cells.length + p.rs.length + q.cells.length ≤ 1073741824 := by rw [len_lift]; omega
  have hF : (Tree.node (xr.lift (xplus + lplus)) lrs (lhid + lplus) (lr.lift lplus) 0).ht = 1 + max (xr.lift (xplus + lplus)).ht (lr.lift lplus).ht := rfl
  have hQ : (Tree.node q p.rs p.hid (xl.lift (xplus + lplus)) 0).ht = 1 + max q.ht (xl.lift (xplus + lplus)).ht := rfl
  rw [Tree.ht_lift, Tree.ht_lift] at hF
  rw [Tree.ht_lift] at hQ
  have bF := len_open (xr.lift (xplus + lplus)) lrs (lhid + lplus) (lr.lift lplus) 0
  have bQ := len_open q p.rs p.hid (xl.lift (xplus + lplus)) 0
  rw [len_lift, len_lift] at bF
  rw [len_lift] at bQ
  have k5 : (Tree.node q p.rs p.hid (xl.lift (xplus + lplus)) 0).ht ≤ (Tree.node (xr.lift (xplus + lplus)) lrs (lhid + lplus) (lr.lift lplus) 0).ht + 1 := by omega
  have k6 : (Tree.node (xr.lift (xplus + lplus)) lrs (lhid + lplus) (lr.lift lplus) 0).ht ≤ (Tree.node q p.rs p.hid (xl.lift (xplus + lplus)) 0).ht + 1 := by omega
  have s3 : (Tree.node q p.rs p.hid (xl.lift (xplus + lplus)) 0).cells.length + xrs.length + (Tree.node (xr.lift (xplus + lplus)) lrs (lhid + lplus) (lr.lift lplus) 0).cells.length ≤ 1073741824 := by omega
  have hR : (Tree.node (Tree.node q p.rs p.hid (xl.lift (xplus + lplus)) 0) xrs (xhid + (xplus + lplus)) (Tree.node (xr.lift (xplus + lplus)) lrs (lhid + lplus) (lr.lift lplus) 0) 0).ht = 1 + max (Tree.node q p.rs p.hid (xl.lift (xplus + lplus)) 0).ht (Tree.node (xr.lift (xplus + lplus)) lrs (lhid + lplus) (lr.lift lplus) 0).ht := rfl
  have h8 : q.ht + 2 ≤ (Tree.node (Tree.node q p.rs p.hid (xl.lift (xplus + lplus)) 0) xrs (xhid + (xplus + lplus)) (Tree.node (xr.lift (xplus + lplus)) lrs (lhid + lplus) (lr.lift lplus) 0) 0).ht ∧ (Tree.node (Tree.node q p.rs p.hid (xl.lift (xplus + lplus)) 0) xrs (xhid + (xplus + lplus)) (Tree.node (xr.lift (xplus + lplus)) lrs (lhid + lplus) (lr.lift lplus) 0) 0).ht ≤ q.ht + 3 := by omega
  have hcs : (Tree.node (Tree.node q p.rs p.hid (xl.lift (xplus + lplus)) 0) xrs (xhid + (xplus + lplus)) (Tree.node (xr.lift (xplus + lplus)) lrs (lhid + lplus) (lr.lift lplus) 0) 0).pcs = q.pcs ++ [(p.rs, p.hid)] ++ (Tree.node (Tree.node xl xrs xhid xr xplus) lrs lhid lr lplus).pcs := by rw [pcs_knot, pcs_knot, pcs_knot, pcs_open (Tree.node xl xrs xhid xr xplus) lrs lhid lr lplus, show (Tree.node xl xrs xhid xr xplus).lift lplus = .node xl xrs xhid xr (xplus + lplus) from rfl, pcs_open xl xrs xhid xr (xplus + lplus)]; simp only [List.append_assoc]
  have Hhcs := Lib.hid hcs
  have Hh8 := Lib.hid h8
  clear hh a1 a3 a4 a6 f1 f2 hcs h8 a2 a5 a7 hF hQ bF bQ hR
  have tok : True := trivial
  go_enter Tryd.func129, Tryd.ntmps129
  go_wp2_with fail
  refine (all_env (h.box _) hq).mono ?_
  rintro e w1 ⟨rfl, hE1⟩
  go_wp2_with fail
  refine (all_env hE1 hl).mono ?_
  rintro e w2 ⟨rfl, hE2⟩
  go_wp2_with fail
  refine (open_env hE2 hl).mono ?_
  rintro e w3 ⟨v1, v2, A3, c3, rfl, hE3⟩
  go_wp2_with fail
  refine (all_env (hE3.box _) (List.mem_cons_of_mem _ List.mem_cons_self)).mono ?_
  rintro e w4 ⟨rfl, hE4⟩
  go_wp2_with fail
  refine (all_env hE4 List.mem_cons_self).mono ?_
  rintro e w5 ⟨rfl, hE5⟩
  go_wp2_with fail
  have tok2 : True := trivial
  refine (open_env hE5 (l := xl) (r := xr) (rs := xrs) (hid := xhid) (plus := xplus + lplus) (v := v1) m0).mono ?_
  rintro e w6 ⟨v3, v4, A6, c6, rfl, hE6⟩
  have hE7 := hE6.box (.cells #[.slice A6 xrs.length c6, .int .i64 (xhid + (xplus + lplus))] 113)
  go_wp2_with fail
  have mP : (W.heap.size, p.obj) ∈ ((w6.heap.size, Pc.obj ⟨xrs, xhid + (xplus + lplus), A6, c6⟩) :: (w3.heap.size, Pc.obj ⟨lrs, lhid + lplus, A3, c3⟩) :: (W.heap.size, p.obj) :: bs : List (Nat × Obj)) := m2
  have mL : (w3.heap.size, Pc.obj ⟨lrs, lhid + lplus, A3, c3⟩) ∈ ((w6.heap.size, Pc.obj ⟨xrs, xhid + (xplus + lplus), A6, c6⟩) :: (w3.heap.size, Pc.obj ⟨lrs, lhid + lplus, A3, c3⟩) :: (W.heap.size, p.obj) :: bs : List (Nat × Obj)) := m1
  have mX : (w6.heap.size, Pc.obj ⟨xrs, xhid + (xplus + lplus), A6, c6⟩) ∈ ((w6.heap.size, Pc.obj ⟨xrs, xhid + (xplus + lplus), A6, c6⟩) :: (w3.heap.size, Pc.obj ⟨lrs, lhid + lplus, A3, c3⟩) :: (W.heap.size, p.obj) :: bs : List (Nat × Obj)) := m0
  have x00 := hE7.drew.cell0 mP
  have x01 := hE7.drew.cell1 mP
  have x10 := hE7.drew.cell0 mL
  have x11 := hE7.drew.cell1 mL
  have x20 := hE7.drew.cell0 mX
  have x21 := hE7.drew.cell1 mX
  dsimp only at x10 x11 x20 x21
  go_region_held3 (fun W' => W'.cell? ⟨W.heap.size, 0, none⟩ = some (.slice p.A p.rs.length p.c) ∧ W'.cell? ⟨W.heap.size, 1, none⟩ = some (.int .i64 (p.hid)) ∧ W'.cell? ⟨w3.heap.size, 0, none⟩ = some (.slice A3 lrs.length c3) ∧ W'.cell? ⟨w3.heap.size, 1, none⟩ = some (.int .i64 (lhid + lplus)) ∧ W'.cell? ⟨w6.heap.size, 0, none⟩ = some (.slice A6 xrs.length c6) ∧ W'.cell? ⟨w6.heap.size, 1, none⟩ = some (.int .i64 (xhid + (xplus + lplus))))
    (first | with_reducible exact ⟨x00, x01, x10, x11, x20, x21⟩ | with_reducible exact ⟨hE8.cell0 mP, hE8.cell1 mP, hE8.cell0 mL, hE8.cell1 mL, hE8.cell0 mX, hE8.cell1 mX⟩ | with_reducible exact ⟨hE9.cell0 mP, hE9.cell1 mP, hE9.cell0 mL, hE9.cell1 mL, hE9.cell0 mX, hE9.cell1 mX⟩ | with_reducible exact ⟨hE10.cell0 mP, hE10.cell1 mP, hE10.cell0 mL, hE10.cell1 mL, hE10.cell0 mX, hE10.cell1 mX⟩)
    (first
      | (go_at_call 98; clear tok; refine (knot_env hE7.drew (l := q) (r := (xl.lift (xplus + lplus))) (p := p) (u4 hq) m0 (u2 hp) k4 k3 (by omega)).mono ?_; rintro e w8 ⟨v8, rfl, hE8⟩)
      | (go_at_call 98; clear tok2; refine (knot_env hE8 (l := (xr.lift (xplus + lplus))) (r := lr.lift lplus) (p := ⟨lrs, lhid + lplus, A3, c3⟩) m2 m4 m1 k2 k1 (by show _ + lrs.length + _ ≤ _; omega)).mono ?_; rintro e w9 ⟨v9, rfl, hE9⟩)
      | (go_at_call 98; refine (knot_env hE9 (l := (Tree.node q p.rs p.hid (xl.lift (xplus + lplus)) 0)) (r := (Tree.node (xr.lift (xplus + lplus)) lrs (lhid + lplus) (lr.lift lplus) 0)) (p := ⟨xrs, xhid + (xplus + lplus), A6, c6⟩) m1 m0 m0 k5 k6 s3).mono ?_; rintro e w10 ⟨v10, rfl, hE10⟩))
  all_goals
    go_wp2
    go_ret
    exact ⟨_, v10, rfl, hE10.sub (sub_keep fun y hy => u6 hy) (fun y hy => u2 hy) (fun y hy => u3 hy), Hhcs.out, Hh8.out.1, Hh8.out.2⟩
end Go.Proofs.YteeigokkafcaaaaDoorRope.P2
end
section
namespace Go.Proofs.YteeigokkafcaaaaDoorRope.P2
open Go.RowKit Go.Proofs.YteeigokkafcaaaaDoorW.PrintWords Go.Proofs.YteeigokkafcaaaaDoorW.PrintMore Go.Proofs.YteeigokkafcaaaaDoorRope
set_option linter.unusedSimpArgs false
set_option linter.unusedVariables false
attribute [local go_sem] run_field2 run_field0
theorem Made.mono {K : Nat → Prop} {w0 : World} {ts : List (Tree × Value)} {ps : List Pc} {bs : List (Nat × Obj)} {cs : List (List Int × Int)} {lo hi lo' hi' : Nat} {e : Ending} {w' : World} (h : Made K w0 ts ps bs cs lo hi e w') (h1 : lo' ≤ lo) (h2 : hi ≤ hi') : Made K w0 ts ps bs cs lo' hi' e w' := by
  obtain ⟨t, v, he, hE, hc, a, b⟩ := h
  exact ⟨t, v, he, hE, hc, Nat.le_trans h1 a, Nat.le_trans b h2⟩
set_option maxRecDepth 100000 in
set_option maxHeartbeats 4000000 in
theorem weigh_0 {K : Nat → Prop} {w0 W : World} {ts : List (Tree × Value)} {ps : List Pc} {bs : List (Nat × Obj)} (h : Env K w0 W ts ps bs) {l r : Tree} {vl vr : Value} {p : Pc} (hl : (l, vl) ∈ ts) (hr : (r, vr) ∈ ts) (hp : p ∈ ps) (h1 : l.ht ≤ r.ht + 1) (h2 : r.ht ≤ l.ht + 1) (hsz : l.cells.length + p.rs.length + r.cells.length ≤ 1073741824) :
    Calls Tryd.prog 129 #[vl, .agg #[.slice p.A p.rs.length p.c, .int .i64 p.hid], vr] W (Made K w0 ts ps bs (l.pcs ++ [(p.rs, p.hid)] ++ r.pcs) (1 + max l.ht r.ht) (1 + max l.ht r.ht)) := by
  have gl : l.Good 0 := (h.t _ hl).good
  have gr : r.Good 0 := (h.t _ hr).good
  have a3 := gl.ht_cells
  have a4 := gr.ht_cells
  have c1 : ¬ (((r.ht : Nat) : Int) + 1 < ((l.ht : Nat) : Int)) := by omega
  have c2 : ¬ (((l.ht : Nat) : Int) + 1 < ((r.ht : Nat) : Int)) := by omega
  have q2 : ((r.ht : Nat) : Int) ≤ 1073741824 := by omega
  have q3 : ((l.ht : Nat) : Int) ≤ 1073741824 := by omega
  go_enter Tryd.func129, Tryd.ntmps129
  go_wp2_with fail
  refine (all_env (h.box (.cells #[.slice p.A p.rs.length p.c, .int .i64 p.hid] 113)) hl).mono ?_
  rintro e w1 ⟨rfl, hE1⟩
  go_wp2_with fail
  refine (all_env hE1 hr).mono ?_
  rintro e w2 ⟨rfl, hE2⟩
  have x0 := hE2.cell0 (p := p) m0
  have x1 := hE2.cell1 (p := p) m0
  go_wp2_with fail
  refine (knot_env hE2 hl hr hp h1 h2 hsz).mono ?_
  rintro e w3 ⟨v3, rfl, hE3⟩
  go_wp2_with fail
  go_ret
  exact ⟨_, v3, rfl, hE3.sub (fun y hy => hy) (fun y hy => hy) (fun y hy => u1 hy), by rw [pcs_knot], Nat.le_refl _, Nat.le_refl _⟩
theorem weigh_env {K : Nat → Prop} {w0 W : World} {ts : List (Tree × Value)} {ps : List Pc} {bs : List (Nat × Obj)} (h : Env K w0 W ts ps bs) {l r : Tree} {vl vr : Value} {p : Pc} (lo hi : Nat) (hl : (l, vl) ∈ ts) (hr : (r, vr) ∈ ts) (hp : p ∈ ps) (h1 : l.ht ≤ r.ht + 2) (h2 : r.ht ≤ l.ht + 2) (hsz : l.cells.length + p.rs.length + r.cells.length ≤ 1073741824)
    (hlo : (l.ht ≤ r.ht + 1 → r.ht ≤ l.ht + 1 → lo ≤ 1 + max l.ht r.ht) ∧ (l.ht = r.ht + 2 ∨ r.ht = l.ht + 2 → lo ≤ max l.ht r.ht)) (hhi : 1 + max l.ht r.ht ≤ hi) :
    Calls Tryd.prog 129 #[vl, .agg #[.slice p.A p.rs.length p.c, .int .i64 p.hid], vr] W (Made K w0 ts ps bs (l.pcs ++ [(p.rs, p.hid)] ++ r.pcs) lo hi) := by
  by_cases c1 : l.ht ≤ r.ht + 1
  · by_cases c2 : r.ht ≤ l.ht + 1
    · exact (weigh_0 h hl hr hp c1 c2 hsz).mono fun e w' hm => hm.mono (hlo.1 c1 c2) hhi
    · cases r with
      | nil => exact absurd (Nat.zero_le _) c2
      | node rl rs hid rr plus =>
        have e2 : (Tree.node rl rs hid rr plus).ht = l.ht + 2 := by omega
        have hlo2 := hlo.2 (.inr e2)
        by_cases c3 : rl.ht ≤ rr.ht
        · exact (weigh_r1 h hr hl hp e2 c3 (by omega)).mono fun e w' hm => hm.mono (by omega) (by omega)
        · cases rl with
          | nil => exact absurd (Nat.zero_le _) c3
          | node xl xrs xhid xr xplus => exact (weigh_r2 h hr hl hp e2 (by omega) (by omega)).mono fun e w' hm => hm.mono (by omega) (by omega)
  · cases l with
    | nil => exact absurd (Nat.zero_le _) c1
    | node ll rs hid lr plus =>
      have e2 : (Tree.node ll rs hid lr plus).ht = r.ht + 2 := by omega
      have hlo2 := hlo.2 (.inl e2)
      by_cases c3 : lr.ht ≤ ll.ht
      · exact (weigh_l1 h hl hr hp e2 c3 (by omega)).mono fun e w' hm => hm.mono (by omega) (by omega)
      · cases lr with
        | nil => exact absurd (Nat.zero_le _) c3
        | node xl xrs xhid xr xplus => exact (weigh_l2 h hl hr hp e2 (by omega) (by omega)).mono fun e w' hm => hm.mono (by omega) (by omega)
def JoinTo (n : Nat) : Prop := ∀ {K : Nat → Prop} {w0 W : World} {ts : List (Tree × Value)} {ps : List Pc} {bs : List (Nat × Obj)} (h : Env K w0 W ts ps bs) {l r : Tree} {vl vr : Value} {p : Pc} (hl : (l, vl) ∈ ts) (hr : (r, vr) ∈ ts) (hp : p ∈ ps) (hn : l.size + r.size ≤ n) (hsz : l.cells.length + p.rs.length + r.cells.length ≤ 1073741824), Calls Tryd.prog 102 #[vl, .agg #[.slice p.A p.rs.length p.c, .int .i64 p.hid], vr] W (Made K w0 ts ps bs (l.pcs ++ [(p.rs, p.hid)] ++ r.pcs) (max l.ht r.ht) (max l.ht r.ht + 1))
structure JoinW (n : Nat) (_ : Unit) (t6 : Tree) (lrs : List Int) (p : Pc) (H : Nat) (f : Tree) : Prop where
  a : f.ht ≤ t6.ht + 2
  b : t6.ht ≤ f.ht + 2
  c : f.cells.length + lrs.length + t6.cells.length ≤ 1073741824
  up : 1 + max f.ht t6.ht ≤ H + 1
  h2 : f.ht ≤ t6.ht + 1 → t6.ht ≤ f.ht + 1 → H ≤ 1 + max f.ht t6.ht
  h3 : t6.ht = f.ht + 2 ∨ f.ht = t6.ht + 2 → H ≤ max f.ht t6.ht
namespace JoinW
variable {n : Nat} {u : Unit} {t6 f : Tree} {lrs : List Int} {p : Pc} {H : Nat} (h : JoinW n u t6 lrs p H f)
include h
theorem lo : (f.ht ≤ t6.ht + 1 → t6.ht ≤ f.ht + 1 → H ≤ 1 + max f.ht t6.ht) ∧ (f.ht = t6.ht + 2 ∨ t6.ht = f.ht + 2 → H ≤ max f.ht t6.ht) := ⟨h.h2, fun c => h.h3 c.symm⟩
theorem hi : 1 + max f.ht t6.ht ≤ H + 1 := h.up
theorem c' : t6.cells.length + lrs.length + f.cells.length ≤ 1073741824 := by have := h.c; omega
theorem lo' : (t6.ht ≤ f.ht + 1 → f.ht ≤ t6.ht + 1 → H ≤ 1 + max t6.ht f.ht) ∧ (t6.ht = f.ht + 2 ∨ f.ht = t6.ht + 2 → H ≤ max t6.ht f.ht) := ⟨fun a b => by have := h.h2 b a; omega, fun c => by have := h.h3 c; omega⟩
theorem hi' : 1 + max t6.ht f.ht ≤ H + 1 := by have := h.up; omega
end JoinW
set_option maxRecDepth 100000 in
set_option maxHeartbeats 4000000 in
theorem join_l {n : Nat} (ih : JoinTo n) {K : Nat → Prop} {w0 W : World} {ts : List (Tree × Value)} {ps : List Pc} {bs : List (Nat × Obj)} (h : Env K w0 W ts ps bs) {ll lr q : Tree} {lrs : List Int} {lhid lplus : Int} {vl vq : Value} {p : Pc} (hl : ((Tree.node ll lrs lhid lr lplus), vl) ∈ ts) (hq : (q, vq) ∈ ts) (hp : p ∈ ps) (hn : (Tree.node ll lrs lhid lr lplus).size + q.size ≤ n + 1) (hh : q.ht + 1 < (Tree.node ll lrs lhid lr lplus).ht) (hsz : (Tree.node ll lrs lhid lr lplus).cells.length + p.rs.length + q.cells.length ≤ 1073741824) :
    Calls Tryd.prog 102 #[vl, .agg #[.slice p.A p.rs.length p.c, .int .i64 p.hid], vq] W (Made K w0 ts ps bs ((Tree.node ll lrs lhid lr lplus).pcs ++ [(p.rs, p.hid)] ++ q.pcs) (Tree.node ll lrs lhid lr lplus).ht ((Tree.node ll lrs lhid lr lplus).ht + 1)) := by
  have gl : (Tree.node ll lrs lhid lr lplus).Good 0 := (h.t _ hl).good
  have gq : q.Good 0 := (h.t _ hq).good
  have a1 := gl.hts
  have a3 := gq.ht_cells
  have a8 := gl.ht_cells
  have a4 := len_open ll lrs lhid lr lplus
  have a6 : (Tree.node ll lrs lhid lr lplus).ht = 1 + max ll.ht lr.ht := rfl
  have a7 : (Tree.node ll lrs lhid lr lplus).size = ll.size + 1 + lr.size := rfl
  have c1 : ((q.ht : Nat) : Int) + 1 < (((Tree.node ll lrs lhid lr lplus).ht : Nat) : Int) := by omega
  have c3 : ¬ ((((Tree.node ll lrs lhid lr lplus).ht : Nat) : Int) + 1 < ((q.ht : Nat) : Int)) := by omega
  have q2 : ((q.ht : Nat) : Int) ≤ 1073741824 := by omega
  have q3 : (((Tree.node ll lrs lhid lr lplus).ht : Nat) : Int) ≤ 1073741826 := by omega
  have n1 : (lr.lift lplus).size + q.size ≤ n := by rw [Tree.size_lift]; omega
  have s1 : (lr.lift lplus).cells.length + p.rs.length + q.cells.length ≤ 1073741824 := by rw [len_lift]; omega
  have hw : ∀ t6 : Tree, t6.cells = (lr.lift lplus).cells ++ p.cells ++ q.cells → max (lr.lift lplus).ht q.ht ≤ t6.ht → t6.ht ≤ max (lr.lift lplus).ht q.ht + 1 → JoinW n () t6 lrs p (Tree.node ll lrs lhid lr lplus).ht (ll.lift lplus) := by
    intro t6 e1 e2 e3
    have e4 : t6.cells.length = lr.cells.length + p.rs.length + q.cells.length := by rw [e1]; simp [Pc.cells, len_lift]; omega
    rw [Tree.ht_lift] at e2 e3
    refine ⟨by rw [Tree.ht_lift]; omega, by rw [Tree.ht_lift]; omega, by rw [len_lift]; omega, by rw [Tree.ht_lift]; omega, fun h3 => ?_, by rw [Tree.ht_lift]; omega⟩
    rw [Tree.ht_lift] at h3 ⊢
    omega
  have hcs : ∀ cs : List (List Int × Int), cs = (lr.lift lplus).pcs ++ [(p.rs, p.hid)] ++ q.pcs → (ll.lift lplus).pcs ++ [(lrs, lhid + lplus)] ++ cs = (Tree.node ll lrs lhid lr lplus).pcs ++ [(p.rs, p.hid)] ++ q.pcs := by
    rintro _ rfl
    rw [pcs_open ll lrs lhid lr lplus]
    simp only [List.append_assoc]
  have HW := Lib.hid hw
  have HCS := Lib.hid hcs
  clear hw hcs a1 a3 a8 a4 a6 a7 hh hn
  have tok : True := trivial
  go_enter Tryd.func102, Tryd.ntmps102
  go_wp2_with fail
  refine (all_env (h.box (.cells #[.slice p.A p.rs.length p.c, .int .i64 p.hid] 113)) hl).mono ?_
  rintro e w1 ⟨rfl, hE1⟩
  go_wp2_with fail
  refine (all_env hE1 hq).mono ?_
  rintro e w2 ⟨rfl, hE2⟩
  go_wp2_with fail
  refine (open_env hE2 hl).mono ?_
  rintro e w3 ⟨v1, v2, A3, c3, rfl, hE3⟩
  have hE5 := hE3.box (.cells #[.slice A3 lrs.length c3, .int .i64 (lhid + lplus)] 113)
  go_wp2_with fail
  have mP : (W.heap.size, p.obj) ∈ ((w3.heap.size, Pc.obj ⟨lrs, lhid + lplus, A3, c3⟩) :: (W.heap.size, p.obj) :: bs : List (Nat × Obj)) := m1
  have mL : (w3.heap.size, Pc.obj ⟨lrs, lhid + lplus, A3, c3⟩) ∈ ((w3.heap.size, Pc.obj ⟨lrs, lhid + lplus, A3, c3⟩) :: (W.heap.size, p.obj) :: bs : List (Nat × Obj)) := m0
  have x00 := hE5.drew.cell0 mP
  have x01 := hE5.drew.cell1 mP
  have x10 := hE5.drew.cell0 mL
  have x11 := hE5.drew.cell1 mL
  dsimp only at x10 x11
  go_region_held3 (fun W' => W'.cell? ⟨W.heap.size, 0, none⟩ = some (.slice p.A p.rs.length p.c) ∧ W'.cell? ⟨W.heap.size, 1, none⟩ = some (.int .i64 (p.hid)) ∧ W'.cell? ⟨w3.heap.size, 0, none⟩ = some (.slice A3 lrs.length c3) ∧ W'.cell? ⟨w3.heap.size, 1, none⟩ = some (.int .i64 (lhid + lplus)))
    (first | with_reducible exact ⟨x00, x01, x10, x11⟩ | with_reducible exact ⟨hE6.cell0 mP, hE6.cell1 mP, hE6.cell0 mL, hE6.cell1 mL⟩ | with_reducible exact ⟨hE7.cell0 mP, hE7.cell1 mP, hE7.cell0 mL, hE7.cell1 mL⟩)
    (first
      | (go_at_call 102; clear tok; refine (ih hE5.drew (l := lr.lift lplus) (r := q) (p := p) m1 (u2 hq) (u1 hp) n1 s1).mono ?_; rintro e w6 ⟨t6, v6, rfl, hE6, hc6, hlo6, hhi6⟩; have HT := Lib.hid (HW.out t6 (of_pcs hc6) hlo6 hhi6); have HC6 := Lib.hid hc6; clear hc6 hlo6 hhi6)
      | (go_at_call 129; refine (weigh_env hE6 (l := ll.lift lplus) (r := t6) (p := ⟨lrs, lhid + lplus, A3, c3⟩) (Tree.node ll lrs lhid lr lplus).ht ((Tree.node ll lrs lhid lr lplus).ht + 1) m1 m0 m0 HT.out.a HT.out.b HT.out.c HT.out.lo HT.out.hi).mono ?_; rintro e w7 ⟨t7, v7, rfl, hE7, hc7, hlo7, hhi7⟩; have HC7 := Lib.hid hc7; have HLO := Lib.hid hlo7; have HHI := Lib.hid hhi7; clear hc7 hlo7 hhi7))
  all_goals
    go_wp2
    go_ret
    exact ⟨t7, v7, rfl, hE7.sub (sub_keep fun y hy => u3 hy) (fun y hy => u1 hy) (fun y hy => u2 hy), HC7.out.trans (HCS.out _ HC6.out), HLO.out, HHI.out⟩
set_option maxRecDepth 100000 in
set_option maxHeartbeats 4000000 in
theorem join_r {n : Nat} (ih : JoinTo n) {K : Nat → Prop} {w0 W : World} {ts : List (Tree × Value)} {ps : List Pc} {bs : List (Nat × Obj)} (h : Env K w0 W ts ps bs) {ll lr q : Tree} {lrs : List Int} {lhid lplus : Int} {vl vq : Value} {p : Pc} (hl : ((Tree.node ll lrs lhid lr lplus), vl) ∈ ts) (hq : (q, vq) ∈ ts) (hp : p ∈ ps) (hn : (Tree.node ll lrs lhid lr lplus).size + q.size ≤ n + 1) (hh : q.ht + 1 < (Tree.node ll lrs lhid lr lplus).ht) (hsz : (Tree.node ll lrs lhid lr lplus).cells.length + p.rs.length + q.cells.length ≤ 1073741824) :
    Calls Tryd.prog 102 #[vq, .agg #[.slice p.A p.rs.length p.c, .int .i64 p.hid], vl] W (Made K w0 ts ps bs (q.pcs ++ [(p.rs, p.hid)] ++ (Tree.node ll lrs lhid lr lplus).pcs) (Tree.node ll lrs lhid lr lplus).ht ((Tree.node ll lrs lhid lr lplus).ht + 1)) := by
  have gl : (Tree.node ll lrs lhid lr lplus).Good 0 := (h.t _ hl).good
  have gq : q.Good 0 := (h.t _ hq).good
  have a1 := gl.hts
  have a3 := gq.ht_cells
  have a8 := gl.ht_cells
  have a4 := len_open ll lrs lhid lr lplus
  have a6 : (Tree.node ll lrs lhid lr lplus).ht = 1 + max ll.ht lr.ht := rfl
  have a7 : (Tree.node ll lrs lhid lr lplus).size = ll.size + 1 + lr.size := rfl
  have c1 : ((q.ht : Nat) : Int) + 1 < (((Tree.node ll lrs lhid lr lplus).ht : Nat) : Int) := by omega
  have c3 : ¬ ((((Tree.node ll lrs lhid lr lplus).ht : Nat) : Int) + 1 < ((q.ht : Nat) : Int)) := by omega
  have q2 : ((q.ht : Nat) : Int) ≤ 1073741824 := by omega
  have q3 : (((Tree.node ll lrs lhid lr lplus).ht : Nat) : Int) ≤ 1073741826 := by omega
  have n1 : q.size + (ll.lift lplus).size ≤ n := by rw [Tree.size_lift]; omega
  have s1 : q.cells.length + p.rs.length + (ll.lift lplus).cells.length ≤ 1073741824 := by rw [len_lift]; omega
  have hw : ∀ t6 : Tree, t6.cells = q.cells ++ p.cells ++ (ll.lift lplus).cells → max q.ht (ll.lift lplus).ht ≤ t6.ht → t6.ht ≤ max q.ht (ll.lift lplus).ht + 1 → JoinW n () t6 lrs p (Tree.node ll lrs lhid lr lplus).ht (lr.lift lplus) := by
    intro t6 e1 e2 e3
    have e4 : t6.cells.length = ll.cells.length + p.rs.length + q.cells.length := by rw [e1]; simp [Pc.cells, len_lift]; omega
    rw [Tree.ht_lift] at e2 e3
    refine ⟨by rw [Tree.ht_lift]; omega, by rw [Tree.ht_lift]; omega, by rw [len_lift]; omega, by rw [Tree.ht_lift]; omega, fun h3 => ?_, by rw [Tree.ht_lift]; omega⟩
    rw [Tree.ht_lift] at h3 ⊢
    omega
  have hcs : ∀ cs : List (List Int × Int), cs = q.pcs ++ [(p.rs, p.hid)] ++ (ll.lift lplus).pcs → cs ++ [(lrs, lhid + lplus)] ++ (lr.lift lplus).pcs = q.pcs ++ [(p.rs, p.hid)] ++ (Tree.node ll lrs lhid lr lplus).pcs := by
    rintro _ rfl
    rw [pcs_open ll lrs lhid lr lplus]
    simp only [List.append_assoc]
  have HW := Lib.hid hw
  have HCS := Lib.hid hcs
  clear hw hcs a1 a3 a8 a4 a6 a7 hh hn
  have tok : True := trivial
  go_enter Tryd.func102, Tryd.ntmps102
  go_wp2_with fail
  refine (all_env (h.box (.cells #[.slice p.A p.rs.length p.c, .int .i64 p.hid] 113)) hq).mono ?_
  rintro e w1 ⟨rfl, hE1⟩
  go_wp2_with fail
  refine (all_env hE1 hl).mono ?_
  rintro e w2 ⟨rfl, hE2⟩
  go_wp2_with fail
  refine (open_env hE2 hl).mono ?_
  rintro e w3 ⟨v1, v2, A3, c3, rfl, hE3⟩
  have hE5 := hE3.box (.cells #[.slice A3 lrs.length c3, .int .i64 (lhid + lplus)] 113)
  go_wp2_with fail
  have mP : (W.heap.size, p.obj) ∈ ((w3.heap.size, Pc.obj ⟨lrs, lhid + lplus, A3, c3⟩) :: (W.heap.size, p.obj) :: bs : List (Nat × Obj)) := m1
  have mL : (w3.heap.size, Pc.obj ⟨lrs, lhid + lplus, A3, c3⟩) ∈ ((w3.heap.size, Pc.obj ⟨lrs, lhid + lplus, A3, c3⟩) :: (W.heap.size, p.obj) :: bs : List (Nat × Obj)) := m0
  have x00 := hE5.drew.cell0 mP
  have x01 := hE5.drew.cell1 mP
  have x10 := hE5.drew.cell0 mL
  have x11 := hE5.drew.cell1 mL
  dsimp only at x10 x11
  go_region_held3 (fun W' => W'.cell? ⟨W.heap.size, 0, none⟩ = some (.slice p.A p.rs.length p.c) ∧ W'.cell? ⟨W.heap.size, 1, none⟩ = some (.int .i64 (p.hid)) ∧ W'.cell? ⟨w3.heap.size, 0, none⟩ = some (.slice A3 lrs.length c3) ∧ W'.cell? ⟨w3.heap.size, 1, none⟩ = some (.int .i64 (lhid + lplus)))
    (first | with_reducible exact ⟨x00, x01, x10, x11⟩ | with_reducible exact ⟨hE6.cell0 mP, hE6.cell1 mP, hE6.cell0 mL, hE6.cell1 mL⟩ | with_reducible exact ⟨hE7.cell0 mP, hE7.cell1 mP, hE7.cell0 mL, hE7.cell1 mL⟩)
    (first
      | (go_at_call 102; clear tok; refine (ih hE5.drew (l := q) (r := ll.lift lplus) (p := p) (u2 hq) m0 (u1 hp) n1 s1).mono ?_; rintro e w6 ⟨t6, v6, rfl, hE6, hc6, hlo6, hhi6⟩; have HT := Lib.hid (HW.out t6 (of_pcs hc6) hlo6 hhi6); have HC6 := Lib.hid hc6; clear hc6 hlo6 hhi6)
      | (go_at_call 129; refine (weigh_env hE6 (l := t6) (r := lr.lift lplus) (p := ⟨lrs, lhid + lplus, A3, c3⟩) (Tree.node ll lrs lhid lr lplus).ht ((Tree.node ll lrs lhid lr lplus).ht + 1) m0 m2 m0 HT.out.b HT.out.a HT.out.c' HT.out.lo' HT.out.hi').mono ?_; rintro e w7 ⟨t7, v7, rfl, hE7, hc7, hlo7, hhi7⟩; have HC7 := Lib.hid hc7; have HLO := Lib.hid hlo7; have HHI := Lib.hid hhi7; clear hc7 hlo7 hhi7))
  all_goals
    go_wp2
    go_ret
    exact ⟨t7, v7, rfl, hE7.sub (sub_keep fun y hy => u3 hy) (fun y hy => u1 hy) (fun y hy => u2 hy), HC7.out.trans (HCS.out _ HC6.out), HLO.out, HHI.out⟩
set_option maxRecDepth 100000 in
set_option maxHeartbeats 4000000 in
theorem join_0 {K : Nat → Prop} {w0 W : World} {ts : List (Tree × Value)} {ps : List Pc} {bs : List (Nat × Obj)} (h : Env K w0 W ts ps bs) {l r : Tree} {vl vr : Value} {p : Pc} (hl : (l, vl) ∈ ts) (hr : (r, vr) ∈ ts) (hp : p ∈ ps) (h1 : l.ht ≤ r.ht + 1) (h2 : r.ht ≤ l.ht + 1) (hsz : l.cells.length + p.rs.length + r.cells.length ≤ 1073741824) :
    Calls Tryd.prog 102 #[vl, .agg #[.slice p.A p.rs.length p.c, .int .i64 p.hid], vr] W (Made K w0 ts ps bs (l.pcs ++ [(p.rs, p.hid)] ++ r.pcs) (1 + max l.ht r.ht) (1 + max l.ht r.ht)) := by
  have gl : l.Good 0 := (h.t _ hl).good
  have gr : r.Good 0 := (h.t _ hr).good
  have a3 := gl.ht_cells
  have a4 := gr.ht_cells
  have c1 : ¬ (((r.ht : Nat) : Int) + 1 < ((l.ht : Nat) : Int)) := by omega
  have c2 : ¬ (((l.ht : Nat) : Int) + 1 < ((r.ht : Nat) : Int)) := by omega
  have q2 : ((r.ht : Nat) : Int) ≤ 1073741824 := by omega
  have q3 : ((l.ht : Nat) : Int) ≤ 1073741824 := by omega
  go_enter Tryd.func102, Tryd.ntmps102
  go_wp2_with fail
  refine (all_env (h.box (.cells #[.slice p.A p.rs.length p.c, .int .i64 p.hid] 113)) hl).mono ?_
  rintro e w1 ⟨rfl, hE1⟩
  go_wp2_with fail
  refine (all_env hE1 hr).mono ?_
  rintro e w2 ⟨rfl, hE2⟩
  have x0 := hE2.cell0 (p := p) m0
  have x1 := hE2.cell1 (p := p) m0
  go_wp2_with fail
  refine (knot_env hE2 hl hr hp h1 h2 hsz).mono ?_
  rintro e w3 ⟨v3, rfl, hE3⟩
  go_wp2_with fail
  go_ret
  exact ⟨_, v3, rfl, hE3.sub (fun y hy => hy) (fun y hy => hy) (fun y hy => u1 hy), by rw [pcs_knot], Nat.le_refl _, Nat.le_refl _⟩
theorem size_zero {t : Tree} (h : t.size = 0) : t.ht = 0 := by have := Tree.ht_le t; omega
theorem join_all : ∀ n, JoinTo n
  | 0 => by
    intro h l r vl vr p hl hr hp hn hsz
    have h1 := size_zero (t := l) (by omega)
    have h2 := size_zero (t := r) (by omega)
    exact (join_0 h hl hr hp (by omega) (by omega) hsz).mono fun e w' hm => hm.mono (by omega) (by omega)
  | n + 1 => by
    intro h l r vl vr p hl hr hp hn hsz
    by_cases c1 : r.ht + 1 < l.ht
    · cases l with
      | nil => exact absurd c1 (Nat.not_lt_zero _)
      | node ll lrs lhid lr lplus => exact (join_l (join_all n) h hl hr hp hn c1 hsz).mono fun e w' hm => hm.mono (by omega) (by omega)
    · by_cases c2 : l.ht + 1 < r.ht
      · cases r with
        | nil => exact absurd c2 (Nat.not_lt_zero _)
        | node ll lrs lhid lr lplus => exact (join_r (join_all n) h hr hl hp (by omega) c2 (by omega)).mono fun e w' hm => hm.mono (by omega) (by omega)
      · exact (join_0 h hl hr hp (by omega) (by omega) hsz).mono fun e w' hm => hm.mono (by omega) (by omega)
theorem join_env {K : Nat → Prop} {w0 W : World} {ts : List (Tree × Value)} {ps : List Pc} {bs : List (Nat × Obj)} (h : Env K w0 W ts ps bs) {l r : Tree} {vl vr : Value} {p : Pc} (hl : (l, vl) ∈ ts) (hr : (r, vr) ∈ ts) (hp : p ∈ ps) (hsz : l.cells.length + p.rs.length + r.cells.length ≤ 1073741824) : Calls Tryd.prog 102 #[vl, .agg #[.slice p.A p.rs.length p.c, .int .i64 p.hid], vr] W (Made K w0 ts ps bs (l.pcs ++ [(p.rs, p.hid)] ++ r.pcs) (max l.ht r.ht) (max l.ht r.ht + 1)) :=
  join_all _ h hl hr hp (Nat.le_refl _) hsz
end Go.Proofs.YteeigokkafcaaaaDoorRope.P2
end
section
namespace Go.Proofs.YteeigokkafcaaaaDoorRope.P2
open Go.RowKit Go.Proofs.YteeigokkafcaaaaDoorW.PrintWords Go.Proofs.YteeigokkafcaaaaDoorW.PrintMore Go.Proofs.YteeigokkafcaaaaDoorRope
set_option linter.unusedSimpArgs false
set_option linter.unusedVariables false
attribute [local go_sem] run_field2 run_field0
def Popped (K : Nat → Prop) (w0 : World) (ts : List (Tree × Value)) (ps : List Pc) (bs : List (Nat × Obj)) (cs : List (List Int × Int)) (e : Ending) (w' : World) : Prop := ∃ t v q, e = .returned (.tuple #[v, .agg #[.slice q.A q.rs.length q.c, .int .i64 q.hid]]) ∧ Env K w0 w' ((t, v) :: ts) (q :: ps) bs ∧ t.pcs ++ [(q.rs, q.hid)] = cs
def PopTo (n : Nat) : Prop := ∀ {K : Nat → Prop} {w0 W : World} {ts : List (Tree × Value)} {ps : List Pc} {bs : List (Nat × Obj)} (h : Env K w0 W ts ps bs) {l r : Tree} {rs : List Int} {hid plus : Int} {v : Value} (hm : (Tree.node l rs hid r plus, v) ∈ ts) (hn : r.size ≤ n) (hsz : (Tree.node l rs hid r plus).cells.length ≤ 1073741824), Calls Tryd.prog 103 #[v] W (Popped K w0 ts ps bs (Tree.node l rs hid r plus).pcs)
set_option maxRecDepth 100000 in
set_option maxHeartbeats 4000000 in
theorem pop_nil {K : Nat → Prop} {w0 W : World} {ts : List (Tree × Value)} {ps : List Pc} {bs : List (Nat × Obj)} (h : Env K w0 W ts ps bs) {l : Tree} {rs : List Int} {hid plus : Int} {v : Value} (hm : (Tree.node l rs hid .nil plus, v) ∈ ts) : Calls Tryd.prog 103 #[v] W (Popped K w0 ts ps bs (Tree.node l rs hid .nil plus).pcs) := by
  have hX := h.excl (.cells #[.slice none 0 0, .int .i64 0] 113)
  have hcs : (l.lift plus).pcs ++ [(rs, hid + plus)] = (Tree.node l rs hid .nil plus).pcs := by rw [pcs_open]; simp [Tree.lift, Tree.pcs]
  have HCS := Lib.hid hcs
  clear hcs
  go_enter Tryd.func103, Tryd.ntmps103
  go_wp2_with fail
  refine (open_env hX hm).mono ?_
  rintro e w3 ⟨v1, v2, A3, c3, rfl, hE3⟩
  obtain rfl : v2 = .pointer none := (hE3.t _ m1).rep
  obtain ⟨z0, z1⟩ := cells2 (hE3.b _ m0)
  obtain ⟨f0, f1⟩ := froz2 (hE3.b _ m0)
  have lP := hE3.lt m0
  have hbx := hE3.idle (.cells #[.slice A3 rs.length c3, .int .i64 (hid + plus)] 113)
  go_wp2_with fail
  go_region
  all_goals
    go_wp2
    have hss := of_set2 (u1 := .slice A3 rs.length c3) (u2 := .int .i64 (hid + plus)) z0 z1
    have hbl := ((Below.refl _ ((w3.setCell ⟨W.heap.size, 0, none⟩ (.slice A3 rs.length c3)).setCell ⟨W.heap.size, 1, none⟩ (.int .i64 (hid + plus)))).alloc (Nat.le_refl _) (.cells #[.slice A3 rs.length c3, .int .i64 (hid + plus)] 113)).drew
    have t0 := bcell hbl hss.1
    have t1 := bcell hbl hss.2
    have hF := ((hE3.set2 (u1 := .slice A3 rs.length c3) (u2 := .int .i64 (hid + plus)) (Kx.self K _) h.bel.size (bs' := bs) (fun x hx => ⟨u1 hx, Nat.ne_of_lt (new_lt (h.b x hx))⟩)).below hbl).back h.up
    exact bodyPost_ret (v := .tuple #[v1, .agg #[.slice A3 rs.length c3, .int .i64 (hid + plus)]]) (by simp [results, Tryd.results103, go_sem, t0, t1]) rfl ⟨_, v1, ⟨rs, hid + plus, A3, c3⟩, rfl, hF.sub (sub_keep fun y hy => u1 hy) (fun y hy => hy) (fun y hy => hy), HCS.out⟩
set_option maxRecDepth 100000 in
set_option maxHeartbeats 4000000 in
theorem pop_node {n : Nat} (ih : PopTo n) {K : Nat → Prop} {w0 W : World} {ts : List (Tree × Value)} {ps : List Pc} {bs : List (Nat × Obj)} (h : Env K w0 W ts ps bs) {l xl xr : Tree} {rs xrs : List Int} {hid plus xhid xplus : Int} {v : Value} (hm : ((Tree.node l rs hid (Tree.node xl xrs xhid xr xplus) plus), v) ∈ ts) (hn : (Tree.node xl xrs xhid xr xplus).size ≤ n + 1) (hsz : (Tree.node l rs hid (Tree.node xl xrs xhid xr xplus) plus).cells.length ≤ 1073741824) : Calls Tryd.prog 103 #[v] W (Popped K w0 ts ps bs (Tree.node l rs hid (Tree.node xl xrs xhid xr xplus) plus).pcs) := by
  have hX := h.excl (.cells #[.slice none 0 0, .int .i64 0] 113)
  have a4 := len_open l rs hid (Tree.node xl xrs xhid xr xplus) plus
  have a5 := len_open xl xrs xhid xr xplus
  have a6 := len_open xl xrs xhid xr (xplus + plus)
  have a7 : (Tree.node xl xrs xhid xr xplus).size = xl.size + 1 + xr.size := rfl
  have n1 : xr.size ≤ n := by omega
  have s1 : (Tree.node xl xrs xhid xr (xplus + plus)).cells.length ≤ 1073741824 := by omega
  have hs2 : ∀ (t5 : Tree) (q5 : Pc), t5.pcs ++ [(q5.rs, q5.hid)] = (Tree.node xl xrs xhid xr (xplus + plus)).pcs → (l.lift plus).cells.length + rs.length + t5.cells.length ≤ 1073741824 := by
    intro t5 q5 e
    have e1 := congrArg (fun x => (rcells x).length) e
    simp only [rcells_append, List.length_append, ← Tree.cells_pcs] at e1
    rw [len_lift]
    omega
  have hcs : ∀ (t5 : Tree) (q5 : Pc) (cs : List (List Int × Int)), t5.pcs ++ [(q5.rs, q5.hid)] = (Tree.node xl xrs xhid xr (xplus + plus)).pcs → cs = (l.lift plus).pcs ++ [(rs, hid + plus)] ++ t5.pcs → cs ++ [(q5.rs, q5.hid)] = (Tree.node l rs hid (Tree.node xl xrs xhid xr xplus) plus).pcs := by
    rintro t5 q5 _ e1 rfl
    rw [pcs_open l rs hid, show (Tree.node xl xrs xhid xr xplus).lift plus = .node xl xrs xhid xr (xplus + plus) from rfl, ← e1]
    simp only [List.append_assoc]
  have HCS := Lib.hid hcs
  have HS2 := Lib.hid hs2
  clear hcs hs2 a4 a5 a6 a7 hn
  go_enter Tryd.func103, Tryd.ntmps103
  go_wp2_with fail
  refine (open_env hX hm).mono ?_
  rintro e w3 ⟨v1, v2, A3, c3, rfl, hE3⟩
  obtain ⟨pa, _, _, _, _, rfl, _⟩ := (show Rep (Kx K W.heap.size) w3 (Tree.node xl xrs xhid xr (xplus + plus)) v2 from (hE3.t _ m1).rep)
  have hE4 := hE3.box (.cells #[.slice A3 rs.length c3, .int .i64 (hid + plus)] 113)
  go_wp2_with fail
  refine (ih hE4 (l := xl) (r := xr) (rs := xrs) (hid := xhid) (plus := xplus + plus) m1 n1 s1).mono ?_
  rintro e w5 ⟨t5, v5, q5, rfl, hE5, hc5⟩
  have S2 := HS2.out t5 q5 hc5
  have HC5 := Lib.hid hc5
  clear hc5 HS2
  have hE6 := hE5.box (.cells #[.slice q5.A q5.rs.length q5.c, .int .i64 q5.hid] 113)
  go_wp2_with fail
  have mL : (w3.heap.size, Pc.obj ⟨rs, hid + plus, A3, c3⟩) ∈ ((w5.heap.size, Pc.obj q5) :: (w3.heap.size, Pc.obj ⟨rs, hid + plus, A3, c3⟩) :: (W.heap.size, .cells #[.slice none 0 0, .int .i64 0] 113 (0, 0)) :: bs : List (Nat × Obj)) := m1
  have mQ : (w5.heap.size, Pc.obj q5) ∈ ((w5.heap.size, Pc.obj q5) :: (w3.heap.size, Pc.obj ⟨rs, hid + plus, A3, c3⟩) :: (W.heap.size, .cells #[.slice none 0 0, .int .i64 0] 113 (0, 0)) :: bs : List (Nat × Obj)) := m0
  have lP5 : W.heap.size < w5.heap.size := hE5.lt m1
  have lP3 : W.heap.size < w3.heap.size := hE3.lt m0
  have x00 := hE6.drew.cell0 mL
  have x01 := hE6.drew.cell1 mL
  have x10 := hE6.drew.cell0 mQ
  have x11 := hE6.drew.cell1 mQ
  dsimp only at x00 x01
  have nP3 : W.heap.size ≠ w3.heap.size := Nat.ne_of_lt lP3
  have nP5 : W.heap.size ≠ w5.heap.size := Nat.ne_of_lt lP5
  go_region_held3 (fun W' => W'.cell? ⟨w3.heap.size, 0, none⟩ = some (.slice A3 rs.length c3) ∧ W'.cell? ⟨w3.heap.size, 1, none⟩ = some (.int .i64 (hid + plus)) ∧ W'.cell? ⟨w5.heap.size, 0, none⟩ = some (.slice q5.A q5.rs.length q5.c) ∧ W'.cell? ⟨w5.heap.size, 1, none⟩ = some (.int .i64 (q5.hid)))
    (first | with_reducible exact ⟨x00, x01, x10, x11⟩ | with_reducible exact ⟨hE7.cell0 mL, hE7.cell1 mL, hE7.cell0 mQ, hE7.cell1 mQ⟩ | with_reducible exact ⟨cell_set2 nP3 (hE7.cell0 mL), cell_set2 nP3 (hE7.cell1 mL), cell_set2 nP5 (hE7.cell0 mQ), cell_set2 nP5 (hE7.cell1 mQ)⟩)
    (first | (go_at_call 102; refine (join_env hE6.drew (l := l.lift plus) (r := t5) (p := ⟨rs, hid + plus, A3, c3⟩) m1 m0 m1 S2).mono ?_; rintro e w7 ⟨t7, v7, rfl, hE7, hc7, hlo7, hhi7⟩; have HC7 := Lib.hid hc7; clear hc7 hlo7 hhi7; obtain ⟨z0, z1⟩ := cells2 (hE7.b _ m2); obtain ⟨f0, f1⟩ := froz2 (hE7.b _ m2)))
  all_goals
    go_wp2
    have hss := of_set2 (u1 := .slice q5.A q5.rs.length q5.c) (u2 := .int .i64 q5.hid) z0 z1
    have hF := (hE7.set2 (u1 := .slice q5.A q5.rs.length q5.c) (u2 := .int .i64 q5.hid) (Kx.self K _) h.bel.size (bs' := bs) (fun x hx => ⟨u3 hx, Nat.ne_of_lt (new_lt (h.b x hx))⟩)).back h.up
    exact bodyPost_ret (v := .tuple #[v7, .agg #[.slice q5.A q5.rs.length q5.c, .int .i64 q5.hid]]) (by simp [results, Tryd.results103, go_sem, hss.1, hss.2]) rfl ⟨t7, v7, q5, rfl, hF.sub (sub_keep fun y hy => u3 hy) (sub_keep fun y hy => u1 hy) (fun y hy => hy), HCS.out t5 q5 _ HC5.out HC7.out⟩
theorem pop_all : ∀ n, PopTo n
  | 0 => by
    intro h l r rs hid plus v hm hn hsz
    cases r with
    | nil => exact pop_nil h hm
    | node xl xrs xhid xr xplus => exact absurd hn (by simp [Tree.size])
  | n + 1 => by
    intro h l r rs hid plus v hm hn hsz
    cases r with
    | nil => exact pop_nil h hm
    | node xl xrs xhid xr xplus => exact pop_node (pop_all n) h hm hn hsz
theorem popLast_env {K : Nat → Prop} {w0 W : World} {ts : List (Tree × Value)} {ps : List Pc} {bs : List (Nat × Obj)} (h : Env K w0 W ts ps bs) {l r : Tree} {rs : List Int} {hid plus : Int} {v : Value} (hm : (Tree.node l rs hid r plus, v) ∈ ts) (hsz : (Tree.node l rs hid r plus).cells.length ≤ 1073741824) : Calls Tryd.prog 103 #[v] W (Popped K w0 ts ps bs (Tree.node l rs hid r plus).pcs) :=
  pop_all _ h hm (Nat.le_refl _) hsz
def PoppedF (K : Nat → Prop) (w0 : World) (ts : List (Tree × Value)) (ps : List Pc) (bs : List (Nat × Obj)) (cs : List (List Int × Int)) (e : Ending) (w' : World) : Prop := ∃ t v q, e = .returned (.tuple #[.agg #[.slice q.A q.rs.length q.c, .int .i64 q.hid], v]) ∧ Env K w0 w' ((t, v) :: ts) (q :: ps) bs ∧ [(q.rs, q.hid)] ++ t.pcs = cs
def PopFTo (n : Nat) : Prop := ∀ {K : Nat → Prop} {w0 W : World} {ts : List (Tree × Value)} {ps : List Pc} {bs : List (Nat × Obj)} (h : Env K w0 W ts ps bs) {l r : Tree} {rs : List Int} {hid plus : Int} {v : Value} (hm : (Tree.node l rs hid r plus, v) ∈ ts) (hn : l.size ≤ n) (hsz : (Tree.node l rs hid r plus).cells.length ≤ 1073741824), Calls Tryd.prog 104 #[v] W (PoppedF K w0 ts ps bs (Tree.node l rs hid r plus).pcs)
set_option maxRecDepth 100000 in
set_option maxHeartbeats 4000000 in
theorem popF_nil {K : Nat → Prop} {w0 W : World} {ts : List (Tree × Value)} {ps : List Pc} {bs : List (Nat × Obj)} (h : Env K w0 W ts ps bs) {r : Tree} {rs : List Int} {hid plus : Int} {v : Value} (hm : (Tree.node .nil rs hid r plus, v) ∈ ts) : Calls Tryd.prog 104 #[v] W (PoppedF K w0 ts ps bs (Tree.node .nil rs hid r plus).pcs) := by
  have hX := h.excl (.cells #[.slice none 0 0, .int .i64 0] 113)
  have hcs : [(rs, hid + plus)] ++ (r.lift plus).pcs = (Tree.node .nil rs hid r plus).pcs := by rw [pcs_open]; simp [Tree.lift, Tree.pcs]
  have HCS := Lib.hid hcs
  clear hcs
  go_enter Tryd.func104, Tryd.ntmps104
  go_wp2_with fail
  refine (open_env hX hm).mono ?_
  rintro e w3 ⟨v1, v2, A3, c3, rfl, hE3⟩
  obtain rfl : v1 = .pointer none := (hE3.t _ m0).rep
  obtain ⟨z0, z1⟩ := cells2 (hE3.b _ m0)
  obtain ⟨f0, f1⟩ := froz2 (hE3.b _ m0)
  have lP := hE3.lt m0
  have hbx := hE3.idle (.cells #[.slice A3 rs.length c3, .int .i64 (hid + plus)] 113)
  go_wp2_with fail
  all_goals
    try go_wp2
    have hss := of_set2 (u1 := .slice A3 rs.length c3) (u2 := .int .i64 (hid + plus)) z0 z1
    have hbl := ((Below.refl _ ((w3.setCell ⟨W.heap.size, 0, none⟩ (.slice A3 rs.length c3)).setCell ⟨W.heap.size, 1, none⟩ (.int .i64 (hid + plus)))).alloc (Nat.le_refl _) (.cells #[.slice A3 rs.length c3, .int .i64 (hid + plus)] 113))
    have t0 := bcell hbl hss.1
    have t1 := bcell hbl hss.2
    have hF := ((hE3.set2 (u1 := .slice A3 rs.length c3) (u2 := .int .i64 (hid + plus)) (Kx.self K _) h.bel.size (bs' := bs) (fun x hx => ⟨u1 hx, Nat.ne_of_lt (new_lt (h.b x hx))⟩)).below hbl).back h.up
    exact bodyPost_ret (v := .tuple #[.agg #[.slice A3 rs.length c3, .int .i64 (hid + plus)], v2]) (by simp [results, Tryd.results104, go_sem, t0, t1]) rfl ⟨_, v2, ⟨rs, hid + plus, A3, c3⟩, rfl, hF.sub (fun y hy => u1 (sub_keep (fun z hz => hz) y hy)) (fun y hy => hy) (fun y hy => hy), HCS.out⟩
set_option maxRecDepth 100000 in
set_option maxHeartbeats 4000000 in
theorem popF_node {n : Nat} (ih : PopFTo n) {K : Nat → Prop} {w0 W : World} {ts : List (Tree × Value)} {ps : List Pc} {bs : List (Nat × Obj)} (h : Env K w0 W ts ps bs) {r xl xr : Tree} {rs xrs : List Int} {hid plus xhid xplus : Int} {v : Value} (hm : ((Tree.node (Tree.node xl xrs xhid xr xplus) rs hid r plus), v) ∈ ts) (hn : (Tree.node xl xrs xhid xr xplus).size ≤ n + 1) (hsz : (Tree.node (Tree.node xl xrs xhid xr xplus) rs hid r plus).cells.length ≤ 1073741824) : Calls Tryd.prog 104 #[v] W (PoppedF K w0 ts ps bs (Tree.node (Tree.node xl xrs xhid xr xplus) rs hid r plus).pcs) := by
  have hX := h.excl (.cells #[.slice none 0 0, .int .i64 0] 113)
  have a4 := len_open (Tree.node xl xrs xhid xr xplus) rs hid r plus
  have a5 := len_open xl xrs xhid xr xplus
  have a6 := len_open xl xrs xhid xr (xplus + plus)
  have a7 : (Tree.node xl xrs xhid xr xplus).size = xl.size + 1 + xr.size := rfl
  have n1 : xl.size ≤ n := by omega
  have s1 : (Tree.node xl xrs xhid xr (xplus + plus)).cells.length ≤ 1073741824 := by omega
  have hs2 : ∀ (t5 : Tree) (q5 : Pc), [(q5.rs, q5.hid)] ++ t5.pcs = (Tree.node xl xrs xhid xr (xplus + plus)).pcs → t5.cells.length + rs.length + (r.lift plus).cells.length ≤ 1073741824 := by
    intro t5 q5 e
    have e1 := congrArg (fun x => (rcells x).length) e
    simp only [rcells_append, List.length_append, ← Tree.cells_pcs] at e1
    rw [len_lift]
    omega
  have hcs : ∀ (t5 : Tree) (q5 : Pc) (cs : List (List Int × Int)), [(q5.rs, q5.hid)] ++ t5.pcs = (Tree.node xl xrs xhid xr (xplus + plus)).pcs → cs = t5.pcs ++ [(rs, hid + plus)] ++ (r.lift plus).pcs → [(q5.rs, q5.hid)] ++ cs = (Tree.node (Tree.node xl xrs xhid xr xplus) rs hid r plus).pcs := by
    rintro t5 q5 _ e1 rfl
    rw [pcs_open _ rs hid r, show (Tree.node xl xrs xhid xr xplus).lift plus = .node xl xrs xhid xr (xplus + plus) from rfl, ← e1]
    simp only [List.append_assoc]
  have HCS := Lib.hid hcs
  have HS2 := Lib.hid hs2
  clear hcs hs2 a4 a5 a6 a7 hn
  go_enter Tryd.func104, Tryd.ntmps104
  go_wp2_with fail
  refine (open_env hX hm).mono ?_
  rintro e w3 ⟨v1, v2, A3, c3, rfl, hE3⟩
  obtain ⟨pa, _, _, _, _, rfl, _⟩ := (show Rep (Kx K W.heap.size) w3 (Tree.node xl xrs xhid xr (xplus + plus)) v1 from (hE3.t _ m0).rep)
  have hE4 := hE3.box (.cells #[.slice A3 rs.length c3, .int .i64 (hid + plus)] 113)
  go_wp2_with fail
  refine (ih hE4 (l := xl) (r := xr) (rs := xrs) (hid := xhid) (plus := xplus + plus) m0 n1 s1).mono ?_
  rintro e w5 ⟨t5, v5, q5, rfl, hE5, hc5⟩
  have S2 := HS2.out t5 q5 hc5
  have HC5 := Lib.hid hc5
  clear hc5 HS2
  have hE6 := hE5.box (.cells #[.slice q5.A q5.rs.length q5.c, .int .i64 q5.hid] 113)
  go_wp2_with fail
  have mL : (w3.heap.size, Pc.obj ⟨rs, hid + plus, A3, c3⟩) ∈ ((w5.heap.size, Pc.obj q5) :: (w3.heap.size, Pc.obj ⟨rs, hid + plus, A3, c3⟩) :: (W.heap.size, .cells #[.slice none 0 0, .int .i64 0] 113 (0, 0)) :: bs : List (Nat × Obj)) := m1
  have mQ : (w5.heap.size, Pc.obj q5) ∈ ((w5.heap.size, Pc.obj q5) :: (w3.heap.size, Pc.obj ⟨rs, hid + plus, A3, c3⟩) :: (W.heap.size, .cells #[.slice none 0 0, .int .i64 0] 113 (0, 0)) :: bs : List (Nat × Obj)) := m0
  have lP5 : W.heap.size < w5.heap.size := hE5.lt m1
  have lP3 : W.heap.size < w3.heap.size := hE3.lt m0
  have x00 := hE6.drew.cell0 mL
  have x01 := hE6.drew.cell1 mL
  have x10 := hE6.drew.cell0 mQ
  have x11 := hE6.drew.cell1 mQ
  dsimp only at x00 x01
  have nP3 : W.heap.size ≠ w3.heap.size := Nat.ne_of_lt lP3
  have nP5 : W.heap.size ≠ w5.heap.size := Nat.ne_of_lt lP5
  go_region_held3 (fun W' => W'.cell? ⟨w3.heap.size, 0, none⟩ = some (.slice A3 rs.length c3) ∧ W'.cell? ⟨w3.heap.size, 1, none⟩ = some (.int .i64 (hid + plus)) ∧ W'.cell? ⟨w5.heap.size, 0, none⟩ = some (.slice q5.A q5.rs.length q5.c) ∧ W'.cell? ⟨w5.heap.size, 1, none⟩ = some (.int .i64 (q5.hid)))
    (first | with_reducible exact ⟨x00, x01, x10, x11⟩ | with_reducible exact ⟨hE7.cell0 mL, hE7.cell1 mL, hE7.cell0 mQ, hE7.cell1 mQ⟩ | with_reducible exact ⟨cell_set2 nP3 (hE7.cell0 mL), cell_set2 nP3 (hE7.cell1 mL), cell_set2 nP5 (hE7.cell0 mQ), cell_set2 nP5 (hE7.cell1 mQ)⟩)
    (first | (go_at_call 102; refine (join_env hE6.drew (l := t5) (r := r.lift plus) (p := ⟨rs, hid + plus, A3, c3⟩) m0 m2 m1 S2).mono ?_; rintro e w7 ⟨t7, v7, rfl, hE7, hc7, hlo7, hhi7⟩; have HC7 := Lib.hid hc7; clear hc7 hlo7 hhi7; obtain ⟨z0, z1⟩ := cells2 (hE7.b _ m2); obtain ⟨f0, f1⟩ := froz2 (hE7.b _ m2)))
  all_goals
    go_wp2
    have hss := of_set2 (u1 := .slice q5.A q5.rs.length q5.c) (u2 := .int .i64 q5.hid) z0 z1
    have hF := (hE7.set2 (u1 := .slice q5.A q5.rs.length q5.c) (u2 := .int .i64 q5.hid) (Kx.self K _) h.bel.size (bs' := bs) (fun x hx => ⟨u3 hx, Nat.ne_of_lt (new_lt (h.b x hx))⟩)).back h.up
    exact bodyPost_ret (v := .tuple #[.agg #[.slice q5.A q5.rs.length q5.c, .int .i64 q5.hid], v7]) (by simp [results, Tryd.results104, go_sem, hss.1, hss.2]) rfl ⟨t7, v7, q5, rfl, hF.sub (sub_keep fun y hy => u3 hy) (sub_keep fun y hy => u1 hy) (fun y hy => hy), HCS.out t5 q5 _ HC5.out HC7.out⟩
theorem popF_all : ∀ n, PopFTo n
  | 0 => by
    intro h l r rs hid plus v hm hn hsz
    cases l with
    | nil => exact popF_nil h hm
    | node xl xrs xhid xr xplus => exact absurd hn (by simp [Tree.size])
  | n + 1 => by
    intro h l r rs hid plus v hm hn hsz
    cases l with
    | nil => exact popF_nil h hm
    | node xl xrs xhid xr xplus => exact popF_node (popF_all n) h hm hn hsz
theorem popFirst_env {K : Nat → Prop} {w0 W : World} {ts : List (Tree × Value)} {ps : List Pc} {bs : List (Nat × Obj)} (h : Env K w0 W ts ps bs) {l r : Tree} {rs : List Int} {hid plus : Int} {v : Value} (hm : (Tree.node l rs hid r plus, v) ∈ ts) (hsz : (Tree.node l rs hid r plus).cells.length ≤ 1073741824) : Calls Tryd.prog 104 #[v] W (PoppedF K w0 ts ps bs (Tree.node l rs hid r plus).pcs) :=
  popF_all _ h hm (Nat.le_refl _) hsz
end Go.Proofs.YteeigokkafcaaaaDoorRope.P2
end
section
namespace Go.Proofs.YteeigokkafcaaaaDoorRope
open Go.RowKit
set_option linter.unusedSimpArgs false
set_option linter.unusedVariables false
abbrev Pcl := List (List Int × Int)
def plen (x : Pcl) : Nat := (rcells x).length
theorem plen_cons (p : List Int × Int) (x : Pcl) : plen (p :: x) = p.1.length + plen x := by simp [plen, rcells_cons]
theorem plen_append (x y : Pcl) : plen (x ++ y) = plen x + plen y := by simp [plen, rcells_append]
theorem Tree.plen_pcs (t : Tree) : plen t.pcs = t.cells.length := by rw [plen, ← Tree.cells_pcs]
def ptake : Pcl → Nat → Pcl
  | [], _ => []
  | p :: t, n => if n = 0 then [] else if n < p.1.length then [(p.1.take n, p.2)] else p :: ptake t (n - p.1.length)
def pdrop : Pcl → Nat → Pcl
  | [], _ => []
  | p :: t, n => if n = 0 then p :: t else if n < p.1.length then (p.1.drop n, p.2) :: t else pdrop t (n - p.1.length)
theorem ptake_zero (x : Pcl) : ptake x 0 = [] := by cases x <;> simp [ptake]
theorem pdrop_zero (x : Pcl) : pdrop x 0 = x := by cases x <;> simp [pdrop]
theorem ptake_r : ∀ (x : Pcl) (y : Pcl) (k : Nat), (∀ p ∈ x, p.1 ≠ []) → ptake (x ++ y) (plen x + k) = x ++ ptake y k ∧ pdrop (x ++ y) (plen x + k) = pdrop y k
  | [], y, k, _ => by simp [plen, rcells]
  | p :: x, y, k, h => by
    have hp := List.length_pos_iff.2 (h p List.mem_cons_self)
    have ih := ptake_r x y k (fun q hq => h q (List.mem_cons_of_mem _ hq))
    rw [plen_cons, List.cons_append, ptake, pdrop, if_neg (by omega), if_neg (by omega), if_neg (by omega), if_neg (by omega), show p.1.length + plen x + k - p.1.length = plen x + k by omega, ih.1, ih.2]
    exact ⟨rfl, rfl⟩
theorem ptake_l : ∀ (x : Pcl) (y : Pcl) (n : Nat), n ≤ plen x → (∀ p ∈ x, p.1 ≠ []) → ptake (x ++ y) n = ptake x n ∧ pdrop (x ++ y) n = pdrop x n ++ y
  | [], y, n, hn, _ => by
    have : n = 0 := by simpa [plen, rcells] using hn
    rw [this, List.nil_append, ptake_zero, pdrop_zero]
    exact ⟨rfl, rfl⟩
  | p :: x, y, n, hn, h => by
    rw [plen_cons] at hn
    rw [List.cons_append, ptake, pdrop, ptake, pdrop]
    by_cases c : n = 0
    · rw [if_pos c, if_pos c, if_pos c, if_pos c]; exact ⟨rfl, rfl⟩
    · rw [if_neg c, if_neg c, if_neg c, if_neg c]
      by_cases c2 : n < p.1.length
      · rw [if_pos c2, if_pos c2, if_pos c2, if_pos c2]; exact ⟨rfl, rfl⟩
      · rw [if_neg c2, if_neg c2, if_neg c2, if_neg c2]
        have ih := ptake_l x y (n - p.1.length) (by omega) (fun q hq => h q (List.mem_cons_of_mem _ hq))
        rw [ih.1, ih.2]
        exact ⟨rfl, rfl⟩
theorem ptake_m (x : Pcl) (p : List Int × Int) (y : Pcl) (k : Nat) (h : ∀ p ∈ x, p.1 ≠ []) (h0 : 0 < k) (h1 : k < p.1.length) : ptake (x ++ [p] ++ y) (plen x + k) = x ++ [(p.1.take k, p.2)] ∧ pdrop (x ++ [p] ++ y) (plen x + k) = [(p.1.drop k, p.2)] ++ y := by
  have := ptake_r x ([p] ++ y) k h
  rw [← List.append_assoc] at this
  rw [this.1, this.2]
  simp [ptake, pdrop, show ¬ k = 0 by omega, h1]
theorem plen_ptake : ∀ (x : Pcl) (n : Nat), plen (ptake x n) ≤ plen x
  | [], n => Nat.le_refl _
  | p :: x, n => by
    have ih := plen_ptake x (n - p.1.length)
    rw [ptake]
    split
    · simp [plen, rcells]
    · split
      · rw [plen_cons, plen_cons]; simp [plen, rcells]; omega
      · rw [plen_cons, plen_cons]; omega
theorem plen_pdrop : ∀ (x : Pcl) (n : Nat), plen (pdrop x n) ≤ plen x
  | [], n => Nat.le_refl _
  | p :: x, n => by
    have ih := plen_pdrop x (n - p.1.length)
    rw [pdrop]
    split
    · exact Nat.le_refl _
    · split
      · rw [plen_cons, plen_cons]; simp
      · rw [plen_cons]; omega
theorem Tree.Good.pcs_ne {t : Tree} : ∀ {A : Int}, t.Good A → ∀ p ∈ t.pcs, p.1 ≠ [] := by
  induction t with
  | nil => intro A _ p hp; cases hp
  | node l rs hid r plus ihl ihr =>
    rintro A ⟨g1, _, _, _, _, _, _, h8, h9⟩ p hp
    rw [Tree.pcs] at hp
    obtain ⟨q, hq, rfl⟩ := List.mem_map.1 hp
    rcases List.mem_append.1 hq with hq | hq
    · rcases List.mem_append.1 hq with hq | hq
      · exact ihl h8 q hq
      · rw [List.mem_singleton.1 hq]; exact g1
    · exact ihr h9 q hq
end Go.Proofs.YteeigokkafcaaaaDoorRope
end
section
namespace Go.Proofs.YteeigokkafcaaaaDoorRope.P2
open Go.RowKit Go.Proofs.YteeigokkafcaaaaDoorW.PrintWords Go.Proofs.YteeigokkafcaaaaDoorW.PrintMore Go.Proofs.YteeigokkafcaaaaDoorRope
set_option linter.unusedSimpArgs false
set_option linter.unusedVariables false
attribute [local go_sem] run_field2 run_field0
def ppcs (qs : List Pc) : Pcl := qs.map fun q => (q.rs, q.hid)
theorem plen_ppcs : ∀ qs : List Pc, plen (ppcs qs) = (pcells qs).length
  | [] => rfl
  | q :: qs => by
    have := plen_ppcs qs
    rw [show ppcs (q :: qs) = (q.rs, q.hid) :: ppcs qs from rfl, plen_cons, this, show pcells (q :: qs) = q.cells ++ pcells qs from rfl, List.length_append]
    simp [Pc.cells]
theorem ppcs_split (qs : List Pc) (k : Nat) (hk : k < qs.length) : ppcs qs = ppcs (qs.take k) ++ [(qs[k].rs, qs[k].hid)] ++ ppcs (qs.drop (k + 1)) := by
  have h1 : qs = qs.take k ++ qs[k] :: qs.drop (k + 1) := by simp
  conv => lhs; rw [h1]
  simp only [ppcs, List.map_append, List.map_cons, List.append_assoc, List.singleton_append]
def BuildTo (n : Nat) : Prop := ∀ {K : Nat → Prop} {w0 W : World} {ts : List (Tree × Value)} {ps : List Pc} {bs : List (Nat × Obj)} (h : Env K w0 W ts ps bs) (qs : List Pc) (A : Option Addr) (c : Nat) (hq : ∀ q ∈ qs, q ∈ ps) (hA : PcsAt W A qs) (hc : qs.length ≤ c) (hn : qs.length ≤ n) (hsz : (pcells qs).length ≤ 1073741824) (hl : qs.length ≤ 1073741824), Calls Tryd.prog 57 #[.slice A qs.length c] W (Made K w0 ts ps bs (ppcs qs) (hgt qs.length) (hgt qs.length))
set_option maxRecDepth 100000 in
set_option maxHeartbeats 4000000 in
theorem build_nil {K : Nat → Prop} {w0 W : World} {ts : List (Tree × Value)} {ps : List Pc} {bs : List (Nat × Obj)} (h : Env K w0 W ts ps bs) (A : Option Addr) (c : Nat) : Calls Tryd.prog 57 #[.slice A 0 c] W (Made K w0 ts ps bs (ppcs []) (hgt 0) (hgt 0)) := by
  go_enter Tryd.func57, Tryd.ntmps57
  go_wp2
  go_ret
  exact ⟨.nil, .pointer none, rfl, h.nilT, rfl, Nat.le_refl _, Nat.le_refl _⟩
set_option maxRecDepth 100000 in
set_option maxHeartbeats 4000000 in
theorem build_node {n : Nat} (ih : BuildTo n) {K : Nat → Prop} {w0 W : World} {ts : List (Tree × Value)} {ps : List Pc} {bs : List (Nat × Obj)} (h : Env K w0 W ts ps bs) (qs : List Pc) (A : Option Addr) (c : Nat) (hq : ∀ q ∈ qs, q ∈ ps) (hA : PcsAt W A qs) (hc : qs.length ≤ c) (hn : qs.length ≤ n + 1) (hsz : (pcells qs).length ≤ 1073741824) (hl : qs.length ≤ 1073741824) (h0 : 0 < qs.length) : Calls Tryd.prog 57 #[.slice A qs.length c] W (Made K w0 ts ps bs (ppcs qs) (hgt qs.length) (hgt qs.length)) := by
  obtain ⟨m, hm⟩ : ∃ m, m = qs.length := ⟨_, rfl⟩
  obtain ⟨k, hk⟩ : ∃ k, k = m / 2 := ⟨_, rfl⟩
  have kl : k < qs.length := by omega
  have km : k < m := by omega
  obtain ⟨g, o, rfl, x0, x1⟩ := hA k kl
  have hps := pcells_split qs k kl
  have hpp := ppcs_split qs k kl
  have hz := hgt_halves h0
  have hs := hgt_step h0
  have hlen : (pcells (qs.take k)).length + qs[k].rs.length + (pcells (qs.drop (k + 1))).length = (pcells qs).length := by rw [hps]; simp only [List.length_append, Pc.cells, List.length_map]
  obtain ⟨q, hqe⟩ : ∃ q, q = qs[k] := ⟨_, rfl⟩
  have hqm : q ∈ ps := by rw [hqe]; exact hq _ (List.getElem_mem kl)
  rw [← hqe] at x0 x1 hps hlen hpp
  have ekc : (c = k) = False := by simp; omega
  have T1 := hA.take k
  have D1 := hA.drop (k + 1) c hc
  have eT : (qs.take k).length = k := by rw [List.length_take]; omega
  have eD : (qs.drop (k + 1)).length = m - (k + 1) := by rw [List.length_drop, hm]
  have q1 : ∀ q ∈ qs.take k, q ∈ ps := fun q h => hq q (List.mem_of_mem_take h)
  have q2 : ∀ q ∈ qs.drop (k + 1), q ∈ ps := fun q h => hq q (List.mem_of_mem_drop h)
  obtain ⟨A2, hA2⟩ : ∃ A2, A2 = (if c = k + 1 then some ⟨g, o, none⟩ else (some (⟨g, o, none⟩ : Addr)).map (·.add ((k + 1) * 2))) := ⟨_, rfl⟩
  rw [← hA2] at D1
  have J1 : ∀ {W' : World} (h' : Env K W W' ts ps bs), Below W.heap.size W W' → Calls Tryd.prog 57 #[.slice (some ⟨g, o, none⟩) k c] W' (Made K W ts ps bs (ppcs (qs.take k)) (hgt k) (hgt k)) := fun h' hb => by
    have := ih h' (qs.take k) (some ⟨g, o, none⟩) c q1 (T1.below hb) (by omega) (by omega) (by omega) (by omega)
    rwa [eT] at this
  have J2 : ∀ {W' : World} {ts' : List (Tree × Value)} (h' : Env K W W' ts' ps bs), Below W.heap.size W W' → Calls Tryd.prog 57 #[.slice A2 (m - (k + 1)) (c - (k + 1))] W' (Made K W ts' ps bs (ppcs (qs.drop (k + 1))) (hgt (m - (k + 1))) (hgt (m - (k + 1)))) := fun h' hb => by
    have := ih h' (qs.drop (k + 1)) A2 (c - (k + 1)) q2 (D1.below hb) (by omega) (by omega) (by omega) (by omega)
    rwa [eD] at this
  rw [← hm] at hz hs hc hn hl h0 ⊢
  rw [← hk] at hz hs
  have e2 : (m : Int) / 2 = (k : Int) := by rw [hk]; omega
  have E2 := Lib.hid e2
  have kb : (k : Int) ≤ 1073741824 := by omega
  have k0 : (0 : Int) ≤ (k : Int) := by omega
  have cut1 := cut_to (P := Tryd.prog) 101 113 .i64 (i := _) rfl rfl (some ⟨g, o, none⟩) m c (k : Int) k0 (by omega) (by omega)
  have cut2 := cut_from (P := Tryd.prog) 101 113 .i64 (i := _) rfl rfl 2 rfl (some ⟨g, o, none⟩) m c ((k : Int) + 1) (by omega) (by omega)
  have ek : ((k : Int) + 1).toNat = k + 1 := by omega
  rw [ek, ← hA2] at cut2
  rw [Int.toNat_natCast] at cut1
  have wk : IntKind.i64.wrap ((k : Int) + 1) = (k : Int) + 1 := (IntWalk.i64_left _).trans (w64 (by omega) (by omega))
  have k1m : (k : Int) + 1 ≤ (m : Int) := by omega
  have k1z : (0 : Int) ≤ (k : Int) + 1 := by omega
  have k2m : (k : Int) < (m : Int) := by omega
  have m0' : decide ((m : Int) = 0) = false := by simp; omega
  clear eT eD T1 D1 hq hqe hA hA2 ekc ek q1 q2 hm hk e2
  have HPS := Lib.hid hpp
  clear hps hpp
  go_enter Tryd.func57, Tryd.ntmps57
  go_wp2_with fail
  rw [E2.out]
  have tok : True := trivial
  have y0 : W.drew.cell? ⟨g, o + k * 2, none⟩ = some (.slice q.A q.rs.length q.c) := x0
  have y1 : W.drew.cell? ⟨g, o + k * 2 + 1, none⟩ = some (.int .i64 q.hid) := x1
  have hW : Env K W W ts ps bs := ⟨h.t, h.p, h.b, Below.refl _ W, h.up⟩
  go_region_held3 (fun W' => W'.cell? ⟨g, o + k * 2, none⟩ = some (.slice q.A q.rs.length q.c) ∧ W'.cell? ⟨g, o + k * 2 + 1, none⟩ = some (.int .i64 q.hid))
    (first | with_reducible exact ⟨y0, y1⟩ | with_reducible exact ⟨pw_cell_below hE6b x0, pw_cell_below hE6b x1⟩ | with_reducible exact ⟨pw_cell_below hE7b x0, pw_cell_below hE7b x1⟩ | with_reducible exact ⟨pw_cell_below hE8b x0, pw_cell_below hE8b x1⟩ | fail)
    (first
      | (go_at_call 57; clear tok; refine (J1 hW.drew (Below.refl _ W).drew).mono ?_; rintro e w6 ⟨t6, v6, rfl, hE6, hc6, hlo6, hhi6⟩; have hE6b := hE6.bel)
      | (go_at_call 57; refine (J2 hE6 hE6b).mono ?_; rintro e w7 ⟨t7, v7, rfl, hE7, hc7, hlo7, hhi7⟩; have hE7b := hE7.bel)
      | (go_at_call 98; refine (knot_env hE7 (l := t6) (r := t7) (p := q) m1 m0 hqm (by omega) (by omega) (by rw [← Tree.plen_pcs, ← Tree.plen_pcs, hc6, hc7, plen_ppcs, plen_ppcs]; omega)).mono ?_; rintro e w8 ⟨v8, rfl, hE8⟩; have hE8b := hE8.bel))
  all_goals
    go_wp2
    go_ret
    refine ⟨.node t6 q.rs q.hid t7 0, v8, rfl, ?_, ?_, ?_, ?_⟩
    · exact (show Env K w0 w8 _ ps bs from ⟨hE8.t, hE8.p, hE8.b, h.bel.trans (hE8.bel.mono h.bel.size), hE8.up⟩).sub (sub_keep fun y hy => u2 hy) (fun y hy => hy) (fun y hy => hy)
    · rw [pcs_knot, hc6, hc7, HPS.out]
    · show hgt m ≤ 1 + max t6.ht t7.ht; omega
    · show 1 + max t6.ht t7.ht ≤ hgt m; omega
theorem build_all : ∀ n, BuildTo n
  | 0 => by
    intro h qs A c hq hA hc hn hsz hl
    obtain rfl : qs = [] := List.eq_nil_of_length_eq_zero (Nat.le_zero.1 hn)
    exact build_nil h A c
  | n + 1 => by
    intro h qs A c hq hA hc hn hsz hl
    by_cases h0 : qs.length = 0
    · obtain rfl : qs = [] := List.eq_nil_of_length_eq_zero h0
      exact build_nil h A c
    · exact build_node (build_all n) h qs A c hq hA hc hn hsz hl (Nat.pos_of_ne_zero h0)
theorem build_env {K : Nat → Prop} {w0 W : World} {ts : List (Tree × Value)} {ps : List Pc} {bs : List (Nat × Obj)} (h : Env K w0 W ts ps bs) {qs : List Pc} {A : Option Addr} {c : Nat} (hq : ∀ q ∈ qs, q ∈ ps) (hA : PcsAt W A qs) (hc : qs.length ≤ c) (hsz : (pcells qs).length ≤ 1073741824) (hl : qs.length ≤ 1073741824) : Calls Tryd.prog 57 #[.slice A qs.length c] W (Made K w0 ts ps bs (ppcs qs) (hgt qs.length) (hgt qs.length)) :=
  build_all _ h qs A c hq hA hc (Nat.le_refl _) hsz hl
end Go.Proofs.YteeigokkafcaaaaDoorRope.P2
end
section
namespace Go.Proofs.YteeigokkafcaaaaDoorRope.P2
open Go.RowKit Go.Proofs.YteeigokkafcaaaaDoorW.PrintWords Go.Proofs.YteeigokkafcaaaaDoorW.PrintMore Go.Proofs.YteeigokkafcaaaaDoorRope
set_option linter.unusedSimpArgs false
set_option linter.unusedVariables false
attribute [local go_sem] run_field2 run_field0
def Split (K : Nat → Prop) (w0 : World) (ts : List (Tree × Value)) (ps : List Pc) (bs : List (Nat × Obj)) (cs : Pcl) (n : Nat) (e : Ending) (w' : World) : Prop := ∃ a b va vb, e = .returned (.tuple #[va, vb]) ∧ Env K w0 w' ((a, va) :: (b, vb) :: ts) ps bs ∧ a.pcs = ptake cs n ∧ b.pcs = pdrop cs n
def SplitTo (n : Nat) : Prop := ∀ {K : Nat → Prop} {w0 W : World} {ts : List (Tree × Value)} {ps : List Pc} {bs : List (Nat × Obj)} (h : Env K w0 W ts ps bs) {t : Tree} {v : Value} (hm : (t, v) ∈ ts) (hn : t.size ≤ n) (at_ : Nat) (ha : at_ ≤ t.cells.length) (hsz : t.cells.length ≤ 536870912), Calls Tryd.prog 72 #[v, .int .i64 (at_ : Int)] W (Split K w0 ts ps bs t.pcs at_)
theorem split_nil {K : Nat → Prop} {w0 W : World} {ts : List (Tree × Value)} {ps : List Pc} {bs : List (Nat × Obj)} (h : Env K w0 W ts ps bs) (a : Int) : Calls Tryd.prog 72 #[.pointer none, .int .i64 a] W (Split K w0 ts ps bs [] 0) := by
  go_enter Tryd.func72, Tryd.ntmps72
  go_wp2
  go_ret2
  exact ⟨.nil, .nil, .pointer none, .pointer none, rfl, h.nilT.nilT, rfl, rfl⟩
set_option maxRecDepth 100000 in
set_option maxHeartbeats 4000000 in
theorem split_l {n : Nat} (ih : SplitTo n) {K : Nat → Prop} {w0 W : World} {ts : List (Tree × Value)} {ps : List Pc} {bs : List (Nat × Obj)} (h : Env K w0 W ts ps bs) {l r : Tree} {rs : List Int} {hid plus : Int} {v : Value} (hm : ((Tree.node l rs hid r plus), v) ∈ ts) (hn : (Tree.node l rs hid r plus).size ≤ n + 1) (at_ : Nat) (ha : at_ ≤ (Tree.node l rs hid r plus).cells.length) (hsz : (Tree.node l rs hid r plus).cells.length ≤ 536870912) (hc : at_ ≤ l.cells.length) : Calls Tryd.prog 72 #[v, .int .i64 (at_ : Int)] W (Split K w0 ts ps bs (Tree.node l rs hid r plus).pcs at_) := by
  obtain ⟨pa, _, _, _, _, rfl, _⟩ := (show Rep K W (Tree.node l rs hid r plus) v from (h.t _ hm).rep)
  have a4 := len_open l rs hid r plus
  have a7 : (Tree.node l rs hid r plus).size = l.size + 1 + r.size := rfl
  have b1 : (l.lift plus).cells.length = l.cells.length := len_lift l plus
  have b2 : (r.lift plus).cells.length = r.cells.length := len_lift r plus
  have hco := pcs_open l rs hid r plus
  have hgl : ∀ p ∈ (l.lift plus).pcs, p.1 ≠ [] := fun p hp => (h.t _ hm).good.pcs_ne p (by rw [pcs_open]; exact List.mem_append_left _ (List.mem_append_left _ hp))
  have hglr : ∀ p ∈ (l.lift plus).pcs ++ [(rs, hid + plus)], p.1 ≠ [] := fun p hp => (h.t _ hm).good.pcs_ne p (by rw [pcs_open]; exact List.mem_append_left _ hp)
  have n1 : (l.lift plus).size ≤ n := by rw [Tree.size_lift]; omega
  have c1 : decide (at_ ≤ (l.lift plus).cells.length) = true := by simp; omega
  have l1 : at_ ≤ (l.lift plus).cells.length := by omega
  have s1 : (l.lift plus).cells.length ≤ 536870912 := by omega
  have s2 : ∀ b : Tree, b.pcs = pdrop (l.lift plus).pcs at_ → b.cells.length + rs.length + (r.lift plus).cells.length ≤ 1073741824 := fun b e => by have := plen_pdrop (l.lift plus).pcs at_; rw [← e, Tree.plen_pcs, Tree.plen_pcs] at this; omega
  have hcs : ∀ (a b : Tree) (cs : Pcl), a.pcs = ptake (l.lift plus).pcs at_ → b.pcs = pdrop (l.lift plus).pcs at_ → cs = b.pcs ++ [(rs, hid + plus)] ++ (r.lift plus).pcs → a.pcs = ptake (Tree.node l rs hid r plus).pcs at_ ∧ cs = pdrop (Tree.node l rs hid r plus).pcs at_ := by
    rintro a b _ e1 e2 rfl
    obtain ⟨g1, g2⟩ := ptake_l (l.lift plus).pcs ([(rs, hid + plus)] ++ (r.lift plus).pcs) at_ (by rw [Tree.plen_pcs]; exact l1) hgl
    rw [hco, e1, e2, List.append_assoc, List.append_assoc, g1, g2]
    exact ⟨rfl, rfl⟩
  have HCS := Lib.hid hcs
  have S2 := Lib.hid s2
  clear hcs s2 hco hgl hglr a4 a7 b1 b2 hn ha hc
  go_enter Tryd.func72, Tryd.ntmps72
  go_wp2_with fail
  refine (open_env h hm).mono ?_
  rintro e w3 ⟨v1, v2, A3, c3, rfl, hE3⟩
  have hE4 := hE3.box (.cells #[.slice A3 rs.length c3, .int .i64 (hid + plus)] 113)
  go_wp2_with fail
  refine (all_len hE4 m0).mono ?_
  rintro e w5 ⟨y1, y2, y3, y4, y5, rfl, hE5⟩
  have x00 := hE5.cell0 (p := ⟨rs, hid + plus, A3, c3⟩) m0
  have x01 := hE5.cell1 (p := ⟨rs, hid + plus, A3, c3⟩) m0
  dsimp only at x00 x01
  go_wp2_with fail
  refine (ih hE5 m0 n1 at_ l1 s1).mono ?_
  rintro e w6 ⟨a, b, va, vb, rfl, hE6, ha6, hb6⟩
  have S2' := S2.out b hb6
  have HA6 := Lib.hid ha6
  have HB6 := Lib.hid hb6
  clear ha6 hb6
  have z0 := hE6.cell0 (p := ⟨rs, hid + plus, A3, c3⟩) m0
  have z1 := hE6.cell1 (p := ⟨rs, hid + plus, A3, c3⟩) m0
  dsimp only at z0 z1
  go_wp2_with fail
  refine (join_env hE6 (l := b) (r := r.lift plus) (p := ⟨rs, hid + plus, A3, c3⟩) m1 m3 m0 S2').mono ?_
  rintro e w7 ⟨t7, v7, rfl, hE7, hc7, hlo7, hhi7⟩
  have HF := Lib.hid (HCS.out a b t7.pcs HA6.out HB6.out hc7)
  clear hc7 hlo7 hhi7
  go_wp2_with fail
  go_ret2
  exact ⟨a, t7, va, v7, rfl, hE7.sub (fun y hy => by rcases List.mem_cons.1 hy with rfl | hy; exact m1; exact sub_keep (fun z hz => u4 hz) y hy) (fun y hy => u1 hy) (fun y hy => u1 hy), HF.out.1, HF.out.2⟩
set_option maxRecDepth 100000 in
set_option maxHeartbeats 4000000 in
theorem split_r {n : Nat} (ih : SplitTo n) {K : Nat → Prop} {w0 W : World} {ts : List (Tree × Value)} {ps : List Pc} {bs : List (Nat × Obj)} (h : Env K w0 W ts ps bs) {l r : Tree} {rs : List Int} {hid plus : Int} {v : Value} (hm : ((Tree.node l rs hid r plus), v) ∈ ts) (hn : (Tree.node l rs hid r plus).size ≤ n + 1) (at_ : Nat) (ha : at_ ≤ (Tree.node l rs hid r plus).cells.length) (hsz : (Tree.node l rs hid r plus).cells.length ≤ 536870912) (hc : l.cells.length + rs.length ≤ at_) : Calls Tryd.prog 72 #[v, .int .i64 (at_ : Int)] W (Split K w0 ts ps bs (Tree.node l rs hid r plus).pcs at_) := by
  obtain ⟨pa, _, _, _, _, rfl, _⟩ := (show Rep K W (Tree.node l rs hid r plus) v from (h.t _ hm).rep)
  have a4 := len_open l rs hid r plus
  have a7 : (Tree.node l rs hid r plus).size = l.size + 1 + r.size := rfl
  have b1 : (l.lift plus).cells.length = l.cells.length := len_lift l plus
  have b2 : (r.lift plus).cells.length = r.cells.length := len_lift r plus
  have hco := pcs_open l rs hid r plus
  have hgl : ∀ p ∈ (l.lift plus).pcs, p.1 ≠ [] := fun p hp => (h.t _ hm).good.pcs_ne p (by rw [pcs_open]; exact List.mem_append_left _ (List.mem_append_left _ hp))
  have hglr : ∀ p ∈ (l.lift plus).pcs ++ [(rs, hid + plus)], p.1 ≠ [] := fun p hp => (h.t _ hm).good.pcs_ne p (by rw [pcs_open]; exact List.mem_append_left _ hp)
  have n1 : (r.lift plus).size ≤ n := by rw [Tree.size_lift]; omega
  have hne : rs ≠ [] := (show (Tree.node l rs hid r plus).Good 0 from (h.t _ hm).good).1
  have hne2 : rs.length ≠ 0 := fun e => hne (List.eq_nil_of_length_eq_zero e)
  have c1 : decide (at_ ≤ (l.lift plus).cells.length) = false := by simp; omega
  obtain ⟨k, hk⟩ : ∃ k, at_ = (l.lift plus).cells.length + rs.length + k := ⟨at_ - ((l.lift plus).cells.length + rs.length), by omega⟩
  have c2 : ((l.lift plus).cells.length : Int) + (rs.length : Int) ≤ (at_ : Int) := by omega
  have c4 : (at_ : Int) ≤ 536870912 := by omega
  have l1 : k ≤ (r.lift plus).cells.length := by omega
  have s1 : (r.lift plus).cells.length ≤ 536870912 := by omega
  have c5 : (at_ : Int) - ((l.lift plus).cells.length : Int) - (rs.length : Int) = (k : Int) := by omega
  have s2 : ∀ a : Tree, a.pcs = ptake (r.lift plus).pcs k → (l.lift plus).cells.length + rs.length + a.cells.length ≤ 1073741824 := fun a e => by have := plen_ptake (r.lift plus).pcs k; rw [← e, Tree.plen_pcs, Tree.plen_pcs] at this; omega
  have hcs : ∀ (a b : Tree) (cs : Pcl), a.pcs = ptake (r.lift plus).pcs k → b.pcs = pdrop (r.lift plus).pcs k → cs = (l.lift plus).pcs ++ [(rs, hid + plus)] ++ a.pcs → cs = ptake (Tree.node l rs hid r plus).pcs at_ ∧ b.pcs = pdrop (Tree.node l rs hid r plus).pcs at_ := by
    rintro a b _ e1 e2 rfl
    have e3 : at_ = plen ((l.lift plus).pcs ++ [(rs, hid + plus)]) + k := by rw [plen_append, Tree.plen_pcs, plen_cons]; simp [plen, rcells]; omega
    obtain ⟨g1, g2⟩ := ptake_r ((l.lift plus).pcs ++ [(rs, hid + plus)]) (r.lift plus).pcs k hglr
    rw [hco, e1, e2, e3, g1, g2]
    exact ⟨rfl, rfl⟩
  have HCS := Lib.hid hcs
  have S2 := Lib.hid s2
  have HC5 := Lib.hid c5
  clear hcs s2 hco hgl hglr a4 a7 b1 b2 hn ha hc hk c5
  go_enter Tryd.func72, Tryd.ntmps72
  go_wp2_with fail
  refine (open_env h hm).mono ?_
  rintro e w3 ⟨v1, v2, A3, c3, rfl, hE3⟩
  have hE4 := hE3.box (.cells #[.slice A3 rs.length c3, .int .i64 (hid + plus)] 113)
  go_wp2_with fail
  refine (all_len hE4 m0).mono ?_
  rintro e w5 ⟨y1, y2, y3, y4, y5, rfl, hE5⟩
  have x00 := hE5.cell0 (p := ⟨rs, hid + plus, A3, c3⟩) m0
  have x01 := hE5.cell1 (p := ⟨rs, hid + plus, A3, c3⟩) m0
  dsimp only at x00 x01
  go_wp2_with fail
  rw [HC5.out]
  refine (ih hE5 m1 n1 k l1 s1).mono ?_
  rintro e w6 ⟨a, b, va, vb, rfl, hE6, ha6, hb6⟩
  have S2' := S2.out a ha6
  have HA6 := Lib.hid ha6
  have HB6 := Lib.hid hb6
  clear ha6 hb6
  have z0 := hE6.cell0 (p := ⟨rs, hid + plus, A3, c3⟩) m0
  have z1 := hE6.cell1 (p := ⟨rs, hid + plus, A3, c3⟩) m0
  dsimp only at z0 z1
  go_wp2_with fail
  refine (join_env hE6 (l := l.lift plus) (r := a) (p := ⟨rs, hid + plus, A3, c3⟩) m2 m0 m0 S2').mono ?_
  rintro e w7 ⟨t7, v7, rfl, hE7, hc7, hlo7, hhi7⟩
  have HF := Lib.hid (HCS.out a b t7.pcs HA6.out HB6.out hc7)
  clear hc7 hlo7 hhi7
  go_wp2_with fail
  go_ret2
  exact ⟨t7, b, v7, vb, rfl, hE7.sub (fun y hy => by rcases List.mem_cons.1 hy with rfl | hy; exact m0; rcases List.mem_cons.1 hy with rfl | hy; exact m2; exact u5 hy) (fun y hy => u1 hy) (fun y hy => u1 hy), HF.out.1, HF.out.2⟩
set_option maxRecDepth 100000 in
set_option maxHeartbeats 4000000 in
theorem split_m {n : Nat} (ih : SplitTo n) {K : Nat → Prop} {w0 W : World} {ts : List (Tree × Value)} {ps : List Pc} {bs : List (Nat × Obj)} (h : Env K w0 W ts ps bs) {l r : Tree} {rs : List Int} {hid plus : Int} {v : Value} (hm : ((Tree.node l rs hid r plus), v) ∈ ts) (hn : (Tree.node l rs hid r plus).size ≤ n + 1) (at_ : Nat) (ha : at_ ≤ (Tree.node l rs hid r plus).cells.length) (hsz : (Tree.node l rs hid r plus).cells.length ≤ 536870912) (hc : l.cells.length < at_ ∧ at_ < l.cells.length + rs.length) : Calls Tryd.prog 72 #[v, .int .i64 (at_ : Int)] W (Split K w0 ts ps bs (Tree.node l rs hid r plus).pcs at_) := by
  obtain ⟨pa, _, _, _, _, rfl, _⟩ := (show Rep K W (Tree.node l rs hid r plus) v from (h.t _ hm).rep)
  have a4 := len_open l rs hid r plus
  have a7 : (Tree.node l rs hid r plus).size = l.size + 1 + r.size := rfl
  have b1 : (l.lift plus).cells.length = l.cells.length := len_lift l plus
  have b2 : (r.lift plus).cells.length = r.cells.length := len_lift r plus
  have hco := pcs_open l rs hid r plus
  have hgl : ∀ p ∈ (l.lift plus).pcs, p.1 ≠ [] := fun p hp => (h.t _ hm).good.pcs_ne p (by rw [pcs_open]; exact List.mem_append_left _ (List.mem_append_left _ hp))
  have hglr : ∀ p ∈ (l.lift plus).pcs ++ [(rs, hid + plus)], p.1 ≠ [] := fun p hp => (h.t _ hm).good.pcs_ne p (by rw [pcs_open]; exact List.mem_append_left _ hp)
  obtain ⟨hc1, hc2⟩ := hc
  have c1 : decide (at_ ≤ (l.lift plus).cells.length) = false := by simp; omega
  obtain ⟨k, hk⟩ : ∃ k, at_ = (l.lift plus).cells.length + k := ⟨at_ - (l.lift plus).cells.length, by omega⟩
  have c2 : decide (((l.lift plus).cells.length : Int) + (rs.length : Int) ≤ (at_ : Int)) = false := by simp; omega
  have c4 : (at_ : Int) ≤ 536870912 := by omega
  have k0 : 0 < k := by omega
  have k1 : k < rs.length := by omega
  have c5 : (at_ : Int) - ((l.lift plus).cells.length : Int) = (k : Int) := by omega
  have b3 : ((l.lift plus).cells.length : Int) ≤ 536870912 := by omega
  have b4 : (rs.length : Int) ≤ 536870912 := by omega
  have s1 : (l.lift plus).cells.length + (rs.take k).length + (Tree.nil).cells.length ≤ 1073741824 := by rw [List.length_take]; simp [Tree.cells]; omega
  have s2 : (Tree.nil).cells.length + (rs.drop k).length + (r.lift plus).cells.length ≤ 1073741824 := by rw [List.length_drop]; simp [Tree.cells]; omega
  have hcs : ∀ (a b : Pcl), a = (l.lift plus).pcs ++ [(rs.take k, hid + plus)] ++ Tree.nil.pcs → b = Tree.nil.pcs ++ [(rs.drop k, hid + plus)] ++ (r.lift plus).pcs → a = ptake (Tree.node l rs hid r plus).pcs at_ ∧ b = pdrop (Tree.node l rs hid r plus).pcs at_ := by
    rintro _ _ rfl rfl
    obtain ⟨g1, g2⟩ := ptake_m (l.lift plus).pcs (rs, hid + plus) (r.lift plus).pcs k hgl (by omega) (by show k < rs.length; omega)
    rw [Tree.plen_pcs] at g1 g2
    rw [hco, hk, g1, g2]
    simp [Tree.pcs]
  have HCS := Lib.hid hcs
  have HC5 := Lib.hid c5
  clear hcs hco hgl hglr a4 a7 b1 b2 hn ha hc1 hc2 hk c5
  go_enter Tryd.func72, Tryd.ntmps72
  go_wp2_with fail
  refine (open_env h hm).mono ?_
  rintro e w3 ⟨v1, v2, A3, c3, rfl, hE3⟩
  have hE4 := hE3.box (.cells #[.slice A3 rs.length c3, .int .i64 (hid + plus)] 113)
  go_wp2_with fail
  refine (all_len hE4 m0).mono ?_
  rintro e w5 ⟨y1, y2, y3, y4, y5, rfl, hE5⟩
  have x00 := hE5.cell0 (p := ⟨rs, hid + plus, A3, c3⟩) m0
  have x01 := hE5.cell1 (p := ⟨rs, hid + plus, A3, c3⟩) m0
  dsimp only at x00 x01
  go_wp2_with fail
  have hP := hE5.b _ m0
  have lP := hE5.lt m0
  go_cut [14, 15] from 67 to 68 (fun v14 v15 wx => TwoBox w5 ⟨rs, hid + plus, A3, c3⟩ v14 v15 wx)
  case first =>
    go_region
    all_goals
      go_wp2_with fail
      go_meet
      first | exact TwoBox.mk | exact TwoBox.km
  case rest =>
    obtain ⟨gx, gy, rfl, rfl, hne, hx, hy, hxo, hyo, hbc⟩ := hcut
    have hp3 := hE5.p _ m0
    obtain ⟨ad, rfl⟩ : ∃ ad, A3 = some ad := by
      obtain ⟨ad, e, _⟩ := hp3.ra.2.2 (by show 0 < rs.length; omega)
      exact ⟨ad, e⟩
    have hcap : rs.length ≤ c3 := hp3.cap
    have hck : (c3 = k) = False := by simp; omega
    have hck2 : (c3 == k) = false := by simp; omega
    have nx : gx ≠ w3.heap.size := by omega
    have ny : gy ≠ w3.heap.size := by omega
    have hne2 : gy ≠ gx := hne.symm
    have hq := (hbc.block _ lP).trans hP
    obtain ⟨z0, z1⟩ := cells2 hq
    obtain ⟨a0, a1⟩ := cells2 hxo
    obtain ⟨b0, b1⟩ := cells2 hyo
    obtain ⟨fx, _⟩ := froz2 hxo
    obtain ⟨fy, _⟩ := froz2 hyo
    dsimp only at a0 a1 b0 b1
    have HX := Lib.hid hxo
    have HY := Lib.hid hyo
    have C5 : IntKind.i64.wrap ((at_ : Int) - ((l.lift plus).cells.length : Int)) = (k : Int) := (IntWalk.i64_left _).trans ((w64 (by omega) (by omega)).trans HC5.out)
    have kz : (0 : Int) ≤ (k : Int) := by omega
    have kc : (k : Int) ≤ (c3 : Int) := by omega
    have kl : (k : Int) ≤ (rs.length : Int) := by omega
    clear hxo hyo hq hP x00 x01
    go_wp2_with fail
    go_region_held3 (fun W' => W'.cell? ⟨w3.heap.size, 0, none⟩ = some (.slice (some ad) rs.length c3))
      (first | with_reducible exact z0 | (go_keep; done))
      (fail)
    obtain ⟨Wf, hWf⟩ : ∃ Wf, ((wc.setCell ⟨gx, 0, none⟩ (.slice (some ad) k c3)).setCell ⟨gy, 0, none⟩ (.slice (some (ad.add k)) (rs.length - k) (c3 - k))).drew = Wf := ⟨_, rfl⟩
    have hbf : Below w5.heap.size w5 Wf := by rw [← hWf]; exact ((hbc.setCell (p := ⟨gx, 0, none⟩) hx _).setCell (p := ⟨gy, 0, none⟩) hy _).drew
    have hgx : Wf.heap[gx]? = some (Pc.obj ⟨rs.take k, hid + plus, some ad, c3⟩) := by
      rw [← hWf]
      show ((wc.setCell ⟨gx, 0, none⟩ _).setCell ⟨gy, 0, none⟩ _).heap[gx]? = _
      rw [Below.heap_setCell _ _ _ _ hne, set1 HX.out]
      show _ = some (Obj.cells #[.slice (some ad) (rs.take k).length c3, .int .i64 (hid + plus)] 113 (0, 0))
      rw [List.length_take, Nat.min_eq_left (Nat.le_of_lt k1)]
    have hgy : Wf.heap[gy]? = some (Pc.obj ⟨rs.drop k, hid + plus, some (ad.add k), c3 - k⟩) := by
      rw [← hWf]
      show ((wc.setCell ⟨gx, 0, none⟩ _).setCell ⟨gy, 0, none⟩ _).heap[gy]? = _
      rw [set1 (by rw [Below.heap_setCell _ _ _ _ hne2]; exact HY.out)]
      show _ = some (Obj.cells #[.slice (some (ad.add k)) (rs.drop k).length (c3 - k), .int .i64 (hid + plus)] 113 (0, 0))
      rw [List.length_drop]
    rw [hWf]
    have hEf := hE5.below hbf
    have hpf := hEf.p _ m0
    have hpx : PieceIn K Wf ⟨rs.take k, hid + plus, some ad, c3⟩ := ⟨Kd.C_take hpf.ra (Nat.le_of_lt k1), hpf.k, Nat.le_trans (List.length_take_le _ _) (Nat.le_trans (Nat.le_of_lt k1) hcap), fun e => by have h1 : (rs.take k).length = 0 := (by rw [show rs.take k = [] from e]; rfl); rw [List.length_take] at h1; omega, hpf.h⟩
    have hpy : PieceIn K Wf ⟨rs.drop k, hid + plus, some (ad.add k), c3 - k⟩ := by
      have hd := Kd.C_drop hpf.ra (m := k) (c := c3) (Nat.le_of_lt k1) hcap
      rw [if_neg (by omega), show k * (Kd.int IntKind.i32).sz = k from Nat.mul_one k] at hd
      refine ⟨hd, fun ad2 e => ?_, by show (rs.drop k).length ≤ c3 - k; rw [List.length_drop]; omega, fun e => by have h1 : (rs.drop k).length = 0 := (by rw [show rs.drop k = [] from e]; rfl); rw [List.length_drop] at h1; omega, hpf.h⟩
      have e2 : some (ad.add k) = some ad2 := e
      injection e2 with e2
      rw [← e2, add_block]
      exact hpf.k ad rfl
    have hEg := ((hEf.nilT.addP hpy).addP hpx).addB hgy |>.addB hgx
    clear hEf hpf hpx hpy hgx hgy hWf hbf hp3 hbc HX HY a0 a1 b0 b1 fx fy z0 z1 hE3 hE4 hE5 hck hck2
    obtain ⟨px, hpx⟩ : ∃ p : Pc, p = ⟨rs.take k, hid + plus, some ad, c3⟩ := ⟨_, rfl⟩
    obtain ⟨py, hpy⟩ : ∃ p : Pc, p = ⟨rs.drop k, hid + plus, some (ad.add k), c3 - k⟩ := ⟨_, rfl⟩
    have S1 : (l.lift plus).cells.length + px.rs.length + (Tree.nil).cells.length ≤ 1073741824 := by rw [hpx]; exact s1
    have S2 : (Tree.nil).cells.length + py.rs.length + (r.lift plus).cells.length ≤ 1073741824 := by rw [hpy]; exact s2
    have HD : ∀ (a b : Pcl), a = (l.lift plus).pcs ++ [(px.rs, px.hid)] ++ Tree.nil.pcs → b = Tree.nil.pcs ++ [(py.rs, py.hid)] ++ (r.lift plus).pcs → a = ptake (Tree.node l rs hid r plus).pcs at_ ∧ b = pdrop (Tree.node l rs hid r plus).pcs at_ := by rw [hpx, hpy]; exact HCS.out
    have HD := Lib.hid HD
    rw [← hpx, ← hpy] at hEg
    clear HCS s1 s2 hpx hpy
    have mX : (gx, Pc.obj px) ∈ ((gx, Pc.obj px) :: (gy, Pc.obj py) :: (w3.heap.size, Pc.obj ⟨rs, hid + plus, some ad, c3⟩) :: bs : List (Nat × Obj)) := m0
    have mY : (gy, Pc.obj py) ∈ ((gx, Pc.obj px) :: (gy, Pc.obj py) :: (w3.heap.size, Pc.obj ⟨rs, hid + plus, some ad, c3⟩) :: bs : List (Nat × Obj)) := m1
    have x00 := hEg.drew.cell0 mX
    have x01 := hEg.drew.cell1 mX
    have x10 := hEg.drew.cell0 mY
    have x11 := hEg.drew.cell1 mY
    have tok : True := trivial
    go_wp2_with fail
    go_region_held3 (fun W' => W'.cell? ⟨gx, 0, none⟩ = some (.slice px.A px.rs.length px.c) ∧ W'.cell? ⟨gx, 1, none⟩ = some (.int .i64 (px.hid)) ∧ W'.cell? ⟨gy, 0, none⟩ = some (.slice py.A py.rs.length py.c) ∧ W'.cell? ⟨gy, 1, none⟩ = some (.int .i64 (py.hid)))
      (first | with_reducible exact ⟨x00, x01, x10, x11⟩ | with_reducible exact ⟨hE6.cell0 mX, hE6.cell1 mX, hE6.cell0 mY, hE6.cell1 mY⟩ | with_reducible exact ⟨hE7.cell0 mX, hE7.cell1 mX, hE7.cell0 mY, hE7.cell1 mY⟩)
      (first
        | (go_at_call 102; clear tok; refine (join_env hEg.drew (l := l.lift plus) (r := .nil) (p := px) m1 m0 m0 S1).mono ?_; rintro e w6 ⟨t6, v6, rfl, hE6, hc6, hlo6, hhi6⟩; have HC6 := Lib.hid hc6; clear hc6 hlo6 hhi6)
        | (go_at_call 102; refine (join_env hE6 (l := .nil) (r := r.lift plus) (p := py) m1 m3 m1 S2).mono ?_; rintro e w7 ⟨t7, v7, rfl, hE7, hc7, hlo7, hhi7⟩; have HC7 := Lib.hid hc7; clear hc7 hlo7 hhi7))
    all_goals
      go_wp2
      go_ret2
      exact ⟨t6, t7, v6, v7, rfl, hE7.sub (fun y hy => by rcases List.mem_cons.1 hy with rfl | hy; exact m1; rcases List.mem_cons.1 hy with rfl | hy; exact m0; exact u5 hy) (fun y hy => u3 hy) (fun y hy => u3 hy), (HD.out _ _ HC6.out HC7.out).1, (HD.out _ _ HC6.out HC7.out).2⟩
theorem split_all : ∀ n, SplitTo n
  | 0 => by
    intro h t v hm hn at_ ha hsz
    cases t with
    | nil =>
      obtain rfl : v = .pointer none := (h.t _ hm).rep
      obtain rfl : at_ = 0 := Nat.le_zero.1 ha
      exact split_nil h 0
    | node l rs hid r plus => exact absurd hn (by simp [Tree.size])
  | n + 1 => by
    intro h t v hm hn at_ ha hsz
    cases t with
    | nil =>
      obtain rfl : v = .pointer none := (h.t _ hm).rep
      obtain rfl : at_ = 0 := Nat.le_zero.1 ha
      exact split_nil h 0
    | node l rs hid r plus =>
      by_cases h1 : at_ ≤ l.cells.length
      · exact split_l (split_all n) h hm hn at_ ha hsz h1
      · by_cases h2 : l.cells.length + rs.length ≤ at_
        · exact split_r (split_all n) h hm hn at_ ha hsz h2
        · exact split_m (split_all n) h hm hn at_ ha hsz ⟨Nat.lt_of_not_le h1, Nat.lt_of_not_le h2⟩
theorem split_env {K : Nat → Prop} {w0 W : World} {ts : List (Tree × Value)} {ps : List Pc} {bs : List (Nat × Obj)} (h : Env K w0 W ts ps bs) {t : Tree} {v : Value} (hm : (t, v) ∈ ts) {at_ : Nat} (ha : at_ ≤ t.cells.length) (hsz : t.cells.length ≤ 536870912) : Calls Tryd.prog 72 #[v, .int .i64 (at_ : Int)] W (Split K w0 ts ps bs t.pcs at_) :=
  split_all _ h hm (Nat.le_refl _) at_ ha hsz
end Go.Proofs.YteeigokkafcaaaaDoorRope.P2
end
section
namespace Go.Proofs.YteeigokkafcaaaaDoorRope.P2
open Go.RowKit Go.Proofs.YteeigokkafcaaaaDoorW.PrintWords Go.Proofs.YteeigokkafcaaaaDoorW.PrintMore Go.Proofs.YteeigokkafcaaaaDoorRope Go.Proofs.YteeigokkafcaaaaDoor.Pr
set_option linter.unusedSimpArgs false
set_option linter.unusedVariables false
attribute [local go_sem] run_field2 run_field0
theorem lift_env {K : Nat → Prop} {w0 W : World} {ts : List (Tree × Value)} {ps : List Pc} {bs : List (Nat × Obj)} (h : Env K w0 W ts ps bs) {t : Tree} {v : Value} (hm : (t, v) ∈ ts) {b : Int} (hb : -1048577 ≤ b ∧ b ≤ 1048577) (hg : t.Good b) : Calls Tryd.prog 75 #[v, .int .i64 b] W (Made K w0 ts ps bs (t.pcs.map (fun c => (c.1, c.2 + b))) t.ht t.ht) := by
  have ht := (h.t _ hm).bound
  refine (lift_calls ht.rep hg hb).mono ?_
  rintro e w' ⟨v', he, hr, hbl⟩
  exact ⟨t.lift b, v', he, (h.below hbl).addT ⟨hr.mono (up_ku (fun k hk => hk.1) h.up), Tree.Good.lift (by simpa using hg)⟩, Tree.pcs_lift t b, by rw [Tree.ht_lift]; exact Nat.le_refl _, by rw [Tree.ht_lift]; exact Nat.le_refl _⟩
theorem split_int {K : Nat → Prop} {w0 W : World} {ts : List (Tree × Value)} {ps : List Pc} {bs : List (Nat × Obj)} (h : Env K w0 W ts ps bs) {t : Tree} {v : Value} (hm : (t, v) ∈ ts) {x : Int} (n : Nat) (hx : x = (n : Int)) (ha : n ≤ t.cells.length) (hsz : t.cells.length ≤ 536870912) : Calls Tryd.prog 72 #[v, .int .i64 x] W (Split K w0 ts ps bs t.pcs n) := by
  subst hx
  exact split_env h hm ha hsz
theorem evened_pcs {sq : List S113} (hlen : (scells sq).length ≤ 1073741824) (hok : ∀ x ∈ sq, OkPc x) {w : World} {A : Option Addr} {c : Nat} (hA : Kd.C k113 w A sq.length sq) (hc : sq.length ≤ c) :
    Calls Tryd.prog 105 #[.slice A sq.length c] w fun e w' => ∃ A' c' qs, e = .returned (.slice A' qs.length c') ∧ pcells qs = scells sq ∧ qs.map Pc.s = ev sq ∧ qs.length ≤ (scells sq).length ∧ PcsAt w' A' qs ∧ (∀ q ∈ qs, PieceIn (fun b => w.heap.size ≤ b) w' q) ∧ Below w.heap.size w w' := by
  have hl := len_scells hok
  refine (evened_calls hlen (by omega) hA hc).mono ?_
  rintro e w' ⟨v, he, hN, hb⟩
  obtain ⟨A', c', qs, rfl, _, hqs, hP, hK⟩ := pcs_of_N hN (ev_ok hlen hok)
  have hcs : pcells qs = scells sq := by rw [pcells_scells, hqs, ev_cells sq hlen]
  refine ⟨A', c', qs, he, hcs, hqs, ?_, hP, hK, hb⟩
  have h1 := len_scells (ev_ok hlen hok)
  rw [ev_cells sq hlen, ← hqs, List.length_map] at h1
  exact h1
end Go.Proofs.YteeigokkafcaaaaDoorRope.P2
end
section
namespace Go.Proofs.YteeigokkafcaaaaDoorRope
open Go.RowKit Go.Proofs.YteeigokkafcaaaaDoorW.PrintWords Go.Proofs.YteeigokkafcaaaaDoorW.PrintMore Go.Proofs.YteeigokkafcaaaaDoor.Pr
set_option linter.unusedSimpArgs false
set_option linter.unusedVariables false
def Nb (p q : List Int × Int) : Prop := p.2 = q.2 → 32 ≤ p.1.length + q.1.length
def SeamX (f g : Bool) (ps : Pcl) : Prop := ∀ x p q y, ps = x ++ p :: q :: y → (f = true → x ≠ []) → (g = true → y ≠ []) → Nb p q
theorem SeamX.nil (f g : Bool) : SeamX f g [] := fun x p q y h => by
  have := congrArg List.length h
  simp at this
theorem SeamX.up {f g : Bool} {ps : Pcl} (h : SeamX false false ps) : SeamX f g ps := fun x p q y e _ _ => h x p q y e (by simp) (by simp)
theorem SeamX.seam : ∀ {ps : Pcl}, (∀ p ∈ ps, p.1 ≠ []) → SeamX false false ps → Seam ps
  | [], _, _ => trivial
  | [p], h, _ => h p List.mem_cons_self
  | p :: q :: t, h, hs => ⟨h p List.mem_cons_self, hs [] p q t rfl (by simp) (by simp), SeamX.seam (fun r hr => h r (List.mem_cons_of_mem _ hr)) (fun x a b y e _ _ => hs (p :: x) a b y (by rw [e]; rfl) (by simp) (by simp))⟩
theorem SeamX.append {f g : Bool} {a b : Pcl} (ha : ∀ x p q y, a = x ++ p :: q :: y → (f = true → x ≠ []) → (g = true → y ++ b ≠ []) → Nb p q) (hm : ∀ x p q y, a = x ++ [p] → b = q :: y → (f = true → x ≠ []) → (g = true → y ≠ []) → Nb p q) (hb : ∀ x p q y, b = x ++ p :: q :: y → (f = true → a ++ x ≠ []) → (g = true → y ≠ []) → Nb p q) : SeamX f g (a ++ b) := by
  intro x p q y e hf hg
  rcases List.append_eq_append_iff.1 e with ⟨x', hx, hb'⟩ | ⟨a', ha', hy⟩
  · exact hb x' p q y hb' (fun h => by rw [← hx]; exact hf h) hg
  · match a', ha', hy with
    | [], ha', hy =>
      rw [List.append_nil] at ha'
      rw [List.nil_append] at hy
      exact hb [] p q y hy.symm (fun h => by rw [List.append_nil, ha']; exact hf h) hg
    | [r], ha', hy =>
      injection hy with h1 h2
      subst h1
      exact hm x p q y ha' h2.symm hf hg
    | r :: s :: a'', ha', hy =>
      injection hy with h1 h2
      injection h2 with h2 h3
      subst h1
      subst h2
      exact ha x p q a'' ha' hf (fun h => by have h4 : y = a'' ++ b := h3; rw [← h4]; exact hg h)
theorem ptake_shape : ∀ (ps : Pcl) (n : Nat), ∃ a b c, ptake ps n = a ++ b ∧ ps = a ++ c ∧ b.length ≤ 1
  | [], n => ⟨[], [], [], rfl, rfl, by simp⟩
  | p :: t, n => by
    obtain ⟨a, b, c, h1, h2, h3⟩ := ptake_shape t (n - p.1.length)
    rw [ptake]
    split
    · exact ⟨[], [], p :: t, rfl, rfl, by simp⟩
    · split
      · exact ⟨[], [(p.1.take n, p.2)], p :: t, rfl, rfl, by simp⟩
      · exact ⟨p :: a, b, c, by rw [h1]; rfl, by rw [h2]; rfl, h3⟩
theorem pdrop_shape : ∀ (ps : Pcl) (n : Nat), ∃ a b c, pdrop ps n = b ++ c ∧ ps = a ++ c ∧ (b = [] ∨ (b.length = 1 ∧ a ≠ []))
  | [], n => ⟨[], [], [], rfl, rfl, .inl rfl⟩
  | p :: t, n => by
    obtain ⟨a, b, c, h1, h2, h3⟩ := pdrop_shape t (n - p.1.length)
    rw [pdrop]
    split
    · exact ⟨[], [], p :: t, rfl, rfl, .inl rfl⟩
    · split
      · exact ⟨[p], [(p.1.drop n, p.2)], t, rfl, rfl, .inr ⟨rfl, by simp⟩⟩
      · exact ⟨p :: a, b, c, h1, by rw [h2]; rfl, h3.imp id (fun h => ⟨h.1, by simp⟩)⟩
theorem SeamX.take {f : Bool} {ps : Pcl} (h : SeamX f false ps) (n : Nat) : SeamX f true (ptake ps n) := by
  obtain ⟨a, b, c, h1, h2, h3⟩ := ptake_shape ps n
  rw [h1]
  refine SeamX.append (fun x p q y e hf _ => h x p q (y ++ c) (by rw [h2, e]; simp) hf (by simp)) (fun x p q y _ e _ hg => ?_) (fun x p q y e _ hg => ?_)
  · rw [e, List.length_cons] at h3
    exact absurd (List.eq_nil_of_length_eq_zero (by omega)) (hg rfl)
  · rw [e, List.length_append, List.length_cons, List.length_cons] at h3
    omega
theorem SeamX.drop {f : Bool} {ps : Pcl} (h : SeamX f false ps) (n : Nat) : SeamX true false (pdrop ps n) := by
  obtain ⟨a, b, c, h1, h2, h3⟩ := pdrop_shape ps n
  rw [h1]
  have hl : b.length ≤ 1 := by
    rcases h3 with h3 | h3
    · rw [h3]; simp
    · omega
  refine SeamX.append (fun x p q y e _ _ => ?_) (fun x p q y e _ hf _ => ?_) (fun x p q y e hf _ => h (a ++ x) p q y (by rw [h2, e]; simp) (fun _ he => ?_) (by simp))
  · rw [e, List.length_append, List.length_cons, List.length_cons] at hl
    omega
  · rw [e, List.length_append, List.length_cons] at hl
    exact absurd (by simpa using hl) (hf rfl)
  · obtain ⟨ea, ex⟩ := List.append_eq_nil_iff.1 he
    rcases h3 with h3 | h3
    · exact hf rfl (by rw [h3, ex]; rfl)
    · exact h3.2 ea
theorem SeamX.lift {f g : Bool} {ps : Pcl} (h : SeamX f g ps) (k : Int) : SeamX f g (ps.map (fun c => (c.1, c.2 + k))) := by
  intro x p q y e hf hg
  obtain ⟨x', r, e1, e2, e3⟩ := List.map_eq_append_iff.1 e
  obtain ⟨p', r', e4, e5, e6⟩ := List.map_eq_cons_iff.1 e3
  obtain ⟨q', y', e7, e8, e9⟩ := List.map_eq_cons_iff.1 e6
  have h1 := h x' p' q' y' (by rw [e1, e4, e7]) (fun hh he => hf hh (by rw [← e2, he]; rfl)) (fun hh he => hg hh (by rw [← e9, he]; rfl))
  intro hpq
  have := h1 (by rw [← e5, ← e8] at hpq; simpa using hpq)
  rw [← e5, ← e8]
  exact this
def ppl (sq : List S113) : Pcl := sq.map fun x => (x.f0, x.f1)
theorem ppl_append (a b : List S113) : ppl (a ++ b) = ppl a ++ ppl b := by simp [ppl]
theorem cutS_ge (l : List Int) (h : Int) (hne : l ≠ []) : cutS l h ≠ [] ∧ ∀ x ∈ cutS l h, x.f1 = h ∧ min 32 l.length ≤ x.f0.length := by
  have hl := List.length_pos_iff.2 hne
  unfold cutS
  obtain ⟨n, hn⟩ : ∃ n, n = (l.length + 63) / 64 := ⟨_, rfl⟩
  rw [← hn]
  have hp : 0 < n := by omega
  constructor
  · intro e
    have := congrArg List.length e
    simp at this
    omega
  · intro x hx
    obtain ⟨i, hi, rfl⟩ := List.mem_map.1 hx
    have hin : i < n := by have := List.mem_range'.1 hi; omega
    refine ⟨rfl, ?_⟩
    have d2 := cut_le (L := l.length) (i := i + 1) hp (by omega)
    have hlen : (cutP l h n i).f0.length = (i + 1) * l.length / n - i * l.length / n := by
      show ((l.take ((i + 1) * l.length / n)).drop (i * l.length / n)).length = _
      rw [List.length_drop, List.length_take, Nat.min_eq_left d2]
    rw [hlen]
    by_cases h1 : n = 1
    · subst h1
      have : i = 0 := by omega
      subst this
      simp
      omega
    · have hm : (i + 1) * l.length = i * l.length + l.length := by rw [Nat.add_mul, Nat.one_mul]
      have g1 : i * l.length / n + 32 ≤ (i + 1) * l.length / n := by
        rw [← Nat.add_mul_div_right _ _ hp]
        exact Nat.div_le_div_right (by omega)
      omega
theorem cutS_seam (l : List Int) (h : Int) : SeamX false false (ppl (cutS l h)) := by
  intro x p q y e _ _ _
  by_cases hne : l = []
  · subst hne
    have := congrArg List.length e
    simp [ppl, cutS] at this
  · have hk := (cutS_ge l h hne).2
    have hm : ∀ r ∈ ppl (cutS l h), min 32 l.length ≤ r.1.length := by
      intro r hr
      obtain ⟨s, hs, rfl⟩ := List.mem_map.1 hr
      exact (hk s hs).2
    have h1 := hm p (by rw [e]; simp)
    have h2 := hm q (by rw [e]; simp)
    have h3 : 2 ≤ (cutS l h).length := by
      have := congrArg List.length e
      simp only [ppl, List.length_map, List.length_append, List.length_cons] at this
      omega
    have h4 : (cutS l h).length = (l.length + 63) / 64 := by simp [cutS]
    omega
def Grew (x y : S113) : Prop := y.f1 = x.f1 ∧ min 32 x.f0.length ≤ y.f0.length
theorem evGo_law : ∀ (t : List S113) (run : List Int) (h : Int), run ≠ [] → (∀ x ∈ t, x.f0 ≠ []) → SeamX false false (ppl (evGo run h t)) ∧ ∃ y u, evGo run h t = y :: u ∧ y.f1 = h ∧ min 32 run.length ≤ y.f0.length
  | [], run, h, hr, _ => by
    rw [evGo]
    obtain ⟨h1, h2⟩ := cutS_ge run h hr
    obtain ⟨y, u, e⟩ := List.exists_cons_of_ne_nil h1
    exact ⟨cutS_seam run h, y, u, e, h2 y (by rw [e]; exact List.mem_cons_self)⟩
  | x :: t, run, h, hr, ht => by
    rw [evGo]
    by_cases c : x.f1 = h
    · rw [if_pos c]
      obtain ⟨h1, y, u, e, h2, h3⟩ := evGo_law t (run ++ x.f0) h (fun e => hr (List.append_eq_nil_iff.1 e).1) (fun z hz => ht z (List.mem_cons_of_mem _ hz))
      refine ⟨h1, y, u, e, h2, ?_⟩
      rw [List.length_append] at h3
      omega
    · rw [if_neg c]
      obtain ⟨h1, h2⟩ := cutS_ge run h hr
      obtain ⟨h3, z, v, e3, h4, _⟩ := evGo_law t x.f0 x.f1 (ht x List.mem_cons_self) (fun z hz => ht z (List.mem_cons_of_mem _ hz))
      obtain ⟨y, u, e⟩ := List.exists_cons_of_ne_nil h1
      refine ⟨?_, y, u ++ evGo x.f0 x.f1 t, by rw [e]; rfl, h2 y (by rw [e]; exact List.mem_cons_self)⟩
      rw [ppl_append]
      refine SeamX.append (fun a p q b e' _ _ => cutS_seam run h a p q b e' (by simp) (by simp)) (fun a p q b e1 e2 _ _ hpq => ?_) (fun a p q b e' _ _ => h3 a p q b e' (by simp) (by simp))
      have hp : p.2 = h := by
        have hm : p ∈ ppl (cutS run h) := by rw [e1]; simp
        obtain ⟨s, hs, rfl⟩ := List.mem_map.1 hm
        exact (h2 s hs).1
      have hq : q.2 = x.f1 := by
        rw [e3] at e2
        injection e2 with e2 _
        rw [← e2, ← h4]
      exact absurd (hq.symm.trans (hpq.symm.trans hp)) c
theorem evGo_last : ∀ (t : List S113) (run : List Int) (h : Int) (x : S113), run ≠ [] → (∀ z ∈ t, z.f0 ≠ []) → x.f0 ≠ [] → ∃ u y, evGo run h (t ++ [x]) = u ++ [y] ∧ Grew x y
  | [], run, h, x, hr, _, hx => by
    rw [List.nil_append, evGo]
    have key : ∀ (l : List Int) (k : Int), l ≠ [] → ∃ u y, cutS l k = u ++ [y] ∧ y.f1 = k ∧ min 32 l.length ≤ y.f0.length := by
      intro l k hl
      obtain ⟨h1, h2⟩ := cutS_ge l k hl
      refine ⟨(cutS l k).dropLast, (cutS l k).getLast h1, (List.dropLast_concat_getLast h1).symm, h2 _ (List.getLast_mem h1)⟩
    by_cases c : x.f1 = h
    · rw [if_pos c, evGo]
      obtain ⟨u, y, e, h1, h2⟩ := key (run ++ x.f0) h (fun e => hr (List.append_eq_nil_iff.1 e).1)
      refine ⟨u, y, e, h1.trans c.symm, ?_⟩
      rw [List.length_append] at h2
      omega
    · rw [if_neg c, evGo]
      obtain ⟨u, y, e, h1, h2⟩ := key x.f0 x.f1 hx
      exact ⟨cutS run h ++ u, y, by rw [e, List.append_assoc], h1, h2⟩
  | z :: t, run, h, x, hr, ht, hx => by
    rw [List.cons_append, evGo]
    by_cases c : z.f1 = h
    · rw [if_pos c]
      exact evGo_last t _ h x (fun e => hr (List.append_eq_nil_iff.1 e).1) (fun y hy => ht y (List.mem_cons_of_mem _ hy)) hx
    · rw [if_neg c]
      obtain ⟨u, y, e, h1⟩ := evGo_last t z.f0 z.f1 x (ht z List.mem_cons_self) (fun y hy => ht y (List.mem_cons_of_mem _ hy)) hx
      exact ⟨cutS run h ++ u, y, by rw [e, List.append_assoc], h1⟩
theorem ev_seam {sq : List S113} (h : ∀ x ∈ sq, x.f0 ≠ []) : SeamX false false (ppl (ev sq)) := by
  cases sq with
  | nil => exact SeamX.nil _ _
  | cons x t => exact (evGo_law t x.f0 x.f1 (h x List.mem_cons_self) (fun y hy => h y (List.mem_cons_of_mem _ hy))).1
theorem ev_first {x : S113} {t : List S113} (h : ∀ y ∈ x :: t, y.f0 ≠ []) : ∃ y u, ev (x :: t) = y :: u ∧ Grew x y :=
  (evGo_law t x.f0 x.f1 (h x List.mem_cons_self) (fun y hy => h y (List.mem_cons_of_mem _ hy))).2
theorem ev_last {x : S113} {t : List S113} (h : ∀ y ∈ t ++ [x], y.f0 ≠ []) : ∃ u y, ev (t ++ [x]) = u ++ [y] ∧ Grew x y := by
  cases t with
  | nil =>
    have hx := h x (by simp)
    obtain ⟨h1, h2⟩ := cutS_ge x.f0 x.f1 hx
    exact ⟨(cutS x.f0 x.f1).dropLast, (cutS x.f0 x.f1).getLast h1, (List.dropLast_concat_getLast h1).symm, h2 _ (List.getLast_mem h1)⟩
  | cons z t => exact evGo_last t z.f0 z.f1 x (h z (by simp)) (fun y hy => h y (by simp [hy])) (h x (by simp))
theorem grew_left {x y : S113} (h : Grew x y) {q : List Int × Int} (hn : Nb (x.f0, x.f1) q) : Nb (y.f0, y.f1) q := by
  intro e
  have := hn (h.1.symm.trans e)
  have := h.2
  dsimp only at *
  omega
theorem grew_right {x y : S113} (h : Grew x y) {p : List Int × Int} (hn : Nb p (x.f0, x.f1)) : Nb p (y.f0, y.f1) := by
  intro e
  have := hn (e.trans h.1)
  have := h.2
  dsimp only at *
  omega
theorem mend_seam {g : Bool} {lr rr : Pcl} {s1 s2 : List S113} (hA : SeamX false true (lr ++ ppl s1)) (hB : SeamX true g (ppl s2 ++ rr)) (h1 : s1.length = 2 ∨ lr = []) (h2 : s2.length = 2 ∨ rr = []) (hn : ∀ x ∈ s1 ++ s2, x.f0 ≠ []) : SeamX false g (lr ++ ppl (ev (s1 ++ s2)) ++ rr) := by
  rw [List.append_assoc]
  have hE := ev_seam hn
  refine SeamX.append (fun x p q y e _ _ => ?_) (fun x p q y e e2 _ _ => ?_) (fun x p q y e _ hg => ?_)
  · have hs : s1.length = 2 := h1.resolve_right (fun h => by rw [h] at e; simp at e)
    refine hA x p q (y ++ ppl s1) (by rw [e]; simp) (by simp) (fun _ he => ?_)
    have := congrArg List.length he
    rw [List.length_append, ppl, List.length_map] at this
    simp only [List.length_nil] at this
    omega
  · have hs : s1.length = 2 := h1.resolve_right (fun h => by rw [h] at e; simp at e)
    obtain ⟨a, b, rfl⟩ : ∃ a b, s1 = [a, b] := by
      match s1, hs with
      | [a, b], _ => exact ⟨a, b, rfl⟩
    obtain ⟨z, u, e3, hz⟩ := ev_first (x := a) (t := b :: s2) hn
    have e4 : ([a, b] ++ s2) = a :: b :: s2 := rfl
    rw [e4, e3] at e2
    injection e2 with e5 _
    rw [← e5]
    exact grew_right hz (hA x p (a.f0, a.f1) [(b.f0, b.f1)] (by rw [e]; simp [ppl]) (by simp) (by simp))
  · have key : SeamX false g (ppl (ev (s1 ++ s2)) ++ rr) := by
      refine SeamX.append (fun x p q y e _ _ => hE x p q y e (by simp) (by simp)) (fun x p q y e e2 _ hg => ?_) (fun x p q y e _ hg => ?_)
      · have hs : s2.length = 2 := h2.resolve_right (fun h => by rw [h] at e2; cases e2)
        obtain ⟨a, b, rfl⟩ : ∃ a b, s2 = [a, b] := by
          match s2, hs with
          | [a, b], _ => exact ⟨a, b, rfl⟩
        have e4 : s1 ++ [a, b] = (s1 ++ [a]) ++ [b] := by simp
        rw [e4] at e hn
        obtain ⟨u, z, e3, hz⟩ := ev_last hn
        rw [e3, ppl_append] at e
        have e5 := (List.append_inj' e rfl).2
        injection e5 with e5 _
        rw [← e5]
        exact grew_left hz (hB [(a.f0, a.f1)] (b.f0, b.f1) q y (by rw [e2]; simp [ppl]) (by simp) hg)
      · have hs : s2.length = 2 := h2.resolve_right (fun h => by rw [h] at e; simp at e)
        refine hB (ppl s2 ++ x) p q y (by rw [e]; simp) (fun _ he => ?_) hg
        have := congrArg List.length he
        rw [List.length_append, ppl, List.length_map] at this
        simp only [List.length_nil] at this
        omega
    exact key x p q y e (by simp) hg
theorem cutAll_seam : ∀ (l : List (List Int × Int)), Few l → SeamX false false (ppl (cutAll l))
  | [], _ => SeamX.nil _ _
  | x :: l, h => by
    have ih := cutAll_seam l h.tail
    rw [show cutAll (x :: l) = cutS x.1 x.2 ++ cutAll l from rfl, ppl_append]
    refine SeamX.append (fun a p q b e _ _ => cutS_seam x.1 x.2 a p q b e (by simp) (by simp)) (fun a p q b e1 e2 _ _ hpq => ?_) (fun a p q b e _ _ => ih a p q b e (by simp) (by simp))
    have hp : p.2 = x.2 := by
      have hm : p ∈ ppl (cutS x.1 x.2) := by rw [e1]; simp
      obtain ⟨s, hs, rfl⟩ := List.mem_map.1 hm
      exact ((cutS_ge x.1 x.2 (h.one x List.mem_cons_self)).2 s hs).1
    cases l with
    | nil => simp [cutAll, ppl] at e2
    | cons y l =>
      have hy := cutS_ge y.1 y.2 (h.one y (by simp))
      obtain ⟨z, u, e3⟩ := List.exists_cons_of_ne_nil hy.1
      have hz := (hy.2 z (by rw [e3]; exact List.mem_cons_self)).1
      rw [show cutAll (y :: l) = cutS y.1 y.2 ++ cutAll l from rfl, e3] at e2
      injection e2 with e2 _
      have h0 := h.two 0 (by simp)
      have hq : q.2 = y.2 := by rw [← e2, ← hz]
      exact absurd (show y.2 = x.2 by rw [← hq, ← hpq, hp]) (by simpa using h0)
theorem grp_few : ∀ (ps : Pcl), (∀ p ∈ ps, p.1 ≠ []) → Few (grp ps)
  | [], _ => Few.nil
  | p :: t, h => by
    have ih := grp_few t (fun q hq => h q (List.mem_cons_of_mem _ hq))
    have hp := h p List.mem_cons_self
    unfold grp
    split
    · exact Few.single hp
    · rename_i q u e
      rw [e] at ih
      split
      · rename_i c
        refine ⟨fun y hy => ?_, fun i hi => ?_⟩
        · rcases List.mem_cons.1 hy with rfl | hy
          · exact fun e => hp (List.append_eq_nil_iff.1 e).1
          · exact ih.one y (List.mem_cons_of_mem _ hy)
        · have := ih.two i (by simpa using hi)
          cases i with
          | zero => simpa using this
          | succ i => simpa using this
      · rename_i c
        refine ⟨fun y hy => ?_, fun i hi => ?_⟩
        · rcases List.mem_cons.1 hy with rfl | hy
          · exact hp
          · exact ih.one y hy
        · cases i with
          | zero => simpa using fun e => c e.symm
          | succ i =>
            have := ih.two i (by simpa using hi)
            simpa using this
theorem kept_count {t : Tree} {A : Int} (hg : t.Good A) (hs : SeamX false false t.pcs) {L : List (List Int × Int)} (hL : Few L) (hc : rcells L = t.cells) : L.length ≤ t.size ∧ t.size ≤ L.length + t.cells.length / 16 := by
  have hne := hg.pcs_ne
  have hf := few_uniq L (grp t.pcs) hL (grp_few _ hne) (by rw [hc, grp_cells, Tree.cells_pcs])
  have h1 := grp_le t.pcs
  rw [← hf, Tree.pcs_size] at h1
  refine ⟨h1, ?_⟩
  have hS := hs.seam hne
  have hsz := Tree.pcs_size t
  have hcl : t.cells.length = (rcells t.pcs).length := by rw [Tree.cells_pcs]
  cases e : t.pcs with
  | nil => rw [e] at hsz; simp at hsz; omega
  | cons p u =>
    rw [e] at hS hsz hcl hf
    have h2 := seam_count u p hS
    rw [← hf, hsz, ← hcl] at h2
    omega
end Go.Proofs.YteeigokkafcaaaaDoorRope
end
