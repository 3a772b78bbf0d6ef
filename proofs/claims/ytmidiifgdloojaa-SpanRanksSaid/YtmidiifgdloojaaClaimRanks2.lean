/- SpanRanks, for every input: the law answers true and its argument reads as before; no condition. -/
import Derived.Laws.IdiomCopy
import Derived.Sort.Grow
import Derived.Shelf.SlLaysF0
import Derived.Shelf.SlGeneric
import Derived.Ground.SlsfProg
import Derived.Test.YtmidiifgdloojaaProg
import Derived.Shelf.SlSortCmp.WholeK
import Derived.SizedLaws
import Derived.Deep.Slices
import Derived.ChangeArms
import Derived.DataReads
import Derived.KernelRfl
import Derived.Test.YtmidiifgdloojaaClaimRanks1
section
namespace Go.Proofs.Ytmidiifgdloojaa.Pr
open Go.RowKit Go.Proofs.YtmidiifgdloojaaW.PrintWords Go.Proofs.YtmidiifgdloojaaW.PrintLast Go.Proofs.YtmidiifgdloojaaW.PrintMore
attribute [local go_sem] max2_int min2_int max_two min_two max_three min_three max_four min_four
set_option linter.unusedVariables false
set_option linter.unusedSimpArgs false
mutual
def span_Meet.l0 : Nat → List (S36) → List (S36) → List (S36) → Option ((List (S36)) × Int)
 | 0, _, _, _ => none
 | k + 1, x0, x1, x7 => if (x0.length : Int) > 0 then (span_Meet.j1 k x0 x1 x7 (decide ((x1.length : Int) > 0))) else (span_Meet.j1 k x0 x1 x7 false)
def span_Meet.j1 : Nat → List (S36) → List (S36) → List (S36) → Bool → Option ((List (S36)) × Int)
 | 0, _, _, _, _ => none
 | k + 1, x0, x1, x7, x21 => if x21 = true then (if 0 < (x0.length : Int) then (if 0 < (x1.length : Int) then ((span_add.f x7 (mx ((rd_T36 x0 0).f0) ((rd_T36 x1 0).f0)) (mn ((rd_T36 x0 0).f1) ((rd_T36 x1 0).f1))).bind fun t404 => (if ((rd_T36 x0 0).f1) ≤ ((rd_T36 x1 0).f1) then (if 1 ≤ (x0.length : Int) then (span_Meet.l0 k (x0.drop 1) x1 t404) else (none)) else (if 1 ≤ (x1.length : Int) then (span_Meet.l0 k x0 (x1.drop 1) t404) else (none)))) else (none)) else (none)) else ((span_bounded.f x7).bind fun bt419 => (some (bt419.1, bt419.2)))
end
def span_Meet.f (k : Nat) (l0 : List (S36)) (l1 : List (S36)) : Option ((List (S36)) × Int) := (span_both.f k l0 l1).bind fun t399 => (if t399 = 0 then (span_Meet.l0 k l0 l1 ([] : List (S36))) else (some (([] : List (S36)), t399)))
theorem span_Meet.mono_l : ∀ k, (∀ y0 y1 y2, LeO (span_Meet.l0 k y0 y1 y2) (span_Meet.l0 (k + 1) y0 y1 y2)) ∧ (∀ y0 y1 y2 y3, LeO (span_Meet.j1 k y0 y1 y2 y3) (span_Meet.j1 (k + 1) y0 y1 y2 y3))
 | 0 => ⟨fun _ _ _ r h => by simp [span_Meet.l0] at h, fun _ _ _ _ r h => by simp [span_Meet.j1] at h⟩
 | k + 1 => by
  obtain ⟨ih0, ih1⟩ := span_Meet.mono_l k
  refine ⟨?_, ?_⟩
  ·intro y0 y1 y2
   unfold span_Meet.l0
   repeat' first
   | (with_reducible exact ih0 _ _ _)
   | (with_reducible exact ih1 _ _ _ _)
   | (with_reducible exact span_both.mono _ _ _)
   | (with_reducible exact LeO.refl _)
   | (with_reducible exact LeO.none _)
   | (with_reducible refine LeO.ite ?_ ?_)
   | (with_reducible refine LeO.bind ?_ (fun _ => ?_))
   | exact ih0 _ _ _
   | exact ih1 _ _ _ _
   | exact span_both.mono _ _ _
   | exact LeO.none _
   | refine LeO.ite ?_ ?_
   | refine LeO.bind ?_ (fun _ => ?_)
  ·intro y0 y1 y2 y3
   unfold span_Meet.j1
   repeat' first
   | (with_reducible exact ih0 _ _ _)
   | (with_reducible exact ih1 _ _ _ _)
   | (with_reducible exact span_both.mono _ _ _)
   | (with_reducible exact LeO.refl _)
   | (with_reducible exact LeO.none _)
   | (with_reducible refine LeO.ite ?_ ?_)
   | (with_reducible refine LeO.bind ?_ (fun _ => ?_))
   | exact ih0 _ _ _
   | exact ih1 _ _ _ _
   | exact span_both.mono _ _ _
   | exact LeO.none _
   | refine LeO.ite ?_ ?_
   | refine LeO.bind ?_ (fun _ => ?_)
theorem span_Meet.mono : ∀ a0 a1 k, LeO (span_Meet.f k a0 a1) (span_Meet.f (k + 1) a0 a1) := by
 intro a0 a1 k
 obtain ⟨ih0, ih1⟩ := span_Meet.mono_l k
 unfold span_Meet.f
 repeat' first
   | (with_reducible exact ih0 _ _ _)
   | (with_reducible exact ih1 _ _ _ _)
   | (with_reducible exact span_both.mono _ _ _)
   | (with_reducible exact LeO.refl _)
   | (with_reducible exact LeO.none _)
   | (with_reducible refine LeO.ite ?_ ?_)
   | (with_reducible refine LeO.bind ?_ (fun _ => ?_))
   | exact ih0 _ _ _
   | exact ih1 _ _ _ _
   | exact span_both.mono _ _ _
   | exact LeO.none _
   | refine LeO.ite ?_ ?_
   | refine LeO.bind ?_ (fun _ => ?_)
def span_Meet.T6 : Bool × List (List Nat × List Nat) := (true, [([], []), ([], []), ([1], [1]), ([2], [2]), ([3], [3]), ([], []), ([5], [5]), ([6], [6]), ([7], [7]), ([4, 8], [4, 8]), ([], []), ([10], [10]), ([11], [11]), ([12], [12]), ([], []), ([14], [14]), ([15], [15]), ([16], [16]), ([13, 17], [13, 17]), ([0, 9, 18], [0, 9, 18]), ([19, 19, 0, 1, 2, 3, 4, 5, 6, 7, 8, 9, 10, 11, 12, 13, 14, 15, 16, 17, 18, 19], [0, 19])])
def span_Meet.B6 : List Nat := [0, 0, 2, 6, 14, 0, 32, 96, 224, 510, 0, 1024, 3072, 7168, 0, 16384, 49152, 114688, 261120, 524287, 1048575]
theorem span_Meet.tab6 : rtab .any (opsOf Try.f32 6) = span_Meet.T6 := by kernel_rfl
theorem span_Meet.bits6 : waitsOk span_Meet.T6.2 span_Meet.B6 = true := by kernel_rfl
def span_Meet.T7 : Bool × List (List Nat × List Nat) := (true, [([], []), ([0], [0]), ([1], [1]), ([2], [2]), ([], []), ([4], [4]), ([5], [5]), ([6], [6]), ([3, 7], [3, 7])])
def span_Meet.B7 : List Nat := [0, 1, 3, 7, 0, 16, 48, 112, 255]
theorem span_Meet.tab7 : rtab .any (opsOf Try.f32 7) = span_Meet.T7 := by kernel_rfl
theorem span_Meet.bits7 : waitsOk span_Meet.T7.2 span_Meet.B7 = true := by kernel_rfl
set_option maxHeartbeats 8000000 in
set_option maxRecDepth 100000 in
theorem span_Meet.calls (k : Nat) (P0_ : Nat → Prop) (A0 : Option Addr) (c0 : Nat) (l0 : List (S36)) (P1_ : Nat → Prop) (A1 : Option Addr) (c1 : Nat) (l1 : List (S36)) (r1 : List (S36)) (r2 : Int) (w : World) (hs0 : Kd.V k36 36 w w.heap.size (fun k_ => P0_ k_) (.slice A0 l0.length c0) l0) (hs1 : Kd.V k36 36 w w.heap.size (fun k_ => P1_ k_) (.slice A1 l1.length c1) l1) (h : span_Meet.f k l0 l1 = some (r1, r2)) :
  Calls Try.prog 32 #[.slice A0 l0.length c0, .slice A1 l1.length c1] w fun e w' => ∃ v0_ : Value, e = .returned (.tuple #[v0_, .int .i64 r2]) ∧ Kd.R k36 36 w' w.heap.size (fun k_ => (w.heap.size ≤ k_)) v0_ r1 ∧ Below w.heap.size w w' := by
 have HO0 := Aside0.mk (show Kd.V k36 36 w w.heap.size (fun k_ => ((P0_ k_ ∨ P1_ k_) ∨ w.heap.size ≤ k_)) (.slice A0 l0.length c0) l0 from Kd.V_mono hs0 (fun k_ hk => .inl (.inl hk)))
 have HO1 := Aside0.mk (show Kd.V k36 36 w w.heap.size (fun k_ => ((P0_ k_ ∨ P1_ k_) ∨ w.heap.size ≤ k_)) (.slice A1 l1.length c1) l1 from Kd.V_mono hs1 (fun k_ hk => .inl (.inr hk)))
 have HB := Aside0.mk (Below.refl w.heap.size w)
 have H : ((span_both.f k l0 l1).bind fun t399 => (if t399 = 0 then (span_Meet.l0 k l0 l1 ([] : List (S36))) else (some (([] : List (S36)), t399)))) = some (r1, r2) := h
 clear h
 replace H := Option.bind_eq_some_iff.mp H
 obtain ⟨t399, A30, H⟩ := H
 replace H : (if t399 = 0 then (span_Meet.l0 k l0 l1 ([] : List (S36))) else (some (([] : List (S36)), t399))) = some (r1, r2) := H
 have A3 := Aside0.mk A30
 clear A30
 by_cases c4 : t399 = 0
 ·rw [if_pos c4] at H
  have c4b0 : (t399 == 0) = true := beq_iff_eq.mpr c4
  have c4b1 : (t399 != 0) = false := bne_eq_false_iff_eq.mpr c4
  clear c4
  have H' := Aside0.mk H
  clear H
  go_enter Try.func32, Try.ntmps32
  go_wp2_with (first | ((with_reducible refine gate_callee (f := 53) rfl ?_); refine goesL_ (some 10) rfl rfl Try.func53 (by kernel_rfl) rfl #[.slice A0 l0.length c0, .slice A1 l1.length c1] rfl (by (try simp only [List.map_toArray, List.map_cons, List.map_nil]); first | done | rfl | (simp only [List.length_drop, List.length_take]; rfl)) ?_; (with_reducible refine (span_both.calls k _ _ l0 _ _ l1 t399 _ ?side1 ?side2 ?side3 ?side4 A3.out).mono ?_); (case side1 => repeat (first | exact (Kd.V_reads' HO0.out).2.2 | (with_reducible refine Kd.C_alloc ?_ _) | (with_reducible refine Kd.C_drewN ?_ _) | (with_reducible refine Kd.C_drew ?_))); (case side2 => exact (Kd.V_reads' HO0.out).2.1); (case side3 => repeat (first | exact (Kd.V_reads' HO1.out).2.2 | (with_reducible refine Kd.C_alloc ?_ _) | (with_reducible refine Kd.C_drewN ?_ _) | (with_reducible refine Kd.C_drew ?_))); (case side4 => exact (Kd.V_reads' HO1.out).2.1); rintro e w5 ⟨rfl, hb⟩; refine ⟨_, rfl, ?_⟩; have n0_ := Aside0.mk (Kd.V_below (by (with_reducible repeat (first | apply Kd.V_alloc | apply Kd.V_drewN | apply Kd.V_drew)); exact HO0.out) hb); have n1_ := Aside0.mk (Kd.V_below (by (with_reducible repeat (first | apply Kd.V_alloc | apply Kd.V_drewN | apply Kd.V_drew)); exact HO1.out) hb); have n2_ := Aside0.mk (below_step (by repeat (first | (with_reducible first | exact HB.out | apply below_alloc | apply pw_below_drewN | apply below_drew1) | exact HB.out)) hb); clear HO0; clear HO1; clear HB; have HO0 := n0_; have HO1 := n1_; have HB := n2_; clear n0_ n1_ n2_; (try clear hb); (try clear hb2); (try clear hk); (try clear hi)))
  go_loopg [0, 1, 7] k (fun kq v0 v1 v7 w' => ∃ (x0_1 : List (S36)) (x1_1 : List (S36)) (x7_1 : List (S36)), Aside0 (span_Meet.l0 kq x0_1 x1_1 x7_1 = some (r1, r2)) ∧ Aside0 (kq ≤ k) ∧ Aside0 (Kd.V k36 36 w' w.heap.size (fun k_ => ((P0_ k_ ∨ P1_ k_) ∨ w.heap.size ≤ k_) ∧ some k_ ≠ (v7 : Value).ownBlock) v0 x0_1) ∧ Aside0 (Kd.V k36 36 w' w.heap.size (fun k_ => ((P0_ k_ ∨ P1_ k_) ∨ w.heap.size ≤ k_) ∧ some k_ ≠ (v7 : Value).ownBlock) v1 x1_1) ∧ Aside0 (Kd.R k36 36 w' w.heap.size (fun k_ => (w.heap.size ≤ k_)) v7 x7_1) ∧ Aside0 (Below w.heap.size w w'))
  case atStart => exact ⟨(l0), (l1), (([] : List (S36))), H', ⟨Nat.le_refl _⟩, ⟨by (with_reducible repeat (first | apply Kd.V_alloc | apply Kd.V_drewN | apply Kd.V_drew)); exact Kd.V_mono HO0.out (fun _ hk => ⟨hk, (by simp [Value.ownBlock])⟩)⟩, ⟨by (with_reducible repeat (first | apply Kd.V_alloc | apply Kd.V_drewN | apply Kd.V_drew)); exact Kd.V_mono HO1.out (fun _ hk => ⟨hk, (by simp [Value.ownBlock])⟩)⟩, ⟨by first | exact Kd.R_nil _ _ _ _ _ | exact Kd.N_nil _ _ _ _ _ | exact Kd.V_nil _ _ _ _ _ | exact Kd.Q_nil _ _ _ _ _ | exact Kd.S_nil _ _ _ _ _⟩, ⟨by repeat (first | (with_reducible first | exact HB.out | apply below_alloc | apply pw_below_drewN | apply below_drew1) | exact HB.out)⟩⟩
  case round =>
   clear H'
   try clear c1
   try clear p2
   try clear c3
   try clear c4
   try clear c4b0
   try clear c4b1
   try clear c5
   obtain ⟨x0_1, x1_1, x7_1, HA, HK1, HO_0, HO_1, HO_7, HB⟩ := hrel
   cases gk with
   | zero => exact absurd HA.out (by simp [span_Meet.l0])
   | succ k1 =>
    have H := HA.out
    clear HA
    simp only [span_Meet.l0] at H
    have HC6 := Aside0.mk H
    clear H
    go_upto_region 5 with (fail)
    go_cut [21] (fun v21 wc => ∃ (kq : Nat) (x21_5 : Bool), v21 = .bool x21_5 ∧ Aside0 (span_Meet.j1 kq x0_1 x1_1 x7_1 x21_5 = some (r1, r2)) ∧ Aside0 (kq ≤ k1) ∧ Aside0 (Kd.V k36 36 wc w.heap.size (fun k_ => ((P0_ k_ ∨ P1_ k_) ∨ w.heap.size ≤ k_) ∧ some k_ ≠ (u7 : Value).ownBlock) u0 x0_1) ∧ Aside0 (Kd.V k36 36 wc w.heap.size (fun k_ => ((P0_ k_ ∨ P1_ k_) ∨ w.heap.size ≤ k_) ∧ some k_ ≠ (u7 : Value).ownBlock) u1 x1_1) ∧ Aside0 (Kd.R k36 36 wc w.heap.size (fun k_ => (w.heap.size ≤ k_)) u7 x7_1) ∧ Aside0 (Below w.heap.size w wc))
    case first =>
     have H := HC6.out
     clear HC6
     by_cases c7 : (x0_1.length : Int) > 0
     ·rw [if_pos c7] at H
      have c7b0 : decide (0 < (x0_1.length : Int)) = true := decide_eq_true c7
      have c7b1 : decide (0 < x0_1.length) = true := decide_eq_true (by omega)
      clear c7
      (first | rw [c7b0] | (simp only [i64_w, i32_w]; rw [c7b0]) | skip)
      have H' := Aside0.mk H
      clear H
      obtain ⟨Ao8, co8, eo8⟩ := Kd.V_slice HO_0.out
      subst eo8
      obtain ⟨Ao9, co9, eo9⟩ := Kd.V_slice HO_1.out
      subst eo9
      go_wp2
      go_meet
      case rel => exact ⟨_, (decide ((x1_1.length : Int) > 0)), (by first | rfl | (simp; done) | (simp [*]; done)), H', ⟨by have := HK1.out; first | omega | exact Nat.le_refl _⟩, ⟨by (with_reducible repeat (first | apply Kd.V_alloc | apply Kd.V_drewN | apply Kd.V_drew)); exact HO_0.out⟩, ⟨by (with_reducible repeat (first | apply Kd.V_alloc | apply Kd.V_drewN | apply Kd.V_drew)); exact HO_1.out⟩, ⟨by (with_reducible repeat (first | apply Kd.R_alloc | apply Kd.R_drewN | apply Kd.R_drew)); exact HO_7.out⟩, ⟨by repeat (first | (with_reducible first | exact HB.out | apply below_alloc | apply pw_below_drewN | apply below_drew1) | exact HB.out)⟩⟩
     ·rw [if_neg c7] at H
      have c7b0 : decide (0 < (x0_1.length : Int)) = false := decide_eq_false c7
      have c7b1 : decide (0 < x0_1.length) = false := decide_eq_false (by omega)
      clear c7
      (first | rw [c7b0] | (simp only [i64_w, i32_w]; rw [c7b0]) | skip)
      have H' := Aside0.mk H
      clear H
      obtain ⟨Ao10, co10, eo10⟩ := Kd.V_slice HO_0.out
      subst eo10
      go_wp2
      go_meet
      case rel => exact ⟨_, (false), (by first | rfl | (simp; done) | (simp [*]; done)), H', ⟨by have := HK1.out; first | omega | exact Nat.le_refl _⟩, ⟨by (with_reducible repeat (first | apply Kd.V_alloc | apply Kd.V_drewN | apply Kd.V_drew)); exact HO_0.out⟩, ⟨by (with_reducible repeat (first | apply Kd.V_alloc | apply Kd.V_drewN | apply Kd.V_drew)); exact HO_1.out⟩, ⟨by (with_reducible repeat (first | apply Kd.R_alloc | apply Kd.R_drewN | apply Kd.R_drew)); exact HO_7.out⟩, ⟨by repeat (first | (with_reducible first | exact HB.out | apply below_alloc | apply pw_below_drewN | apply below_drew1) | exact HB.out)⟩⟩
    case rest =>
     clear HC6
     try clear c1
     try clear p2
     try clear c3
     try clear c4
     try clear c4b0
     try clear c4b1
     try clear c5
     try clear c7
     try clear c7b0
     try clear c7b1
     try clear p2
     obtain ⟨kq, x21_5, rfl, HA, HJ5, HO_0, HO_1, HO_7, HB⟩ := hcut
     cases kq with
     | zero => exact absurd HA.out (by simp [span_Meet.j1])
     | succ kj5 =>
      have H := HA.out
      clear HA
      simp only [span_Meet.j1] at H
      by_cases c11 : x21_5 = true
      ·subst c11
       have H1 : (if 0 < (x0_1.length : Int) then (if 0 < (x1_1.length : Int) then ((span_add.f x7_1 (mx ((rd_T36 x0_1 0).f0) ((rd_T36 x1_1 0).f0)) (mn ((rd_T36 x0_1 0).f1) ((rd_T36 x1_1 0).f1))).bind fun t404 => (if ((rd_T36 x0_1 0).f1) ≤ ((rd_T36 x1_1 0).f1) then (if 1 ≤ (x0_1.length : Int) then (span_Meet.l0 kj5 (x0_1.drop 1) x1_1 t404) else (none)) else (if 1 ≤ (x1_1.length : Int) then (span_Meet.l0 kj5 x0_1 (x1_1.drop 1) t404) else (none)))) else (none)) else (none)) = some (r1, r2) := by rw [if_pos rfl] at H; exact H
       clear H
       have H := H1
       clear H1
       by_cases c12 : 0 < (x0_1.length : Int)
       ·rw [if_pos c12] at H
        have c12b0 : decide (0 < (x0_1.length : Int)) = true := decide_eq_true c12
        have c12b1 : decide (0 < x0_1.length) = true := decide_eq_true (by omega)
        clear c12
        by_cases c13 : 0 < (x1_1.length : Int)
        ·rw [if_pos c13] at H
         have c13b0 : decide (0 < (x1_1.length : Int)) = true := decide_eq_true c13
         have c13b1 : decide (0 < x1_1.length) = true := decide_eq_true (by omega)
         clear c13
         obtain ⟨ji14, hji14⟩ : ∃ j_ : Int, (mx ((rd_T36 x0_1 0).f0) ((rd_T36 x1_1 0).f0)) = j_ := ⟨_, rfl⟩
         replace H : ((span_add.f x7_1 (ji14) (mn ((rd_T36 x0_1 0).f1) ((rd_T36 x1_1 0).f1))).bind fun t404 => (if ((rd_T36 x0_1 0).f1) ≤ ((rd_T36 x1_1 0).f1) then (if 1 ≤ (x0_1.length : Int) then (span_Meet.l0 kj5 (x0_1.drop 1) x1_1 t404) else (none)) else (if 1 ≤ (x1_1.length : Int) then (span_Meet.l0 kj5 x0_1 (x1_1.drop 1) t404) else (none)))) = some (r1, r2) := by first | (rw [hji14] at H; exact H) | (simp only [hji14] at H ⊢; exact H)
         have hji14_ : (if ((rd_T36 x0_1 0).f0) < ((rd_T36 x1_1 0).f0) then ((rd_T36 x1_1 0).f0) else ((rd_T36 x0_1 0).f0)) = ji14 := hji14
         obtain ⟨ji15, hji15⟩ : ∃ j_ : Int, (mn ((rd_T36 x0_1 0).f1) ((rd_T36 x1_1 0).f1)) = j_ := ⟨_, rfl⟩
         replace H : ((span_add.f x7_1 (ji14) (ji15)).bind fun t404 => (if ((rd_T36 x0_1 0).f1) ≤ ((rd_T36 x1_1 0).f1) then (if 1 ≤ (x0_1.length : Int) then (span_Meet.l0 kj5 (x0_1.drop 1) x1_1 t404) else (none)) else (if 1 ≤ (x1_1.length : Int) then (span_Meet.l0 kj5 x0_1 (x1_1.drop 1) t404) else (none)))) = some (r1, r2) := by first | (rw [hji15] at H; exact H) | (simp only [hji15] at H ⊢; exact H)
         have hji15_ : (if ((rd_T36 x1_1 0).f1) < ((rd_T36 x0_1 0).f1) then ((rd_T36 x1_1 0).f1) else ((rd_T36 x0_1 0).f1)) = ji15 := hji15
         replace H := Option.bind_eq_some_iff.mp H
         obtain ⟨t404, A160, H⟩ := H
         replace H : (if ((rd_T36 x0_1 0).f1) ≤ ((rd_T36 x1_1 0).f1) then (if 1 ≤ (x0_1.length : Int) then (span_Meet.l0 kj5 (x0_1.drop 1) x1_1 t404) else (none)) else (if 1 ≤ (x1_1.length : Int) then (span_Meet.l0 kj5 x0_1 (x1_1.drop 1) t404) else (none))) = some (r1, r2) := H
         have A16 := Aside0.mk A160
         clear A160
         by_cases c17 : ((rd_T36 x0_1 0).f1) ≤ ((rd_T36 x1_1 0).f1)
         ·rw [if_pos c17] at H
          have c17b0 : decide (((rd_T36 x0_1 0).f1) ≤ ((rd_T36 x1_1 0).f1)) = true := decide_eq_true c17
          clear c17
          by_cases c18 : 1 ≤ (x0_1.length : Int)
          ·rw [if_pos c18] at H
           have c18b0 := eq_true c18
           have c18b1 : decide (1 ≤ (x0_1.length : Int)) = true := decide_eq_true c18
           clear c18
           obtain ⟨y409, hy409⟩ : ∃ y_ : List (S36), y_ = (x0_1.drop 1) := ⟨_, rfl⟩
           replace H : (span_Meet.l0 kj5 y409 x1_1 t404) = some (r1, r2) := by first | (rw [hy409]; with_reducible exact H) | (have H2_ := (Option.bind_some _ _).symm.trans H; rw [hy409]; with_reducible exact H2_) | (have H2_ := (Option.bind_some _ _).symm.trans H; with_reducible exact H2_) | with_reducible exact H | (rw [hy409]; exact H) | exact H
           have Ny409 := Aside0.mk hy409
           clear hy409
           have H' := Aside0.mk H
           clear H
           try go_wp2
           have n0_ := Aside0.mk (Kd.V_drew HO_0.out)
           have n1_ := Aside0.mk (Kd.V_drew HO_1.out)
           have n2_ := Aside0.mk (Kd.R_drew HO_7.out)
           have n3_ := Aside0.mk (below_drew1 HB.out)
           clear HO_0
           clear HO_1
           clear HO_7
           clear HB
           have HO_0 := n0_
           have HO_1 := n1_
           have HO_7 := n2_
           have HB := n3_
           clear n0_ n1_ n2_ n3_
           obtain ⟨Ao20, co20, eo20⟩ := Kd.V_slice HO_0.out
           (first | subst eo20 | (injection eo20 with f1_ f2_ f3_; have f4_ := f1_.symm; have f5_ := f3_.symm; clear f1_ f2_ f3_; subst f4_; subst f5_))
           have p400 : 0 ≤ (0 : Int) := (by omega)
           have q400 : 0 < (x0_1.length : Int) := of_decide_eq_true (by first | (with_reducible assumption) | assumption)
           obtain ⟨ad400, e400, hx400_0, hx400_1⟩ := at_T36 (Kd.V_reads' HO_0.out).2.2 0 p400 q400
           cases e400
           have qi400 : (0 < x0_1.length) = True := eq_true (by omega)
           (try rw [show ((0 : Int)).toNat = 0 from rfl] at hx400_0)
           (try rw [show 0 * 2 = 0 from rfl] at hx400_0)
           (try rw [Addr.add_zero'] at hx400_0)
           (try rw [show ((0 : Int)).toNat = 0 from rfl] at hx400_1)
           (try rw [show 0 * 2 = 0 from rfl] at hx400_1)
           (try rw [Addr.add_zero'] at hx400_1)
           replace p400 := eq_true p400
           replace q400 := eq_true q400
           obtain ⟨Ao21, co21, eo21⟩ := Kd.V_slice HO_1.out
           (first | subst eo21 | (injection eo21 with f1_ f2_ f3_; have f4_ := f1_.symm; have f5_ := f3_.symm; clear f1_ f2_ f3_; subst f4_; subst f5_))
           have p401 : 0 ≤ (0 : Int) := (by omega)
           have q401 : 0 < (x1_1.length : Int) := of_decide_eq_true (by first | (with_reducible assumption) | assumption)
           obtain ⟨ad401, e401, hx401_0, hx401_1⟩ := at_T36 (Kd.V_reads' HO_1.out).2.2 0 p401 q401
           cases e401
           have qi401 : (0 < x1_1.length) = True := eq_true (by omega)
           (try rw [show ((0 : Int)).toNat = 0 from rfl] at hx401_0)
           (try rw [show 0 * 2 = 0 from rfl] at hx401_0)
           (try rw [Addr.add_zero'] at hx401_0)
           (try rw [show ((0 : Int)).toNat = 0 from rfl] at hx401_1)
           (try rw [show 0 * 2 = 0 from rfl] at hx401_1)
           (try rw [Addr.add_zero'] at hx401_1)
           replace p401 := eq_true p401
           replace q401 := eq_true q401
           have p402 : 0 ≤ (0 : Int) := (by omega)
           have q402 : 0 < (x0_1.length : Int) := of_decide_eq_true (by first | (with_reducible assumption) | assumption)
           obtain ⟨ad402, e402, hx402_0, hx402_1⟩ := at_T36 (Kd.V_reads' HO_0.out).2.2 0 p402 q402
           obtain rfl : ad400 = ad402 := (by injection e402)
           have qi402 : (0 < x0_1.length) = True := eq_true (by omega)
           (try rw [show ((0 : Int)).toNat = 0 from rfl] at hx402_0)
           (try rw [show 0 * 2 = 0 from rfl] at hx402_0)
           (try rw [Addr.add_zero'] at hx402_0)
           (try rw [show ((0 : Int)).toNat = 0 from rfl] at hx402_1)
           (try rw [show 0 * 2 = 0 from rfl] at hx402_1)
           (try rw [Addr.add_zero'] at hx402_1)
           replace p402 := eq_true p402
           replace q402 := eq_true q402
           have p403 : 0 ≤ (0 : Int) := (by omega)
           have q403 : 0 < (x1_1.length : Int) := of_decide_eq_true (by first | (with_reducible assumption) | assumption)
           obtain ⟨ad403, e403, hx403_0, hx403_1⟩ := at_T36 (Kd.V_reads' HO_1.out).2.2 0 p403 q403
           obtain rfl : ad401 = ad403 := (by injection e403)
           have qi403 : (0 < x1_1.length) = True := eq_true (by omega)
           (try rw [show ((0 : Int)).toNat = 0 from rfl] at hx403_0)
           (try rw [show 0 * 2 = 0 from rfl] at hx403_0)
           (try rw [Addr.add_zero'] at hx403_0)
           (try rw [show ((0 : Int)).toNat = 0 from rfl] at hx403_1)
           (try rw [show 0 * 2 = 0 from rfl] at hx403_1)
           (try rw [Addr.add_zero'] at hx403_1)
           replace p403 := eq_true p403
           replace q403 := eq_true q403
           obtain ⟨Ao22, co22, eo22⟩ := Kd.R_slice HO_7.out
           (first | subst eo22 | (injection eo22 with f1_ f2_ f3_; have f4_ := f1_.symm; have f5_ := f3_.symm; clear f1_ f2_ f3_; subst f4_; subst f5_))
           refine start_ (n := 21) (S := fun w' => w'.cell? ad400 = some (.int .i64 ((rd_T36 x0_1 0).f0)) ∧ w'.cell? ⟨ad400.block, ad400.off + 1, none⟩ = some (.int .i64 ((rd_T36 x0_1 0).f1)) ∧ w'.cell? ad401 = some (.int .i64 ((rd_T36 x1_1 0).f0)) ∧ w'.cell? ⟨ad401.block, ad401.off + 1, none⟩ = some (.int .i64 ((rd_T36 x1_1 0).f1)) ∧ w'.cell? ad400 = some (.int .i64 ((rd_T36 x0_1 0).f0)) ∧ w'.cell? ⟨ad400.block, ad400.off + 1, none⟩ = some (.int .i64 ((rd_T36 x0_1 0).f1)) ∧ w'.cell? ad401 = some (.int .i64 ((rd_T36 x1_1 0).f0)) ∧ w'.cell? ⟨ad401.block, ad401.off + 1, none⟩ = some (.int .i64 ((rd_T36 x1_1 0).f1))) (ds := []) #[false, false, false, false, false, false, false, false, false, false, false, false, false, false, false, false, false, false, false, false, false] (by kernel_rfl) rfl rfl ⟨hx400_0, hx400_1, hx401_0, hx401_1, hx402_0, hx402_1, hx403_0, hx403_1⟩ (fun hHeld => ?_); refine with_tabW span_Meet.tab6 span_Meet.bits6 (fun HT_ HW_ => ?_)
           generalize wc.drew = w19 at HO_0 HO_1 HO_7 HB hx400_0 hx400_1 hx401_0 hx401_1 hx402_0 hx402_1 hx403_0 hx403_1 hHeld ⊢
           refine pure_ (i := 0) (N := some 22) (v := ?_) (a' := ?_) #[true, false, false, false, false, false, false, false, false, false, false, false, false, false, false, false, false, false, false, false, false] rfl rfl (any_of HT_.out (by kernel_rfl)) (fun _ _ _ h => h) (Or.inl ⟨by rfl, ?_⟩) ?_ ?_
           rotate_left
           ·intro w'
            go_simp
            with_reducible rfl
           rotate_left
           ·simp only [Act.put, List.setIfInBounds_toArray, List.set_cons_zero, List.set_cons_succ, i64_w, i32_w]
            rfl
           refine pure_ (i := 1) (N := some 23) (v := ?_) (a' := ?_) #[true, true, false, false, false, false, false, false, false, false, false, false, false, false, false, false, false, false, false, false, false] rfl rfl (any_of HT_.out (by kernel_rfl)) (fun _ _ _ h => h) (Or.inl ⟨by rfl, ?_⟩) ?_ ?_
           rotate_left
           ·intro w'
            go_simp
            with_reducible rfl
           rotate_left
           ·simp only [Act.put, List.setIfInBounds_toArray, List.set_cons_zero, List.set_cons_succ, i64_w, i32_w]
            rfl
           refine pure_ (i := 2) (N := some 24) (v := ?_) (a' := ?_) #[true, true, true, false, false, false, false, false, false, false, false, false, false, false, false, false, false, false, false, false, false] rfl rfl (any_of HT_.out (by kernel_rfl)) (fun _ _ _ h => h) (Or.inl ⟨by rfl, ?_⟩) ?_ ?_
           rotate_left
           ·intro w'
            go_simp
            with_reducible rfl
           rotate_left
           ·simp only [Act.put, List.setIfInBounds_toArray, List.set_cons_zero, List.set_cons_succ, i64_w, i32_w]
            rfl
           refine pure_ (i := 3) (N := some 25) (v := ?_) (a' := ?_) #[true, true, true, true, false, false, false, false, false, false, false, false, false, false, false, false, false, false, false, false, false] rfl rfl (any_of HT_.out (by kernel_rfl)) (fun _ _ _ h => h) (Or.inl ⟨by rfl, ?_⟩) ?_ ?_
           rotate_left
           ·intro w'
            go_simp
            with_reducible rfl
           rotate_left
           ·simp only [Act.put, List.setIfInBounds_toArray, List.set_cons_zero, List.set_cons_succ, i64_w, i32_w]
            rfl
           refine pure_ (i := 5) (N := some 27) (v := ?_) (a' := ?_) #[true, true, true, true, false, true, false, false, false, false, false, false, false, false, false, false, false, false, false, false, false] rfl rfl (any_of HT_.out (by kernel_rfl)) (fun _ _ _ h => h) (Or.inl ⟨by rfl, ?_⟩) ?_ ?_
           rotate_left
           ·intro w'
            go_simp
            with_reducible rfl
           rotate_left
           ·simp only [Act.put, List.setIfInBounds_toArray, List.set_cons_zero, List.set_cons_succ, i64_w, i32_w]
            rfl
           refine pure_ (i := 6) (N := some 28) (v := ?_) (a' := ?_) #[true, true, true, true, false, true, true, false, false, false, false, false, false, false, false, false, false, false, false, false, false] rfl rfl (any_of HT_.out (by kernel_rfl)) (fun _ _ _ h => h) (Or.inl ⟨by rfl, ?_⟩) ?_ ?_
           rotate_left
           ·intro w'
            go_simp
            with_reducible rfl
           rotate_left
           ·simp only [Act.put, List.setIfInBounds_toArray, List.set_cons_zero, List.set_cons_succ, i64_w, i32_w]
            rfl
           refine pure_ (i := 7) (N := some 29) (v := ?_) (a' := ?_) #[true, true, true, true, false, true, true, true, false, false, false, false, false, false, false, false, false, false, false, false, false] rfl rfl (any_of HT_.out (by kernel_rfl)) (fun _ _ _ h => h) (Or.inl ⟨by rfl, ?_⟩) ?_ ?_
           rotate_left
           ·intro w'
            go_simp
            with_reducible rfl
           rotate_left
           ·simp only [Act.put, List.setIfInBounds_toArray, List.set_cons_zero, List.set_cons_succ, i64_w, i32_w]
            rfl
           refine pure_ (i := 10) (N := some 32) (v := ?_) (a' := ?_) #[true, true, true, true, false, true, true, true, false, false, true, false, false, false, false, false, false, false, false, false, false] rfl rfl (any_of HT_.out (by kernel_rfl)) (fun _ _ _ h => h) (Or.inl ⟨by rfl, ?_⟩) ?_ ?_
           rotate_left
           ·intro w'
            go_simp
            with_reducible rfl
           rotate_left
           ·simp only [Act.put, List.setIfInBounds_toArray, List.set_cons_zero, List.set_cons_succ, i64_w, i32_w]
            rfl
           refine pure_ (i := 11) (N := some 33) (v := ?_) (a' := ?_) #[true, true, true, true, false, true, true, true, false, false, true, true, false, false, false, false, false, false, false, false, false] rfl rfl (any_of HT_.out (by kernel_rfl)) (fun _ _ _ h => h) (Or.inl ⟨by rfl, ?_⟩) ?_ ?_
           rotate_left
           ·intro w'
            go_simp
            with_reducible rfl
           rotate_left
           ·simp only [Act.put, List.setIfInBounds_toArray, List.set_cons_zero, List.set_cons_succ, i64_w, i32_w]
            rfl
           refine pure_ (i := 12) (N := some 34) (v := ?_) (a' := ?_) #[true, true, true, true, false, true, true, true, false, false, true, true, true, false, false, false, false, false, false, false, false] rfl rfl (any_of HT_.out (by kernel_rfl)) (fun _ _ _ h => h) (Or.inl ⟨by rfl, ?_⟩) ?_ ?_
           rotate_left
           ·intro w'
            go_simp
            with_reducible rfl
           rotate_left
           ·simp only [Act.put, List.setIfInBounds_toArray, List.set_cons_zero, List.set_cons_succ, i64_w, i32_w]
            rfl
           refine pure_ (i := 14) (N := some 36) (v := ?_) (a' := ?_) #[true, true, true, true, false, true, true, true, false, false, true, true, true, false, true, false, false, false, false, false, false] rfl rfl (any_of HT_.out (by kernel_rfl)) (fun _ _ _ h => h) (Or.inl ⟨by rfl, ?_⟩) ?_ ?_
           rotate_left
           ·intro w'
            go_simp
            with_reducible rfl
           rotate_left
           ·simp only [Act.put, List.setIfInBounds_toArray, List.set_cons_zero, List.set_cons_succ, i64_w, i32_w]
            rfl
           refine pure_ (i := 15) (N := some 37) (v := ?_) (a' := ?_) #[true, true, true, true, false, true, true, true, false, false, true, true, true, false, true, true, false, false, false, false, false] rfl rfl (any_of HT_.out (by kernel_rfl)) (fun _ _ _ h => h) (Or.inl ⟨by rfl, ?_⟩) ?_ ?_
           rotate_left
           ·intro w'
            go_simp
            with_reducible rfl
           rotate_left
           ·simp only [Act.put, List.setIfInBounds_toArray, List.set_cons_zero, List.set_cons_succ, i64_w, i32_w]
            rfl
           refine pure_ (i := 16) (N := some 38) (v := ?_) (a' := ?_) #[true, true, true, true, false, true, true, true, false, false, true, true, true, false, true, true, true, false, false, false, false] rfl rfl (any_of HT_.out (by kernel_rfl)) (fun _ _ _ h => h) (Or.inl ⟨by rfl, ?_⟩) ?_ ?_
           rotate_left
           ·intro w'
            go_simp
            with_reducible rfl
           rotate_left
           ·simp only [Act.put, List.setIfInBounds_toArray, List.set_cons_zero, List.set_cons_succ, i64_w, i32_w]
            rfl
           refine take_ (i := 4) (N := some 26) (v := ?_) (a' := ?_) #[true, true, true, true, true, true, true, true, false, false, true, true, true, false, true, true, true, false, false, false, false] rfl rfl (take_ofW HT_.out HW_.out (by kernel_rfl)) (fun _ _ _ h => h) (Or.inl ⟨by rfl, ?_⟩) hHeld ?_ ?_
           rotate_left
           ·rintro w' ⟨s0, s1, s2, s3, s4, s5, s6, s7⟩
            go_simp
            with_reducible rfl
           rotate_left
           ·simp only [Act.put, List.setIfInBounds_toArray, List.set_cons_zero, List.set_cons_succ, i64_w, i32_w]
            rfl
           refine take_ (i := 8) (N := some 30) (v := ?_) (a' := ?_) #[true, true, true, true, true, true, true, true, true, false, true, true, true, false, true, true, true, false, false, false, false] rfl rfl (take_ofW HT_.out HW_.out (by kernel_rfl)) (fun _ _ _ h => h) (Or.inl ⟨by rfl, ?_⟩) hHeld ?_ ?_
           rotate_left
           ·rintro w' ⟨s0, s1, s2, s3, s4, s5, s6, s7⟩
            go_simp
            with_reducible rfl
           rotate_left
           ·simp only [Act.put, List.setIfInBounds_toArray, List.set_cons_zero, List.set_cons_succ, i64_w, i32_w]
            rfl
           refine pure_ (i := 9) (N := some 31) (v := ?_) (a' := ?_) #[true, true, true, true, true, true, true, true, true, true, true, true, true, false, true, true, true, false, false, false, false] rfl rfl (any_of HT_.out (by kernel_rfl)) (fun _ _ _ h => h) (Or.inl ⟨by rfl, ?_⟩) ?_ ?_
           rotate_left
           ·intro w'
            go_simp
            with_reducible rfl
           rotate_left
           ·simp only [Act.put, List.setIfInBounds_toArray, List.set_cons_zero, List.set_cons_succ, i64_w, i32_w]
            rfl
           refine take_ (i := 13) (N := some 35) (v := ?_) (a' := ?_) #[true, true, true, true, true, true, true, true, true, true, true, true, true, true, true, true, true, false, false, false, false] rfl rfl (take_ofW HT_.out HW_.out (by kernel_rfl)) (fun _ _ _ h => h) (Or.inl ⟨by rfl, ?_⟩) hHeld ?_ ?_
           rotate_left
           ·rintro w' ⟨s0, s1, s2, s3, s4, s5, s6, s7⟩
            go_simp
            with_reducible rfl
           rotate_left
           ·simp only [Act.put, List.setIfInBounds_toArray, List.set_cons_zero, List.set_cons_succ, i64_w, i32_w]
            rfl
           refine take_ (i := 17) (N := some 39) (v := ?_) (a' := ?_) #[true, true, true, true, true, true, true, true, true, true, true, true, true, true, true, true, true, true, false, false, false] rfl rfl (take_ofW HT_.out HW_.out (by kernel_rfl)) (fun _ _ _ h => h) (Or.inl ⟨by rfl, ?_⟩) hHeld ?_ ?_
           rotate_left
           ·rintro w' ⟨s0, s1, s2, s3, s4, s5, s6, s7⟩
            go_simp
            with_reducible rfl
           rotate_left
           ·simp only [Act.put, List.setIfInBounds_toArray, List.set_cons_zero, List.set_cons_succ, i64_w, i32_w]
            rfl
           refine pure_ (i := 18) (N := some 40) (v := ?_) (a' := ?_) #[true, true, true, true, true, true, true, true, true, true, true, true, true, true, true, true, true, true, true, false, false] rfl rfl (any_of HT_.out (by kernel_rfl)) (fun _ _ _ h => h) (Or.inl ⟨by rfl, ?_⟩) ?_ ?_
           rotate_left
           ·intro w'
            go_simp
            with_reducible rfl
           rotate_left
           ·simp only [Act.put, List.setIfInBounds_toArray, List.set_cons_zero, List.set_cons_succ, i64_w, i32_w]
            rfl
           refine one_ (i := 19) (N := some 41) #[true, true, true, true, true, true, true, true, true, true, true, true, true, true, true, true, true, true, true, true, false] rfl rfl (one_of HT_.out (by kernel_rfl)) (by decide) (fun K hK => ?_)
           refine goes_ Try.func49 (by kernel_rfl) rfl #[.slice Ao22 x7_1.length co22, .int .i64 ji14, .int .i64 ji15] (by rfl) rfl rfl (by (try simp only [List.map_toArray, List.map_cons, List.map_nil]); first | done | (simp only [hji14, hji15]; rfl) | rfl | (simp only [List.length_drop, List.length_take]; rfl)) ?_
           with_reducible refine (span_add.calls (fun k_ => some k_ = (.slice Ao22 x7_1.length co22 : Value).ownBlock) (.slice Ao22 x7_1.length co22) x7_1 ji14 ji15 t404 w _ ?side1 ?side2 A16.out).mono ?_
           (case side1 => repeat (first | (with_reducible first | exact HB.out | apply below_alloc | apply pw_below_drewN | apply below_drew1) | exact HB.out))
           (case side2 => exact Kd.R_tight rfl HO_7.out)
           rintro e w23 ⟨v405, rfl, ho0, hb, hkp⟩
           have HS0_ := cell_kept (hHeld.1) hkp (by first | (rw [add_block]; exact (fun hs_ => ((Kd.V_blk (HO_0.out) (by decide) (by assumption) (by first | assumption | simp)).2) hs_)) | (show ¬ _; simp only [add_block]; exact (fun hs_ => ((Kd.V_blk (HO_0.out) (by decide) (by assumption) (by first | assumption | simp)).2) hs_)) | exact (fun hs_ => ((Kd.V_blk (HO_0.out) (by decide) (by assumption) (by first | assumption | simp)).2) hs_))
           have HS1_ := cell_kept (hHeld.2.1) hkp (by first | (rw [add_block]; exact (fun hs_ => ((Kd.V_blk (HO_0.out) (by decide) (by assumption) (by first | assumption | simp)).2) hs_)) | (show ¬ _; simp only [add_block]; exact (fun hs_ => ((Kd.V_blk (HO_0.out) (by decide) (by assumption) (by first | assumption | simp)).2) hs_)) | exact (fun hs_ => ((Kd.V_blk (HO_0.out) (by decide) (by assumption) (by first | assumption | simp)).2) hs_))
           have HS2_ := cell_kept (hHeld.2.2.1) hkp (by first | (rw [add_block]; exact (fun hs_ => ((Kd.V_blk (HO_1.out) (by decide) (by assumption) (by first | assumption | simp)).2) hs_)) | (show ¬ _; simp only [add_block]; exact (fun hs_ => ((Kd.V_blk (HO_1.out) (by decide) (by assumption) (by first | assumption | simp)).2) hs_)) | exact (fun hs_ => ((Kd.V_blk (HO_1.out) (by decide) (by assumption) (by first | assumption | simp)).2) hs_))
           have HS3_ := cell_kept (hHeld.2.2.2.1) hkp (by first | (rw [add_block]; exact (fun hs_ => ((Kd.V_blk (HO_1.out) (by decide) (by assumption) (by first | assumption | simp)).2) hs_)) | (show ¬ _; simp only [add_block]; exact (fun hs_ => ((Kd.V_blk (HO_1.out) (by decide) (by assumption) (by first | assumption | simp)).2) hs_)) | exact (fun hs_ => ((Kd.V_blk (HO_1.out) (by decide) (by assumption) (by first | assumption | simp)).2) hs_))
           have HS4_ := cell_kept (hHeld.2.2.2.2.1) hkp (by first | (rw [add_block]; exact (fun hs_ => ((Kd.V_blk (HO_0.out) (by decide) (by assumption) (by first | assumption | simp)).2) hs_)) | (show ¬ _; simp only [add_block]; exact (fun hs_ => ((Kd.V_blk (HO_0.out) (by decide) (by assumption) (by first | assumption | simp)).2) hs_)) | exact (fun hs_ => ((Kd.V_blk (HO_0.out) (by decide) (by assumption) (by first | assumption | simp)).2) hs_))
           have HS5_ := cell_kept (hHeld.2.2.2.2.2.1) hkp (by first | (rw [add_block]; exact (fun hs_ => ((Kd.V_blk (HO_0.out) (by decide) (by assumption) (by first | assumption | simp)).2) hs_)) | (show ¬ _; simp only [add_block]; exact (fun hs_ => ((Kd.V_blk (HO_0.out) (by decide) (by assumption) (by first | assumption | simp)).2) hs_)) | exact (fun hs_ => ((Kd.V_blk (HO_0.out) (by decide) (by assumption) (by first | assumption | simp)).2) hs_))
           have HS6_ := cell_kept (hHeld.2.2.2.2.2.2.1) hkp (by first | (rw [add_block]; exact (fun hs_ => ((Kd.V_blk (HO_1.out) (by decide) (by assumption) (by first | assumption | simp)).2) hs_)) | (show ¬ _; simp only [add_block]; exact (fun hs_ => ((Kd.V_blk (HO_1.out) (by decide) (by assumption) (by first | assumption | simp)).2) hs_)) | exact (fun hs_ => ((Kd.V_blk (HO_1.out) (by decide) (by assumption) (by first | assumption | simp)).2) hs_))
           have HS7_ := cell_kept (hHeld.2.2.2.2.2.2.2) hkp (by first | (rw [add_block]; exact (fun hs_ => ((Kd.V_blk (HO_1.out) (by decide) (by assumption) (by first | assumption | simp)).2) hs_)) | (show ¬ _; simp only [add_block]; exact (fun hs_ => ((Kd.V_blk (HO_1.out) (by decide) (by assumption) (by first | assumption | simp)).2) hs_)) | exact (fun hs_ => ((Kd.V_blk (HO_1.out) (by decide) (by assumption) (by first | assumption | simp)).2) hs_))
           refine ⟨_, rfl, ?_⟩
           have n0_ := Aside0.mk (Kd.V_mono (ok' := fun k_ => ((P0_ k_ ∨ P1_ k_) ∨ w.heap.size ≤ k_) ∧ some k_ ≠ (v405 : Value).ownBlock) (Kd.V_keptB (HO_0.out) hkp (fun k_ hk_ hs_ => (hk_.2) hs_)) (fun k_ hk_ => ⟨hk_.1.1, fun e_ => Or.elim (ho0.1 k_ e_.symm) (fun hs_ => hk_.2.1 hs_) (fun hn_ => Nat.not_le.2 hk_.2.2 hn_)⟩))
           have n1_ := Aside0.mk (Kd.V_mono (ok' := fun k_ => ((P0_ k_ ∨ P1_ k_) ∨ w.heap.size ≤ k_) ∧ some k_ ≠ (v405 : Value).ownBlock) (Kd.V_keptB (HO_1.out) hkp (fun k_ hk_ hs_ => (hk_.2) hs_)) (fun k_ hk_ => ⟨hk_.1.1, fun e_ => Or.elim (ho0.1 k_ e_.symm) (fun hs_ => hk_.2.1 hs_) (fun hn_ => Nat.not_le.2 hk_.2.2 hn_)⟩))
           have n2_ := Aside0.mk (Kd.R_mono (ok' := fun k_ => (w.heap.size ≤ k_)) ho0 (fun k_ hk_ => Or.elim hk_ (fun hs_ => (HO_7.out.1 k_ (hs_).symm)) (fun hn_ => (Nat.le_trans (below_size (by repeat (first | (with_reducible first | exact HB.out | apply below_alloc | apply pw_below_drewN | apply below_drew1) | exact HB.out))) hn_))))
           have n3_ := Aside0.mk (hb)
           clear HO_0
           clear HO_1
           clear HB
           clear HO_7
           have HO_0 := n0_
           have HO_1 := n1_
           have HO406 := n2_
           have HB := n3_
           clear n0_ n1_ n2_ n3_
           (try clear hb)
           (try clear hkp)
           (try clear ho0)
           refine hK.out _ _ ⟨HS0_, HS1_, HS2_, HS3_, HS4_, HS5_, HS6_, HS7_⟩ (fun hHeld => ?_)
           clear hK K
           refine norm_ (a' := ?_) ?_ ?_
           rotate_left
           ·show Act.put _ (some 41) _ = _
            simp only [Act.put, List.setIfInBounds_toArray, List.set_cons_zero, List.set_cons_succ, i64_w, i32_w]
            rfl
           refine pure_ (i := 20) (N := some 7) (v := ?_) (a' := ?_) #[true, true, true, true, true, true, true, true, true, true, true, true, true, true, true, true, true, true, true, true, true] rfl rfl (any_of HT_.out (by kernel_rfl)) (fun _ _ _ h => h) (Or.inl ⟨by rfl, ?_⟩) ?_ ?_
           rotate_left
           ·intro w'
            go_simp
            with_reducible rfl
           rotate_left
           ·simp only [Act.put, List.setIfInBounds_toArray, List.set_cons_zero, List.set_cons_succ, i64_w, i32_w]
            rfl
           refine done_ (done_of HT_.out (by kernel_rfl)) ?_
           try go_wp2
           have n0_ := Aside0.mk (Kd.V_drew HO_0.out)
           have n1_ := Aside0.mk (Kd.V_drew HO_1.out)
           have n2_ := Aside0.mk (Kd.R_drew HO406.out)
           have n3_ := Aside0.mk (below_drew1 HB.out)
           clear HO_0
           clear HO_1
           clear HO406
           clear HB
           have HO_0 := n0_
           have HO_1 := n1_
           have HO406 := n2_
           have HB := n3_
           clear n0_ n1_ n2_ n3_
           have p407 : 0 ≤ (0 : Int) := (by omega)
           have q407 : 0 < (x0_1.length : Int) := of_decide_eq_true (by first | (with_reducible assumption) | assumption)
           obtain ⟨ad407, e407, hx407_0, hx407_1⟩ := at_T36 (Kd.V_reads' HO_0.out).2.2 0 p407 q407
           obtain rfl : ad400 = ad407 := (by injection e407)
           have qi407 : (0 < x0_1.length) = True := eq_true (by omega)
           (try rw [show ((0 : Int)).toNat = 0 from rfl] at hx407_0)
           (try rw [show 0 * 2 = 0 from rfl] at hx407_0)
           (try rw [Addr.add_zero'] at hx407_0)
           (try rw [show ((0 : Int)).toNat = 0 from rfl] at hx407_1)
           (try rw [show 0 * 2 = 0 from rfl] at hx407_1)
           (try rw [Addr.add_zero'] at hx407_1)
           replace p407 := eq_true p407
           replace q407 := eq_true q407
           have p408 : 0 ≤ (0 : Int) := (by omega)
           have q408 : 0 < (x1_1.length : Int) := of_decide_eq_true (by first | (with_reducible assumption) | assumption)
           obtain ⟨ad408, e408, hx408_0, hx408_1⟩ := at_T36 (Kd.V_reads' HO_1.out).2.2 0 p408 q408
           obtain rfl : ad401 = ad408 := (by injection e408)
           have qi408 : (0 < x1_1.length) = True := eq_true (by omega)
           (try rw [show ((0 : Int)).toNat = 0 from rfl] at hx408_0)
           (try rw [show 0 * 2 = 0 from rfl] at hx408_0)
           (try rw [Addr.add_zero'] at hx408_0)
           (try rw [show ((0 : Int)).toNat = 0 from rfl] at hx408_1)
           (try rw [show 0 * 2 = 0 from rfl] at hx408_1)
           (try rw [Addr.add_zero'] at hx408_1)
           replace p408 := eq_true p408
           replace q408 := eq_true q408
           refine start_ (n := 9) (S := fun w' => w'.cell? ad400 = some (.int .i64 ((rd_T36 x0_1 0).f0)) ∧ w'.cell? ⟨ad400.block, ad400.off + 1, none⟩ = some (.int .i64 ((rd_T36 x0_1 0).f1)) ∧ w'.cell? ad401 = some (.int .i64 ((rd_T36 x1_1 0).f0)) ∧ w'.cell? ⟨ad401.block, ad401.off + 1, none⟩ = some (.int .i64 ((rd_T36 x1_1 0).f1))) (ds := []) #[false, false, false, false, false, false, false, false, false] (by kernel_rfl) rfl rfl ⟨hx407_0, hx407_1, hx408_0, hx408_1⟩ (fun hHeld => ?_); refine with_tabW span_Meet.tab7 span_Meet.bits7 (fun HT_ HW_ => ?_)
           generalize w23.drew = w24 at HO_0 HO_1 HO406 HB hx407_0 hx407_1 hx408_0 hx408_1 hHeld ⊢
           refine pure_ (i := 0) (N := some 42) (v := ?_) (a' := ?_) #[true, false, false, false, false, false, false, false, false] rfl rfl (any_of HT_.out (by kernel_rfl)) (fun _ _ _ h => h) (Or.inl ⟨by rfl, ?_⟩) ?_ ?_
           rotate_left
           ·intro w'
            go_simp
            with_reducible rfl
           rotate_left
           ·simp only [Act.put, List.setIfInBounds_toArray, List.set_cons_zero, List.set_cons_succ, i64_w, i32_w]
            rfl
           refine pure_ (i := 1) (N := some 43) (v := ?_) (a' := ?_) #[true, true, false, false, false, false, false, false, false] rfl rfl (any_of HT_.out (by kernel_rfl)) (fun _ _ _ h => h) (Or.inl ⟨by rfl, ?_⟩) ?_ ?_
           rotate_left
           ·intro w'
            go_simp
            with_reducible rfl
           rotate_left
           ·simp only [Act.put, List.setIfInBounds_toArray, List.set_cons_zero, List.set_cons_succ, i64_w, i32_w]
            rfl
           refine pure_ (i := 2) (N := some 44) (v := ?_) (a' := ?_) #[true, true, true, false, false, false, false, false, false] rfl rfl (any_of HT_.out (by kernel_rfl)) (fun _ _ _ h => h) (Or.inl ⟨by rfl, ?_⟩) ?_ ?_
           rotate_left
           ·intro w'
            go_simp
            with_reducible rfl
           rotate_left
           ·simp only [Act.put, List.setIfInBounds_toArray, List.set_cons_zero, List.set_cons_succ, i64_w, i32_w]
            rfl
           refine pure_ (i := 4) (N := some 46) (v := ?_) (a' := ?_) #[true, true, true, false, true, false, false, false, false] rfl rfl (any_of HT_.out (by kernel_rfl)) (fun _ _ _ h => h) (Or.inl ⟨by rfl, ?_⟩) ?_ ?_
           rotate_left
           ·intro w'
            go_simp
            with_reducible rfl
           rotate_left
           ·simp only [Act.put, List.setIfInBounds_toArray, List.set_cons_zero, List.set_cons_succ, i64_w, i32_w]
            rfl
           refine pure_ (i := 5) (N := some 47) (v := ?_) (a' := ?_) #[true, true, true, false, true, true, false, false, false] rfl rfl (any_of HT_.out (by kernel_rfl)) (fun _ _ _ h => h) (Or.inl ⟨by rfl, ?_⟩) ?_ ?_
           rotate_left
           ·intro w'
            go_simp
            with_reducible rfl
           rotate_left
           ·simp only [Act.put, List.setIfInBounds_toArray, List.set_cons_zero, List.set_cons_succ, i64_w, i32_w]
            rfl
           refine pure_ (i := 6) (N := some 48) (v := ?_) (a' := ?_) #[true, true, true, false, true, true, true, false, false] rfl rfl (any_of HT_.out (by kernel_rfl)) (fun _ _ _ h => h) (Or.inl ⟨by rfl, ?_⟩) ?_ ?_
           rotate_left
           ·intro w'
            go_simp
            with_reducible rfl
           rotate_left
           ·simp only [Act.put, List.setIfInBounds_toArray, List.set_cons_zero, List.set_cons_succ, i64_w, i32_w]
            rfl
           refine take_ (i := 3) (N := some 45) (v := ?_) (a' := ?_) #[true, true, true, true, true, true, true, false, false] rfl rfl (take_ofW HT_.out HW_.out (by kernel_rfl)) (fun _ _ _ h => h) (Or.inl ⟨by rfl, ?_⟩) hHeld ?_ ?_
           rotate_left
           ·rintro w' ⟨s0, s1, s2, s3⟩
            go_simp
            with_reducible rfl
           rotate_left
           ·simp only [Act.put, List.setIfInBounds_toArray, List.set_cons_zero, List.set_cons_succ, i64_w, i32_w]
            rfl
           refine take_ (i := 7) (N := some 49) (v := ?_) (a' := ?_) #[true, true, true, true, true, true, true, true, false] rfl rfl (take_ofW HT_.out HW_.out (by kernel_rfl)) (fun _ _ _ h => h) (Or.inl ⟨by rfl, ?_⟩) hHeld ?_ ?_
           rotate_left
           ·rintro w' ⟨s0, s1, s2, s3⟩
            go_simp
            with_reducible rfl
           rotate_left
           ·simp only [Act.put, List.setIfInBounds_toArray, List.set_cons_zero, List.set_cons_succ, i64_w, i32_w]
            rfl
           refine pure_ (i := 8) (N := some 50) (v := ?_) (a' := ?_) #[true, true, true, true, true, true, true, true, true] rfl rfl (any_of HT_.out (by kernel_rfl)) (fun _ _ _ h => h) (Or.inl ⟨by rfl, ?_⟩) ?_ ?_
           rotate_left
           ·intro w'
            go_simp
            with_reducible rfl
           rotate_left
           ·simp only [Act.put, List.setIfInBounds_toArray, List.set_cons_zero, List.set_cons_succ, i64_w, i32_w]
            rfl
           refine done_ (done_of HT_.out (by kernel_rfl)) ?_
           have q25 : (1 : Int) ≤ ((x0_1.length : Int) : Int) := of_decide_eq_true (by first | (with_reducible assumption) | assumption)
           obtain ⟨i025, hi025, _, hsz25, _⟩ := info_parts info36
           have hroom25 : x0_1.length ≤ co20 := (Kd.V_reads' HO_0.out).2.1
           have hC25 : Kd.F k36 _ _ (some ad400) x0_1.length x0_1 := (Kd.V_at (base := w.heap.size) HO_0.out).2.2
           have hcut25 := cut_from (P := Try.prog) 22 36 .i64 Try.underlying22 hi025 2 hsz25 (some ad400) x0_1.length co20 1 (by omega) q25
           have hr25 := Kd.F_cut (m := (1 : Int).toNat) (c := co20) hC25 (by omega) hroom25
           obtain ⟨A25, hA25⟩ : ∃ A1, A1 = (if co20 = (1 : Int).toNat then (some ad400) else ((some ad400) : Option Addr).map (·.add ((1 : Int).toNat * 2))) := ⟨_, rfl⟩
           obtain ⟨c25, hc25⟩ : ∃ c1, c1 = co20 - (1 : Int).toNat := ⟨_, rfl⟩
           have hy25 : y409.length = x0_1.length - (1 : Int).toNat := (by rw [Ny409.out, List.length_drop] <;> omega)
           rw [show (x0_1).drop (1 : Int).toNat = y409 from Ny409.out.symm] at hr25
           replace hr25 : Kd.F k36 _ _ A25 y409.length y409 := (by rw [hA25]; exact hr25)
           rw [← hy25, ← hA25, ← hc25] at hcut25
           have HO413 := Aside0.mk (show Kd.V k36 36 _ w.heap.size _ (.slice A25 y409.length c25) y409 from Kd.V_mk (by rw [hy25, hc25]; exact Nat.sub_le_sub_right hroom25 _) hr25)
           have HC413 := Aside0.mk (show y409.length ≤ c25 from by rw [hy25, hc25]; exact Nat.sub_le_sub_right hroom25 _)
           clear hr25 hC25 hroom25 hi025 hsz25 hc25
           have KY25 := Aside0.mk hy25
           have KA25 := Aside0.mk hA25
           clear hy25 hA25
           replace q25 := eq_true q25
           try go_wp2
           go_roundg kj5
           case measure => have := HK1.out; have := HJ5.out; omega
           case rel => exact ⟨(y409), (x1_1), (t404), H', ⟨by have := HK1.out; have := HJ5.out; omega⟩, ⟨by (with_reducible repeat (first | apply Kd.V_alloc | apply Kd.V_drewN | apply Kd.V_drew)); exact HO413.out⟩, ⟨by (with_reducible repeat (first | apply Kd.V_alloc | apply Kd.V_drewN | apply Kd.V_drew)); exact HO_1.out⟩, ⟨by (with_reducible repeat (first | apply Kd.R_alloc | apply Kd.R_drewN | apply Kd.R_drew)); exact HO406.out⟩, ⟨by repeat (first | (with_reducible first | exact HB.out | apply below_alloc | apply pw_below_drewN | apply below_drew1) | exact HB.out)⟩⟩
          ·rw [if_neg c18] at H
           exact absurd H (by simp)
         ·rw [if_neg c17] at H
          have c17b0 : decide (((rd_T36 x0_1 0).f1) ≤ ((rd_T36 x1_1 0).f1)) = false := decide_eq_false c17
          clear c17
          by_cases c26 : 1 ≤ (x1_1.length : Int)
          ·rw [if_pos c26] at H
           have c26b0 := eq_true c26
           have c26b1 : decide (1 ≤ (x1_1.length : Int)) = true := decide_eq_true c26
           clear c26
           obtain ⟨y414, hy414⟩ : ∃ y_ : List (S36), y_ = (x1_1.drop 1) := ⟨_, rfl⟩
           replace H : (span_Meet.l0 kj5 x0_1 y414 t404) = some (r1, r2) := by first | (rw [hy414]; with_reducible exact H) | (have H2_ := (Option.bind_some _ _).symm.trans H; rw [hy414]; with_reducible exact H2_) | (have H2_ := (Option.bind_some _ _).symm.trans H; with_reducible exact H2_) | with_reducible exact H | (rw [hy414]; exact H) | exact H
           have Ny414 := Aside0.mk hy414
           clear hy414
           have H' := Aside0.mk H
           clear H
           try go_wp2
           have n0_ := Aside0.mk (Kd.V_drew HO_0.out)
           have n1_ := Aside0.mk (Kd.V_drew HO_1.out)
           have n2_ := Aside0.mk (Kd.R_drew HO_7.out)
           have n3_ := Aside0.mk (below_drew1 HB.out)
           clear HO_0
           clear HO_1
           clear HO_7
           clear HB
           have HO_0 := n0_
           have HO_1 := n1_
           have HO_7 := n2_
           have HB := n3_
           clear n0_ n1_ n2_ n3_
           obtain ⟨Ao28, co28, eo28⟩ := Kd.V_slice HO_0.out
           (first | subst eo28 | (injection eo28 with f1_ f2_ f3_; have f4_ := f1_.symm; have f5_ := f3_.symm; clear f1_ f2_ f3_; subst f4_; subst f5_))
           have p400 : 0 ≤ (0 : Int) := (by omega)
           have q400 : 0 < (x0_1.length : Int) := of_decide_eq_true (by first | (with_reducible assumption) | assumption)
           obtain ⟨ad400, e400, hx400_0, hx400_1⟩ := at_T36 (Kd.V_reads' HO_0.out).2.2 0 p400 q400
           cases e400
           have qi400 : (0 < x0_1.length) = True := eq_true (by omega)
           (try rw [show ((0 : Int)).toNat = 0 from rfl] at hx400_0)
           (try rw [show 0 * 2 = 0 from rfl] at hx400_0)
           (try rw [Addr.add_zero'] at hx400_0)
           (try rw [show ((0 : Int)).toNat = 0 from rfl] at hx400_1)
           (try rw [show 0 * 2 = 0 from rfl] at hx400_1)
           (try rw [Addr.add_zero'] at hx400_1)
           replace p400 := eq_true p400
           replace q400 := eq_true q400
           obtain ⟨Ao29, co29, eo29⟩ := Kd.V_slice HO_1.out
           (first | subst eo29 | (injection eo29 with f1_ f2_ f3_; have f4_ := f1_.symm; have f5_ := f3_.symm; clear f1_ f2_ f3_; subst f4_; subst f5_))
           have p401 : 0 ≤ (0 : Int) := (by omega)
           have q401 : 0 < (x1_1.length : Int) := of_decide_eq_true (by first | (with_reducible assumption) | assumption)
           obtain ⟨ad401, e401, hx401_0, hx401_1⟩ := at_T36 (Kd.V_reads' HO_1.out).2.2 0 p401 q401
           cases e401
           have qi401 : (0 < x1_1.length) = True := eq_true (by omega)
           (try rw [show ((0 : Int)).toNat = 0 from rfl] at hx401_0)
           (try rw [show 0 * 2 = 0 from rfl] at hx401_0)
           (try rw [Addr.add_zero'] at hx401_0)
           (try rw [show ((0 : Int)).toNat = 0 from rfl] at hx401_1)
           (try rw [show 0 * 2 = 0 from rfl] at hx401_1)
           (try rw [Addr.add_zero'] at hx401_1)
           replace p401 := eq_true p401
           replace q401 := eq_true q401
           have p402 : 0 ≤ (0 : Int) := (by omega)
           have q402 : 0 < (x0_1.length : Int) := of_decide_eq_true (by first | (with_reducible assumption) | assumption)
           obtain ⟨ad402, e402, hx402_0, hx402_1⟩ := at_T36 (Kd.V_reads' HO_0.out).2.2 0 p402 q402
           obtain rfl : ad400 = ad402 := (by injection e402)
           have qi402 : (0 < x0_1.length) = True := eq_true (by omega)
           (try rw [show ((0 : Int)).toNat = 0 from rfl] at hx402_0)
           (try rw [show 0 * 2 = 0 from rfl] at hx402_0)
           (try rw [Addr.add_zero'] at hx402_0)
           (try rw [show ((0 : Int)).toNat = 0 from rfl] at hx402_1)
           (try rw [show 0 * 2 = 0 from rfl] at hx402_1)
           (try rw [Addr.add_zero'] at hx402_1)
           replace p402 := eq_true p402
           replace q402 := eq_true q402
           have p403 : 0 ≤ (0 : Int) := (by omega)
           have q403 : 0 < (x1_1.length : Int) := of_decide_eq_true (by first | (with_reducible assumption) | assumption)
           obtain ⟨ad403, e403, hx403_0, hx403_1⟩ := at_T36 (Kd.V_reads' HO_1.out).2.2 0 p403 q403
           obtain rfl : ad401 = ad403 := (by injection e403)
           have qi403 : (0 < x1_1.length) = True := eq_true (by omega)
           (try rw [show ((0 : Int)).toNat = 0 from rfl] at hx403_0)
           (try rw [show 0 * 2 = 0 from rfl] at hx403_0)
           (try rw [Addr.add_zero'] at hx403_0)
           (try rw [show ((0 : Int)).toNat = 0 from rfl] at hx403_1)
           (try rw [show 0 * 2 = 0 from rfl] at hx403_1)
           (try rw [Addr.add_zero'] at hx403_1)
           replace p403 := eq_true p403
           replace q403 := eq_true q403
           obtain ⟨Ao30, co30, eo30⟩ := Kd.R_slice HO_7.out
           (first | subst eo30 | (injection eo30 with f1_ f2_ f3_; have f4_ := f1_.symm; have f5_ := f3_.symm; clear f1_ f2_ f3_; subst f4_; subst f5_))
           refine start_ (n := 21) (S := fun w' => w'.cell? ad400 = some (.int .i64 ((rd_T36 x0_1 0).f0)) ∧ w'.cell? ⟨ad400.block, ad400.off + 1, none⟩ = some (.int .i64 ((rd_T36 x0_1 0).f1)) ∧ w'.cell? ad401 = some (.int .i64 ((rd_T36 x1_1 0).f0)) ∧ w'.cell? ⟨ad401.block, ad401.off + 1, none⟩ = some (.int .i64 ((rd_T36 x1_1 0).f1)) ∧ w'.cell? ad400 = some (.int .i64 ((rd_T36 x0_1 0).f0)) ∧ w'.cell? ⟨ad400.block, ad400.off + 1, none⟩ = some (.int .i64 ((rd_T36 x0_1 0).f1)) ∧ w'.cell? ad401 = some (.int .i64 ((rd_T36 x1_1 0).f0)) ∧ w'.cell? ⟨ad401.block, ad401.off + 1, none⟩ = some (.int .i64 ((rd_T36 x1_1 0).f1))) (ds := []) #[false, false, false, false, false, false, false, false, false, false, false, false, false, false, false, false, false, false, false, false, false] (by kernel_rfl) rfl rfl ⟨hx400_0, hx400_1, hx401_0, hx401_1, hx402_0, hx402_1, hx403_0, hx403_1⟩ (fun hHeld => ?_); refine with_tabW span_Meet.tab6 span_Meet.bits6 (fun HT_ HW_ => ?_)
           generalize wc.drew = w27 at HO_0 HO_1 HO_7 HB hx400_0 hx400_1 hx401_0 hx401_1 hx402_0 hx402_1 hx403_0 hx403_1 hHeld ⊢
           refine pure_ (i := 0) (N := some 22) (v := ?_) (a' := ?_) #[true, false, false, false, false, false, false, false, false, false, false, false, false, false, false, false, false, false, false, false, false] rfl rfl (any_of HT_.out (by kernel_rfl)) (fun _ _ _ h => h) (Or.inl ⟨by rfl, ?_⟩) ?_ ?_
           rotate_left
           ·intro w'
            go_simp
            with_reducible rfl
           rotate_left
           ·simp only [Act.put, List.setIfInBounds_toArray, List.set_cons_zero, List.set_cons_succ, i64_w, i32_w]
            rfl
           refine pure_ (i := 1) (N := some 23) (v := ?_) (a' := ?_) #[true, true, false, false, false, false, false, false, false, false, false, false, false, false, false, false, false, false, false, false, false] rfl rfl (any_of HT_.out (by kernel_rfl)) (fun _ _ _ h => h) (Or.inl ⟨by rfl, ?_⟩) ?_ ?_
           rotate_left
           ·intro w'
            go_simp
            with_reducible rfl
           rotate_left
           ·simp only [Act.put, List.setIfInBounds_toArray, List.set_cons_zero, List.set_cons_succ, i64_w, i32_w]
            rfl
           refine pure_ (i := 2) (N := some 24) (v := ?_) (a' := ?_) #[true, true, true, false, false, false, false, false, false, false, false, false, false, false, false, false, false, false, false, false, false] rfl rfl (any_of HT_.out (by kernel_rfl)) (fun _ _ _ h => h) (Or.inl ⟨by rfl, ?_⟩) ?_ ?_
           rotate_left
           ·intro w'
            go_simp
            with_reducible rfl
           rotate_left
           ·simp only [Act.put, List.setIfInBounds_toArray, List.set_cons_zero, List.set_cons_succ, i64_w, i32_w]
            rfl
           refine pure_ (i := 3) (N := some 25) (v := ?_) (a' := ?_) #[true, true, true, true, false, false, false, false, false, false, false, false, false, false, false, false, false, false, false, false, false] rfl rfl (any_of HT_.out (by kernel_rfl)) (fun _ _ _ h => h) (Or.inl ⟨by rfl, ?_⟩) ?_ ?_
           rotate_left
           ·intro w'
            go_simp
            with_reducible rfl
           rotate_left
           ·simp only [Act.put, List.setIfInBounds_toArray, List.set_cons_zero, List.set_cons_succ, i64_w, i32_w]
            rfl
           refine pure_ (i := 5) (N := some 27) (v := ?_) (a' := ?_) #[true, true, true, true, false, true, false, false, false, false, false, false, false, false, false, false, false, false, false, false, false] rfl rfl (any_of HT_.out (by kernel_rfl)) (fun _ _ _ h => h) (Or.inl ⟨by rfl, ?_⟩) ?_ ?_
           rotate_left
           ·intro w'
            go_simp
            with_reducible rfl
           rotate_left
           ·simp only [Act.put, List.setIfInBounds_toArray, List.set_cons_zero, List.set_cons_succ, i64_w, i32_w]
            rfl
           refine pure_ (i := 6) (N := some 28) (v := ?_) (a' := ?_) #[true, true, true, true, false, true, true, false, false, false, false, false, false, false, false, false, false, false, false, false, false] rfl rfl (any_of HT_.out (by kernel_rfl)) (fun _ _ _ h => h) (Or.inl ⟨by rfl, ?_⟩) ?_ ?_
           rotate_left
           ·intro w'
            go_simp
            with_reducible rfl
           rotate_left
           ·simp only [Act.put, List.setIfInBounds_toArray, List.set_cons_zero, List.set_cons_succ, i64_w, i32_w]
            rfl
           refine pure_ (i := 7) (N := some 29) (v := ?_) (a' := ?_) #[true, true, true, true, false, true, true, true, false, false, false, false, false, false, false, false, false, false, false, false, false] rfl rfl (any_of HT_.out (by kernel_rfl)) (fun _ _ _ h => h) (Or.inl ⟨by rfl, ?_⟩) ?_ ?_
           rotate_left
           ·intro w'
            go_simp
            with_reducible rfl
           rotate_left
           ·simp only [Act.put, List.setIfInBounds_toArray, List.set_cons_zero, List.set_cons_succ, i64_w, i32_w]
            rfl
           refine pure_ (i := 10) (N := some 32) (v := ?_) (a' := ?_) #[true, true, true, true, false, true, true, true, false, false, true, false, false, false, false, false, false, false, false, false, false] rfl rfl (any_of HT_.out (by kernel_rfl)) (fun _ _ _ h => h) (Or.inl ⟨by rfl, ?_⟩) ?_ ?_
           rotate_left
           ·intro w'
            go_simp
            with_reducible rfl
           rotate_left
           ·simp only [Act.put, List.setIfInBounds_toArray, List.set_cons_zero, List.set_cons_succ, i64_w, i32_w]
            rfl
           refine pure_ (i := 11) (N := some 33) (v := ?_) (a' := ?_) #[true, true, true, true, false, true, true, true, false, false, true, true, false, false, false, false, false, false, false, false, false] rfl rfl (any_of HT_.out (by kernel_rfl)) (fun _ _ _ h => h) (Or.inl ⟨by rfl, ?_⟩) ?_ ?_
           rotate_left
           ·intro w'
            go_simp
            with_reducible rfl
           rotate_left
           ·simp only [Act.put, List.setIfInBounds_toArray, List.set_cons_zero, List.set_cons_succ, i64_w, i32_w]
            rfl
           refine pure_ (i := 12) (N := some 34) (v := ?_) (a' := ?_) #[true, true, true, true, false, true, true, true, false, false, true, true, true, false, false, false, false, false, false, false, false] rfl rfl (any_of HT_.out (by kernel_rfl)) (fun _ _ _ h => h) (Or.inl ⟨by rfl, ?_⟩) ?_ ?_
           rotate_left
           ·intro w'
            go_simp
            with_reducible rfl
           rotate_left
           ·simp only [Act.put, List.setIfInBounds_toArray, List.set_cons_zero, List.set_cons_succ, i64_w, i32_w]
            rfl
           refine pure_ (i := 14) (N := some 36) (v := ?_) (a' := ?_) #[true, true, true, true, false, true, true, true, false, false, true, true, true, false, true, false, false, false, false, false, false] rfl rfl (any_of HT_.out (by kernel_rfl)) (fun _ _ _ h => h) (Or.inl ⟨by rfl, ?_⟩) ?_ ?_
           rotate_left
           ·intro w'
            go_simp
            with_reducible rfl
           rotate_left
           ·simp only [Act.put, List.setIfInBounds_toArray, List.set_cons_zero, List.set_cons_succ, i64_w, i32_w]
            rfl
           refine pure_ (i := 15) (N := some 37) (v := ?_) (a' := ?_) #[true, true, true, true, false, true, true, true, false, false, true, true, true, false, true, true, false, false, false, false, false] rfl rfl (any_of HT_.out (by kernel_rfl)) (fun _ _ _ h => h) (Or.inl ⟨by rfl, ?_⟩) ?_ ?_
           rotate_left
           ·intro w'
            go_simp
            with_reducible rfl
           rotate_left
           ·simp only [Act.put, List.setIfInBounds_toArray, List.set_cons_zero, List.set_cons_succ, i64_w, i32_w]
            rfl
           refine pure_ (i := 16) (N := some 38) (v := ?_) (a' := ?_) #[true, true, true, true, false, true, true, true, false, false, true, true, true, false, true, true, true, false, false, false, false] rfl rfl (any_of HT_.out (by kernel_rfl)) (fun _ _ _ h => h) (Or.inl ⟨by rfl, ?_⟩) ?_ ?_
           rotate_left
           ·intro w'
            go_simp
            with_reducible rfl
           rotate_left
           ·simp only [Act.put, List.setIfInBounds_toArray, List.set_cons_zero, List.set_cons_succ, i64_w, i32_w]
            rfl
           refine take_ (i := 4) (N := some 26) (v := ?_) (a' := ?_) #[true, true, true, true, true, true, true, true, false, false, true, true, true, false, true, true, true, false, false, false, false] rfl rfl (take_ofW HT_.out HW_.out (by kernel_rfl)) (fun _ _ _ h => h) (Or.inl ⟨by rfl, ?_⟩) hHeld ?_ ?_
           rotate_left
           ·rintro w' ⟨s0, s1, s2, s3, s4, s5, s6, s7⟩
            go_simp
            with_reducible rfl
           rotate_left
           ·simp only [Act.put, List.setIfInBounds_toArray, List.set_cons_zero, List.set_cons_succ, i64_w, i32_w]
            rfl
           refine take_ (i := 8) (N := some 30) (v := ?_) (a' := ?_) #[true, true, true, true, true, true, true, true, true, false, true, true, true, false, true, true, true, false, false, false, false] rfl rfl (take_ofW HT_.out HW_.out (by kernel_rfl)) (fun _ _ _ h => h) (Or.inl ⟨by rfl, ?_⟩) hHeld ?_ ?_
           rotate_left
           ·rintro w' ⟨s0, s1, s2, s3, s4, s5, s6, s7⟩
            go_simp
            with_reducible rfl
           rotate_left
           ·simp only [Act.put, List.setIfInBounds_toArray, List.set_cons_zero, List.set_cons_succ, i64_w, i32_w]
            rfl
           refine pure_ (i := 9) (N := some 31) (v := ?_) (a' := ?_) #[true, true, true, true, true, true, true, true, true, true, true, true, true, false, true, true, true, false, false, false, false] rfl rfl (any_of HT_.out (by kernel_rfl)) (fun _ _ _ h => h) (Or.inl ⟨by rfl, ?_⟩) ?_ ?_
           rotate_left
           ·intro w'
            go_simp
            with_reducible rfl
           rotate_left
           ·simp only [Act.put, List.setIfInBounds_toArray, List.set_cons_zero, List.set_cons_succ, i64_w, i32_w]
            rfl
           refine take_ (i := 13) (N := some 35) (v := ?_) (a' := ?_) #[true, true, true, true, true, true, true, true, true, true, true, true, true, true, true, true, true, false, false, false, false] rfl rfl (take_ofW HT_.out HW_.out (by kernel_rfl)) (fun _ _ _ h => h) (Or.inl ⟨by rfl, ?_⟩) hHeld ?_ ?_
           rotate_left
           ·rintro w' ⟨s0, s1, s2, s3, s4, s5, s6, s7⟩
            go_simp
            with_reducible rfl
           rotate_left
           ·simp only [Act.put, List.setIfInBounds_toArray, List.set_cons_zero, List.set_cons_succ, i64_w, i32_w]
            rfl
           refine take_ (i := 17) (N := some 39) (v := ?_) (a' := ?_) #[true, true, true, true, true, true, true, true, true, true, true, true, true, true, true, true, true, true, false, false, false] rfl rfl (take_ofW HT_.out HW_.out (by kernel_rfl)) (fun _ _ _ h => h) (Or.inl ⟨by rfl, ?_⟩) hHeld ?_ ?_
           rotate_left
           ·rintro w' ⟨s0, s1, s2, s3, s4, s5, s6, s7⟩
            go_simp
            with_reducible rfl
           rotate_left
           ·simp only [Act.put, List.setIfInBounds_toArray, List.set_cons_zero, List.set_cons_succ, i64_w, i32_w]
            rfl
           refine pure_ (i := 18) (N := some 40) (v := ?_) (a' := ?_) #[true, true, true, true, true, true, true, true, true, true, true, true, true, true, true, true, true, true, true, false, false] rfl rfl (any_of HT_.out (by kernel_rfl)) (fun _ _ _ h => h) (Or.inl ⟨by rfl, ?_⟩) ?_ ?_
           rotate_left
           ·intro w'
            go_simp
            with_reducible rfl
           rotate_left
           ·simp only [Act.put, List.setIfInBounds_toArray, List.set_cons_zero, List.set_cons_succ, i64_w, i32_w]
            rfl
           refine one_ (i := 19) (N := some 41) #[true, true, true, true, true, true, true, true, true, true, true, true, true, true, true, true, true, true, true, true, false] rfl rfl (one_of HT_.out (by kernel_rfl)) (by decide) (fun K hK => ?_)
           refine goes_ Try.func49 (by kernel_rfl) rfl #[.slice Ao30 x7_1.length co30, .int .i64 ji14, .int .i64 ji15] (by rfl) rfl rfl (by (try simp only [List.map_toArray, List.map_cons, List.map_nil]); first | done | (simp only [hji14, hji15]; rfl) | rfl | (simp only [List.length_drop, List.length_take]; rfl)) ?_
           with_reducible refine (span_add.calls (fun k_ => some k_ = (.slice Ao30 x7_1.length co30 : Value).ownBlock) (.slice Ao30 x7_1.length co30) x7_1 ji14 ji15 t404 w _ ?side1 ?side2 A16.out).mono ?_
           (case side1 => repeat (first | (with_reducible first | exact HB.out | apply below_alloc | apply pw_below_drewN | apply below_drew1) | exact HB.out))
           (case side2 => exact Kd.R_tight rfl HO_7.out)
           rintro e w31 ⟨v405, rfl, ho0, hb, hkp⟩
           have HS0_ := cell_kept (hHeld.1) hkp (by first | (rw [add_block]; exact (fun hs_ => ((Kd.V_blk (HO_0.out) (by decide) (by assumption) (by first | assumption | simp)).2) hs_)) | (show ¬ _; simp only [add_block]; exact (fun hs_ => ((Kd.V_blk (HO_0.out) (by decide) (by assumption) (by first | assumption | simp)).2) hs_)) | exact (fun hs_ => ((Kd.V_blk (HO_0.out) (by decide) (by assumption) (by first | assumption | simp)).2) hs_))
           have HS1_ := cell_kept (hHeld.2.1) hkp (by first | (rw [add_block]; exact (fun hs_ => ((Kd.V_blk (HO_0.out) (by decide) (by assumption) (by first | assumption | simp)).2) hs_)) | (show ¬ _; simp only [add_block]; exact (fun hs_ => ((Kd.V_blk (HO_0.out) (by decide) (by assumption) (by first | assumption | simp)).2) hs_)) | exact (fun hs_ => ((Kd.V_blk (HO_0.out) (by decide) (by assumption) (by first | assumption | simp)).2) hs_))
           have HS2_ := cell_kept (hHeld.2.2.1) hkp (by first | (rw [add_block]; exact (fun hs_ => ((Kd.V_blk (HO_1.out) (by decide) (by assumption) (by first | assumption | simp)).2) hs_)) | (show ¬ _; simp only [add_block]; exact (fun hs_ => ((Kd.V_blk (HO_1.out) (by decide) (by assumption) (by first | assumption | simp)).2) hs_)) | exact (fun hs_ => ((Kd.V_blk (HO_1.out) (by decide) (by assumption) (by first | assumption | simp)).2) hs_))
           have HS3_ := cell_kept (hHeld.2.2.2.1) hkp (by first | (rw [add_block]; exact (fun hs_ => ((Kd.V_blk (HO_1.out) (by decide) (by assumption) (by first | assumption | simp)).2) hs_)) | (show ¬ _; simp only [add_block]; exact (fun hs_ => ((Kd.V_blk (HO_1.out) (by decide) (by assumption) (by first | assumption | simp)).2) hs_)) | exact (fun hs_ => ((Kd.V_blk (HO_1.out) (by decide) (by assumption) (by first | assumption | simp)).2) hs_))
           have HS4_ := cell_kept (hHeld.2.2.2.2.1) hkp (by first | (rw [add_block]; exact (fun hs_ => ((Kd.V_blk (HO_0.out) (by decide) (by assumption) (by first | assumption | simp)).2) hs_)) | (show ¬ _; simp only [add_block]; exact (fun hs_ => ((Kd.V_blk (HO_0.out) (by decide) (by assumption) (by first | assumption | simp)).2) hs_)) | exact (fun hs_ => ((Kd.V_blk (HO_0.out) (by decide) (by assumption) (by first | assumption | simp)).2) hs_))
           have HS5_ := cell_kept (hHeld.2.2.2.2.2.1) hkp (by first | (rw [add_block]; exact (fun hs_ => ((Kd.V_blk (HO_0.out) (by decide) (by assumption) (by first | assumption | simp)).2) hs_)) | (show ¬ _; simp only [add_block]; exact (fun hs_ => ((Kd.V_blk (HO_0.out) (by decide) (by assumption) (by first | assumption | simp)).2) hs_)) | exact (fun hs_ => ((Kd.V_blk (HO_0.out) (by decide) (by assumption) (by first | assumption | simp)).2) hs_))
           have HS6_ := cell_kept (hHeld.2.2.2.2.2.2.1) hkp (by first | (rw [add_block]; exact (fun hs_ => ((Kd.V_blk (HO_1.out) (by decide) (by assumption) (by first | assumption | simp)).2) hs_)) | (show ¬ _; simp only [add_block]; exact (fun hs_ => ((Kd.V_blk (HO_1.out) (by decide) (by assumption) (by first | assumption | simp)).2) hs_)) | exact (fun hs_ => ((Kd.V_blk (HO_1.out) (by decide) (by assumption) (by first | assumption | simp)).2) hs_))
           have HS7_ := cell_kept (hHeld.2.2.2.2.2.2.2) hkp (by first | (rw [add_block]; exact (fun hs_ => ((Kd.V_blk (HO_1.out) (by decide) (by assumption) (by first | assumption | simp)).2) hs_)) | (show ¬ _; simp only [add_block]; exact (fun hs_ => ((Kd.V_blk (HO_1.out) (by decide) (by assumption) (by first | assumption | simp)).2) hs_)) | exact (fun hs_ => ((Kd.V_blk (HO_1.out) (by decide) (by assumption) (by first | assumption | simp)).2) hs_))
           refine ⟨_, rfl, ?_⟩
           have n0_ := Aside0.mk (Kd.V_mono (ok' := fun k_ => ((P0_ k_ ∨ P1_ k_) ∨ w.heap.size ≤ k_) ∧ some k_ ≠ (v405 : Value).ownBlock) (Kd.V_keptB (HO_0.out) hkp (fun k_ hk_ hs_ => (hk_.2) hs_)) (fun k_ hk_ => ⟨hk_.1.1, fun e_ => Or.elim (ho0.1 k_ e_.symm) (fun hs_ => hk_.2.1 hs_) (fun hn_ => Nat.not_le.2 hk_.2.2 hn_)⟩))
           have n1_ := Aside0.mk (Kd.V_mono (ok' := fun k_ => ((P0_ k_ ∨ P1_ k_) ∨ w.heap.size ≤ k_) ∧ some k_ ≠ (v405 : Value).ownBlock) (Kd.V_keptB (HO_1.out) hkp (fun k_ hk_ hs_ => (hk_.2) hs_)) (fun k_ hk_ => ⟨hk_.1.1, fun e_ => Or.elim (ho0.1 k_ e_.symm) (fun hs_ => hk_.2.1 hs_) (fun hn_ => Nat.not_le.2 hk_.2.2 hn_)⟩))
           have n2_ := Aside0.mk (Kd.R_mono (ok' := fun k_ => (w.heap.size ≤ k_)) ho0 (fun k_ hk_ => Or.elim hk_ (fun hs_ => (HO_7.out.1 k_ (hs_).symm)) (fun hn_ => (Nat.le_trans (below_size (by repeat (first | (with_reducible first | exact HB.out | apply below_alloc | apply pw_below_drewN | apply below_drew1) | exact HB.out))) hn_))))
           have n3_ := Aside0.mk (hb)
           clear HO_0
           clear HO_1
           clear HB
           clear HO_7
           have HO_0 := n0_
           have HO_1 := n1_
           have HO406 := n2_
           have HB := n3_
           clear n0_ n1_ n2_ n3_
           (try clear hb)
           (try clear hkp)
           (try clear ho0)
           refine hK.out _ _ ⟨HS0_, HS1_, HS2_, HS3_, HS4_, HS5_, HS6_, HS7_⟩ (fun hHeld => ?_)
           clear hK K
           refine norm_ (a' := ?_) ?_ ?_
           rotate_left
           ·show Act.put _ (some 41) _ = _
            simp only [Act.put, List.setIfInBounds_toArray, List.set_cons_zero, List.set_cons_succ, i64_w, i32_w]
            rfl
           refine pure_ (i := 20) (N := some 7) (v := ?_) (a' := ?_) #[true, true, true, true, true, true, true, true, true, true, true, true, true, true, true, true, true, true, true, true, true] rfl rfl (any_of HT_.out (by kernel_rfl)) (fun _ _ _ h => h) (Or.inl ⟨by rfl, ?_⟩) ?_ ?_
           rotate_left
           ·intro w'
            go_simp
            with_reducible rfl
           rotate_left
           ·simp only [Act.put, List.setIfInBounds_toArray, List.set_cons_zero, List.set_cons_succ, i64_w, i32_w]
            rfl
           refine done_ (done_of HT_.out (by kernel_rfl)) ?_
           try go_wp2
           have n0_ := Aside0.mk (Kd.V_drew HO_0.out)
           have n1_ := Aside0.mk (Kd.V_drew HO_1.out)
           have n2_ := Aside0.mk (Kd.R_drew HO406.out)
           have n3_ := Aside0.mk (below_drew1 HB.out)
           clear HO_0
           clear HO_1
           clear HO406
           clear HB
           have HO_0 := n0_
           have HO_1 := n1_
           have HO406 := n2_
           have HB := n3_
           clear n0_ n1_ n2_ n3_
           have p407 : 0 ≤ (0 : Int) := (by omega)
           have q407 : 0 < (x0_1.length : Int) := of_decide_eq_true (by first | (with_reducible assumption) | assumption)
           obtain ⟨ad407, e407, hx407_0, hx407_1⟩ := at_T36 (Kd.V_reads' HO_0.out).2.2 0 p407 q407
           obtain rfl : ad400 = ad407 := (by injection e407)
           have qi407 : (0 < x0_1.length) = True := eq_true (by omega)
           (try rw [show ((0 : Int)).toNat = 0 from rfl] at hx407_0)
           (try rw [show 0 * 2 = 0 from rfl] at hx407_0)
           (try rw [Addr.add_zero'] at hx407_0)
           (try rw [show ((0 : Int)).toNat = 0 from rfl] at hx407_1)
           (try rw [show 0 * 2 = 0 from rfl] at hx407_1)
           (try rw [Addr.add_zero'] at hx407_1)
           replace p407 := eq_true p407
           replace q407 := eq_true q407
           have p408 : 0 ≤ (0 : Int) := (by omega)
           have q408 : 0 < (x1_1.length : Int) := of_decide_eq_true (by first | (with_reducible assumption) | assumption)
           obtain ⟨ad408, e408, hx408_0, hx408_1⟩ := at_T36 (Kd.V_reads' HO_1.out).2.2 0 p408 q408
           obtain rfl : ad401 = ad408 := (by injection e408)
           have qi408 : (0 < x1_1.length) = True := eq_true (by omega)
           (try rw [show ((0 : Int)).toNat = 0 from rfl] at hx408_0)
           (try rw [show 0 * 2 = 0 from rfl] at hx408_0)
           (try rw [Addr.add_zero'] at hx408_0)
           (try rw [show ((0 : Int)).toNat = 0 from rfl] at hx408_1)
           (try rw [show 0 * 2 = 0 from rfl] at hx408_1)
           (try rw [Addr.add_zero'] at hx408_1)
           replace p408 := eq_true p408
           replace q408 := eq_true q408
           refine start_ (n := 9) (S := fun w' => w'.cell? ad400 = some (.int .i64 ((rd_T36 x0_1 0).f0)) ∧ w'.cell? ⟨ad400.block, ad400.off + 1, none⟩ = some (.int .i64 ((rd_T36 x0_1 0).f1)) ∧ w'.cell? ad401 = some (.int .i64 ((rd_T36 x1_1 0).f0)) ∧ w'.cell? ⟨ad401.block, ad401.off + 1, none⟩ = some (.int .i64 ((rd_T36 x1_1 0).f1))) (ds := []) #[false, false, false, false, false, false, false, false, false] (by kernel_rfl) rfl rfl ⟨hx407_0, hx407_1, hx408_0, hx408_1⟩ (fun hHeld => ?_); refine with_tabW span_Meet.tab7 span_Meet.bits7 (fun HT_ HW_ => ?_)
           generalize w31.drew = w32 at HO_0 HO_1 HO406 HB hx407_0 hx407_1 hx408_0 hx408_1 hHeld ⊢
           refine pure_ (i := 0) (N := some 42) (v := ?_) (a' := ?_) #[true, false, false, false, false, false, false, false, false] rfl rfl (any_of HT_.out (by kernel_rfl)) (fun _ _ _ h => h) (Or.inl ⟨by rfl, ?_⟩) ?_ ?_
           rotate_left
           ·intro w'
            go_simp
            with_reducible rfl
           rotate_left
           ·simp only [Act.put, List.setIfInBounds_toArray, List.set_cons_zero, List.set_cons_succ, i64_w, i32_w]
            rfl
           refine pure_ (i := 1) (N := some 43) (v := ?_) (a' := ?_) #[true, true, false, false, false, false, false, false, false] rfl rfl (any_of HT_.out (by kernel_rfl)) (fun _ _ _ h => h) (Or.inl ⟨by rfl, ?_⟩) ?_ ?_
           rotate_left
           ·intro w'
            go_simp
            with_reducible rfl
           rotate_left
           ·simp only [Act.put, List.setIfInBounds_toArray, List.set_cons_zero, List.set_cons_succ, i64_w, i32_w]
            rfl
           refine pure_ (i := 2) (N := some 44) (v := ?_) (a' := ?_) #[true, true, true, false, false, false, false, false, false] rfl rfl (any_of HT_.out (by kernel_rfl)) (fun _ _ _ h => h) (Or.inl ⟨by rfl, ?_⟩) ?_ ?_
           rotate_left
           ·intro w'
            go_simp
            with_reducible rfl
           rotate_left
           ·simp only [Act.put, List.setIfInBounds_toArray, List.set_cons_zero, List.set_cons_succ, i64_w, i32_w]
            rfl
           refine pure_ (i := 4) (N := some 46) (v := ?_) (a' := ?_) #[true, true, true, false, true, false, false, false, false] rfl rfl (any_of HT_.out (by kernel_rfl)) (fun _ _ _ h => h) (Or.inl ⟨by rfl, ?_⟩) ?_ ?_
           rotate_left
           ·intro w'
            go_simp
            with_reducible rfl
           rotate_left
           ·simp only [Act.put, List.setIfInBounds_toArray, List.set_cons_zero, List.set_cons_succ, i64_w, i32_w]
            rfl
           refine pure_ (i := 5) (N := some 47) (v := ?_) (a' := ?_) #[true, true, true, false, true, true, false, false, false] rfl rfl (any_of HT_.out (by kernel_rfl)) (fun _ _ _ h => h) (Or.inl ⟨by rfl, ?_⟩) ?_ ?_
           rotate_left
           ·intro w'
            go_simp
            with_reducible rfl
           rotate_left
           ·simp only [Act.put, List.setIfInBounds_toArray, List.set_cons_zero, List.set_cons_succ, i64_w, i32_w]
            rfl
           refine pure_ (i := 6) (N := some 48) (v := ?_) (a' := ?_) #[true, true, true, false, true, true, true, false, false] rfl rfl (any_of HT_.out (by kernel_rfl)) (fun _ _ _ h => h) (Or.inl ⟨by rfl, ?_⟩) ?_ ?_
           rotate_left
           ·intro w'
            go_simp
            with_reducible rfl
           rotate_left
           ·simp only [Act.put, List.setIfInBounds_toArray, List.set_cons_zero, List.set_cons_succ, i64_w, i32_w]
            rfl
           refine take_ (i := 3) (N := some 45) (v := ?_) (a' := ?_) #[true, true, true, true, true, true, true, false, false] rfl rfl (take_ofW HT_.out HW_.out (by kernel_rfl)) (fun _ _ _ h => h) (Or.inl ⟨by rfl, ?_⟩) hHeld ?_ ?_
           rotate_left
           ·rintro w' ⟨s0, s1, s2, s3⟩
            go_simp
            with_reducible rfl
           rotate_left
           ·simp only [Act.put, List.setIfInBounds_toArray, List.set_cons_zero, List.set_cons_succ, i64_w, i32_w]
            rfl
           refine take_ (i := 7) (N := some 49) (v := ?_) (a' := ?_) #[true, true, true, true, true, true, true, true, false] rfl rfl (take_ofW HT_.out HW_.out (by kernel_rfl)) (fun _ _ _ h => h) (Or.inl ⟨by rfl, ?_⟩) hHeld ?_ ?_
           rotate_left
           ·rintro w' ⟨s0, s1, s2, s3⟩
            go_simp
            with_reducible rfl
           rotate_left
           ·simp only [Act.put, List.setIfInBounds_toArray, List.set_cons_zero, List.set_cons_succ, i64_w, i32_w]
            rfl
           refine pure_ (i := 8) (N := some 50) (v := ?_) (a' := ?_) #[true, true, true, true, true, true, true, true, true] rfl rfl (any_of HT_.out (by kernel_rfl)) (fun _ _ _ h => h) (Or.inl ⟨by rfl, ?_⟩) ?_ ?_
           rotate_left
           ·intro w'
            go_simp
            with_reducible rfl
           rotate_left
           ·simp only [Act.put, List.setIfInBounds_toArray, List.set_cons_zero, List.set_cons_succ, i64_w, i32_w]
            rfl
           refine done_ (done_of HT_.out (by kernel_rfl)) ?_
           have q33 : (1 : Int) ≤ ((x1_1.length : Int) : Int) := of_decide_eq_true (by first | (with_reducible assumption) | assumption)
           obtain ⟨i033, hi033, _, hsz33, _⟩ := info_parts info36
           have hroom33 : x1_1.length ≤ co29 := (Kd.V_reads' HO_1.out).2.1
           have hC33 : Kd.F k36 _ _ (some ad401) x1_1.length x1_1 := (Kd.V_at (base := w.heap.size) HO_1.out).2.2
           have hcut33 := cut_from (P := Try.prog) 22 36 .i64 Try.underlying22 hi033 2 hsz33 (some ad401) x1_1.length co29 1 (by omega) q33
           have hr33 := Kd.F_cut (m := (1 : Int).toNat) (c := co29) hC33 (by omega) hroom33
           obtain ⟨A33, hA33⟩ : ∃ A1, A1 = (if co29 = (1 : Int).toNat then (some ad401) else ((some ad401) : Option Addr).map (·.add ((1 : Int).toNat * 2))) := ⟨_, rfl⟩
           obtain ⟨c33, hc33⟩ : ∃ c1, c1 = co29 - (1 : Int).toNat := ⟨_, rfl⟩
           have hy33 : y414.length = x1_1.length - (1 : Int).toNat := (by rw [Ny414.out, List.length_drop] <;> omega)
           rw [show (x1_1).drop (1 : Int).toNat = y414 from Ny414.out.symm] at hr33
           replace hr33 : Kd.F k36 _ _ A33 y414.length y414 := (by rw [hA33]; exact hr33)
           rw [← hy33, ← hA33, ← hc33] at hcut33
           have HO418 := Aside0.mk (show Kd.V k36 36 _ w.heap.size _ (.slice A33 y414.length c33) y414 from Kd.V_mk (by rw [hy33, hc33]; exact Nat.sub_le_sub_right hroom33 _) hr33)
           have HC418 := Aside0.mk (show y414.length ≤ c33 from by rw [hy33, hc33]; exact Nat.sub_le_sub_right hroom33 _)
           clear hr33 hC33 hroom33 hi033 hsz33 hc33
           have KY33 := Aside0.mk hy33
           have KA33 := Aside0.mk hA33
           clear hy33 hA33
           replace q33 := eq_true q33
           try go_wp2
           go_roundg kj5
           case measure => have := HK1.out; have := HJ5.out; omega
           case rel => exact ⟨(x0_1), (y414), (t404), H', ⟨by have := HK1.out; have := HJ5.out; omega⟩, ⟨by (with_reducible repeat (first | apply Kd.V_alloc | apply Kd.V_drewN | apply Kd.V_drew)); exact HO_0.out⟩, ⟨by (with_reducible repeat (first | apply Kd.V_alloc | apply Kd.V_drewN | apply Kd.V_drew)); exact HO418.out⟩, ⟨by (with_reducible repeat (first | apply Kd.R_alloc | apply Kd.R_drewN | apply Kd.R_drew)); exact HO406.out⟩, ⟨by repeat (first | (with_reducible first | exact HB.out | apply below_alloc | apply pw_below_drewN | apply below_drew1) | exact HB.out)⟩⟩
          ·rw [if_neg c26] at H
           exact absurd H (by simp)
        ·rw [if_neg c13] at H
         exact absurd H (by simp)
       ·rw [if_neg c12] at H
        exact absurd H (by simp)
      ·replace c11 := Bool.eq_false_iff.mpr c11
       subst c11
       have H1 : ((span_bounded.f x7_1).bind fun bt419 => (some (bt419.1, bt419.2))) = some (r1, r2) := by rw [if_neg (show ¬ (false = true) by decide)] at H; exact H
       clear H
       have H := H1
       clear H1
       replace H := Option.bind_eq_some_iff.mp H
       obtain ⟨⟨t419, t422⟩, A340, H⟩ := H
       replace H : (some (t419, t422)) = some (r1, r2) := H
       have A34 := Aside0.mk A340
       clear A340
       simp only [Option.some.injEq, Prod.mk.injEq] at H
       obtain ⟨rfl, rfl⟩ := H
       obtain ⟨Ao35, co35, eo35⟩ := Kd.R_slice HO_7.out
       subst eo35
       go_wp2_with (first | ((with_reducible refine gate_callee (f := 50) rfl ?_); refine goesL_ (some 56) rfl rfl Try.func50 (by kernel_rfl) rfl #[.slice Ao35 x7_1.length co35] rfl (by (try simp only [List.map_toArray, List.map_cons, List.map_nil]); first | done | rfl | (simp only [List.length_drop, List.length_take]; rfl)) ?_; (with_reducible refine (span_bounded.calls (fun k_ => some k_ = (.slice Ao35 x7_1.length co35 : Value).ownBlock) (.slice Ao35 x7_1.length co35) x7_1 t419 t422 w _ ?side1 ?side2 A34.out).mono ?_); (case side1 => repeat (first | (with_reducible first | exact HB.out | apply below_alloc | apply pw_below_drewN | apply below_drew1) | exact HB.out)); (case side2 => exact Kd.R_tight rfl HO_7.out); rintro e w36 ⟨v420, rfl, ho0, hb, hkp⟩; refine ⟨_, rfl, ?_⟩; have n0_ := Aside0.mk (Kd.V_mono (ok' := fun k_ => ((P0_ k_ ∨ P1_ k_) ∨ w.heap.size ≤ k_) ∧ some k_ ≠ (v420 : Value).ownBlock) (Kd.V_keptB (HO_0.out) hkp (fun k_ hk_ hs_ => (hk_.2) hs_)) (fun k_ hk_ => ⟨hk_.1.1, fun e_ => Or.elim (ho0.1 k_ e_.symm) (fun hs_ => hk_.2.1 hs_) (fun hn_ => Nat.not_le.2 hk_.2.2 hn_)⟩)); have n1_ := Aside0.mk (Kd.V_mono (ok' := fun k_ => ((P0_ k_ ∨ P1_ k_) ∨ w.heap.size ≤ k_) ∧ some k_ ≠ (v420 : Value).ownBlock) (Kd.V_keptB (HO_1.out) hkp (fun k_ hk_ hs_ => (hk_.2) hs_)) (fun k_ hk_ => ⟨hk_.1.1, fun e_ => Or.elim (ho0.1 k_ e_.symm) (fun hs_ => hk_.2.1 hs_) (fun hn_ => Nat.not_le.2 hk_.2.2 hn_)⟩)); have n2_ := Aside0.mk (Kd.R_mono (ok' := fun k_ => (w.heap.size ≤ k_)) ho0 (fun k_ hk_ => Or.elim hk_ (fun hs_ => (HO_7.out.1 k_ (hs_).symm)) (fun hn_ => (Nat.le_trans (below_size (by repeat (first | (with_reducible first | exact HB.out | apply below_alloc | apply pw_below_drewN | apply below_drew1) | exact HB.out))) hn_)))); have n3_ := Aside0.mk (hb); clear HO_0; clear HO_1; clear HB; clear HO_7; have HO_0 := n0_; have HO_1 := n1_; have HO421 := n2_; have HB := n3_; clear n0_ n1_ n2_ n3_; (try clear hb); (try clear hkp); (try clear ho0)))
       go_ret2
       exact ⟨_, by first | rfl | (simp [errW_none, errW_some] <;> rfl) | (simp [*, errW_none, errW_some] <;> rfl), by (with_reducible repeat (first | apply Kd.R_alloc | apply Kd.R_drewN | apply Kd.R_drew)); exact HO421.out, by repeat (first | (with_reducible first | exact HB.out | apply below_alloc | apply pw_below_drewN | apply below_drew1) | exact HB.out)⟩
 ·rw [if_neg c4] at H
  have c4b0 : (t399 == 0) = false := beq_eq_false_iff_ne.mpr c4
  have c4b1 : (t399 != 0) = true := bne_iff_ne.mpr c4
  simp only [Option.some.injEq, Prod.mk.injEq] at H
  obtain ⟨rfl, rfl⟩ := H
  go_enter Try.func32, Try.ntmps32
  go_wp2_with (first | ((with_reducible refine gate_callee (f := 53) rfl ?_); refine goesL_ (some 10) rfl rfl Try.func53 (by kernel_rfl) rfl #[.slice A0 l0.length c0, .slice A1 l1.length c1] rfl (by (try simp only [List.map_toArray, List.map_cons, List.map_nil]); first | done | rfl | (simp only [List.length_drop, List.length_take]; rfl)) ?_; (with_reducible refine (span_both.calls k _ _ l0 _ _ l1 t399 _ ?side1 ?side2 ?side3 ?side4 A3.out).mono ?_); (case side1 => repeat (first | exact (Kd.V_reads' HO0.out).2.2 | (with_reducible refine Kd.C_alloc ?_ _) | (with_reducible refine Kd.C_drewN ?_ _) | (with_reducible refine Kd.C_drew ?_))); (case side2 => exact (Kd.V_reads' HO0.out).2.1); (case side3 => repeat (first | exact (Kd.V_reads' HO1.out).2.2 | (with_reducible refine Kd.C_alloc ?_ _) | (with_reducible refine Kd.C_drewN ?_ _) | (with_reducible refine Kd.C_drew ?_))); (case side4 => exact (Kd.V_reads' HO1.out).2.1); rintro e w37 ⟨rfl, hb⟩; refine ⟨_, rfl, ?_⟩; have n0_ := Aside0.mk (Kd.V_below (by (with_reducible repeat (first | apply Kd.V_alloc | apply Kd.V_drewN | apply Kd.V_drew)); exact HO0.out) hb); have n1_ := Aside0.mk (Kd.V_below (by (with_reducible repeat (first | apply Kd.V_alloc | apply Kd.V_drewN | apply Kd.V_drew)); exact HO1.out) hb); have n2_ := Aside0.mk (below_step (by repeat (first | (with_reducible first | exact HB.out | apply below_alloc | apply pw_below_drewN | apply below_drew1) | exact HB.out)) hb); clear HO0; clear HO1; clear HB; have HO0 := n0_; have HO1 := n1_; have HB := n2_; clear n0_ n1_ n2_; (try clear hb); (try clear hb2); (try clear hk); (try clear hi)))
  go_ret2
  exact ⟨_, by first | rfl | (simp [errW_none, errW_some] <;> rfl) | (simp [*, errW_none, errW_some] <;> rfl), by first | exact Kd.R_nil _ _ _ _ _ | exact Kd.N_nil _ _ _ _ _ | exact Kd.V_nil _ _ _ _ _ | exact Kd.Q_nil _ _ _ _ _ | exact Kd.S_nil _ _ _ _ _, by repeat (first | (with_reducible first | exact HB.out | apply below_alloc | apply pw_below_drewN | apply below_drew1) | exact HB.out)⟩
end Go.Proofs.Ytmidiifgdloojaa.Pr
end
section
namespace Go.Proofs.Ytmidiifgdloojaa.SpanFns
open Go.RowKit Go.Proofs.YtmidiifgdloojaaW.PrintWords Go.Proofs.YtmidiifgdloojaaW.PrintMore Go.Proofs.Ytmidiifgdloojaa.Pr Go.Proofs.Ytmidiifgdloojaa.SpanMath
def few (l : List S36) : List S36 × Int := if l.length > 32768 then ([], 21) else (l, 0)
theorem bounded_few (l : List S36) : ((span_bounded.f l).bind fun x => some (x.1, x.2)) = some (few l) := by
  rw [bounded_f]
  unfold few
  simp only [Option.bind_some]
  split <;> rfl
theorem drop_one (r : S36) (l : List S36) : (r :: l).drop 1 = l := rfl
theorem rd_zero (r : S36) (l : List S36) : rd_T36 (r :: l) 0 = r := rfl
theorem Union_l0 : ∀ (n : Nat) (a b acc : List S36) (k : Nat), a.length + b.length = n → n ≤ 65536 → acc.length + n ≤ 65536 → 3 * n + 3 ≤ k →
    span_Union.l0 k a b acc = some (few (adds acc (mergeS a b))) := by
  intro n
  induction n with
  | zero =>
    intro a b acc k hn _ ha hk
    obtain ⟨k, rfl⟩ : ∃ m, k = m + 3 := ⟨k - 3, by omega⟩
    obtain rfl : a = [] := List.length_eq_zero_iff.1 (by omega)
    obtain rfl : b = [] := List.length_eq_zero_iff.1 (by omega)
    simp only [span_Union.l0]
    rw [if_neg (by simp)]
    simp only [span_Union.j1]
    rw [if_neg (by simp), bounded_few, mergeS_nil, adds_nil]
  | succ n ih =>
    intro a b acc k hn hb ha hk
    obtain ⟨k, rfl⟩ : ∃ m, k = m + 3 := ⟨k - 3, by omega⟩
    have hsh : Short acc := by show acc.length < _; omega
    have step : span_Union.j1 (k + 2) a b acc true = some (few (adds acc (mergeS a b))) := by
      have takeA : ∀ (r : S36) (a' : List S36), a = r :: a' → (mergeS a b = r :: mergeS a' b) → span_Union.j2 (k + 1) a b acc true = some (few (adds acc (mergeS a b))) := by
        rintro r a' rfl hm
        simp only [span_Union.j2, if_true]
        simp only [List.length_cons] at hn
        rw [if_pos (by simp only [List.length_cons]; omega), rd_zero, add_f hsh]
        simp only [Option.bind_some]
        rw [if_pos (by simp only [List.length_cons]; omega), drop_one, hm, adds_cons]
        have hl := addS_len acc r.f0 r.f1
        exact ih a' b _ k (by omega) (by omega) (by omega) (by omega)
      have takeB : ∀ (s : S36) (b' : List S36), b = s :: b' → (mergeS a b = s :: mergeS a b') → span_Union.j2 (k + 1) a b acc false = some (few (adds acc (mergeS a b))) := by
        rintro s b' rfl hm
        simp only [span_Union.j2]
        simp only [List.length_cons] at hn
        rw [if_neg (by simp), if_pos (by simp only [List.length_cons]; omega), rd_zero, add_f hsh]
        simp only [Option.bind_some]
        rw [if_pos (by simp only [List.length_cons]; omega), drop_one, hm, adds_cons]
        have hl := addS_len acc s.f0 s.f1
        exact ih a b' _ k (by omega) (by omega) (by omega) (by omega)
      simp only [span_Union.j1, if_true]
      cases b with
      | nil =>
        rw [if_pos (by simp)]
        cases a with
        | nil => simp at hn
        | cons r a' => exact takeA r a' rfl (by rw [mergeS_nil', mergeS_nil'])
      | cons s b' =>
        rw [if_neg (by simp only [List.length_cons]; omega)]
        cases a with
        | nil =>
          rw [if_neg (by simp)]
          exact takeB s b' rfl (by rw [mergeS_nil, mergeS_nil])
        | cons r a' =>
          rw [if_pos (by simp only [List.length_cons]; omega), if_pos (by simp only [List.length_cons]; omega), if_pos (by simp only [List.length_cons]; omega), rd_zero, rd_zero]
          by_cases c : r.f0 ≤ s.f0
          · rw [show decide (r.f0 ≤ s.f0) = true from by simpa using c]
            exact takeA r a' rfl (mergeS_le _ _ c)
          · rw [show decide (r.f0 ≤ s.f0) = false from by simpa using c]
            exact takeB s b' rfl (mergeS_gt _ _ c)
    simp only [span_Union.l0]
    cases a with
    | nil =>
      rw [if_neg (by simp)]
      rw [show decide ((b.length : Int) > 0) = true from by simp at hn; simp; omega]
      exact step
    | cons r a' =>
      rw [if_pos (by simp only [List.length_cons]; omega)]
      exact step
def unionA (a b : List S36) : List S36 × Int := if bothS a b = 0 then few (unionS a b) else ([], bothS a b)
theorem Union_ev {a b : List S36} (ha : Short a) (hb : Short b) : Ev (fun k => span_Union.f k a b) (unionA a b) := by
  refine ⟨3 * (a.length + b.length) + 3, fun k hk => ?_⟩
  dsimp only
  unfold span_Union.f unionA
  rw [both_f ha hb (by omega)]
  simp only [Option.bind_some]
  by_cases g : bothS a b = 0
  · obtain ⟨ga, gb⟩ := bothS_good.1 g
    have := ga.1
    have := gb.1
    rw [if_pos g, if_pos g, Union_l0 (a.length + b.length) a b [] k rfl (by omega) (by simp; omega) hk]
    rfl
  · rw [if_neg g, if_neg g]
theorem Meet_l0 : ∀ (n : Nat) (a b acc : List S36) (k : Nat), a.length + b.length ≤ n → n ≤ 65536 → acc.length + n ≤ 65536 → 2 * n + 2 ≤ k →
    span_Meet.l0 k a b acc = some (few (adds acc (meetP a b))) := by
  intro n
  induction n with
  | zero =>
    intro a b acc k hn _ ha hk
    obtain ⟨k, rfl⟩ : ∃ m, k = m + 2 := ⟨k - 2, by omega⟩
    obtain rfl : a = [] := List.length_eq_zero_iff.1 (by omega)
    simp only [span_Meet.l0]
    rw [if_neg (by simp)]
    simp only [span_Meet.j1]
    rw [if_neg (by simp), bounded_few, meetP_nil, adds_nil]
  | succ n ih =>
    intro a b acc k hn hb ha hk
    obtain ⟨k, rfl⟩ : ∃ m, k = m + 2 := ⟨k - 2, by omega⟩
    have hsh : Short acc := by show acc.length < _; omega
    cases a with
    | nil =>
      simp only [span_Meet.l0]
      rw [if_neg (by simp)]
      simp only [span_Meet.j1]
      rw [if_neg (by simp), bounded_few, meetP_nil, adds_nil]
    | cons r a =>
      cases b with
      | nil =>
        simp only [span_Meet.l0]
        rw [if_pos (by simp only [List.length_cons]; omega)]
        simp only [span_Meet.j1]
        rw [if_neg (by simp), bounded_few, meetP_nil', adds_nil]
      | cons s b =>
        simp only [List.length_cons] at hn
        have hl := addS_len acc (mx r.f0 s.f0) (mn r.f1 s.f1)
        simp only [span_Meet.l0]
        rw [if_pos (by simp only [List.length_cons]; omega)]
        simp only [span_Meet.j1]
        rw [if_pos (by simp only [List.length_cons, decide_eq_true_eq]; omega), if_pos (by simp only [List.length_cons]; omega), if_pos (by simp only [List.length_cons]; omega)]
        rw [rd_zero, rd_zero, add_f hsh]
        simp only [Option.bind_some]
        rw [meetP_cons, adds_cons]
        by_cases c : r.f1 ≤ s.f1
        · rw [if_pos c, if_pos (by simp only [List.length_cons]; omega), drop_one, if_pos c]
          exact ih a (s :: b) _ k (by simp only [List.length_cons]; omega) (by omega) (by omega) (by omega)
        · rw [if_neg c, if_pos (by simp only [List.length_cons]; omega), drop_one, if_neg c]
          exact ih (r :: a) b _ k (by simp only [List.length_cons]; omega) (by omega) (by omega) (by omega)
def meetA (a b : List S36) : List S36 × Int := if bothS a b = 0 then few (meetS a b) else ([], bothS a b)
theorem Meet_ev {a b : List S36} (ha : Short a) (hb : Short b) : Ev (fun k => span_Meet.f k a b) (meetA a b) := by
  refine ⟨3 * (a.length + b.length) + 3, fun k hk => ?_⟩
  dsimp only
  unfold span_Meet.f meetA
  rw [both_f ha hb (by omega)]
  simp only [Option.bind_some]
  by_cases g : bothS a b = 0
  · obtain ⟨ga, gb⟩ := bothS_good.1 g
    have := ga.1
    have := gb.1
    rw [if_pos g, if_pos g, Meet_l0 (a.length + b.length) a b [] k (Nat.le_refl _) (by omega) (by simp; omega) (by omega)]
    rfl
  · rw [if_neg g, if_neg g]
end Go.Proofs.Ytmidiifgdloojaa.SpanFns
end
section
namespace Go.Proofs.Ytmidiifgdloojaa.SpanFns
open Go.RowKit Go.Proofs.YtmidiifgdloojaaW.PrintWords Go.Proofs.YtmidiifgdloojaaW.PrintMore Go.Proofs.Ytmidiifgdloojaa.Pr Go.Proofs.Ytmidiifgdloojaa.SpanMath
def inB (l : List S36) (q : Int) : Bool := l.any (fun r => decide (r.f0 ≤ q ∧ q < r.f1))
theorem inB_iff (l : List S36) (q : Int) : inB l q = true ↔ mem l q := by simp [inB, mem]
theorem nrm_get {l : List S36} (h : Nrm l) {i j : Nat} (hj : j < l.length) (hij : i < j) : (l[i]'(by omega)).f1 < l[j].f0 :=
  List.pairwise_iff_getElem.1 h.1 i j (by omega) hj hij
end Go.Proofs.Ytmidiifgdloojaa.SpanFns
end
section
namespace Go.Proofs.Ytmidiifgdloojaa.SpanFns
open Go.RowKit Go.Proofs.YtmidiifgdloojaaW.PrintWords Go.Proofs.YtmidiifgdloojaaW.PrintMore Go.Proofs.Ytmidiifgdloojaa.Pr Go.Proofs.Ytmidiifgdloojaa.SpanMath
def los (l : List S36) : List Int := l.map (fun r => r.f0)
end Go.Proofs.Ytmidiifgdloojaa.SpanFns
end
section
namespace Go.Proofs.Ytmidiifgdloojaa.SpanSort
open Go.RowKit Go.Proofs.YtmidiifgdloojaaW.PrintWords Go.Proofs.YtmidiifgdloojaaW.PrintLast Go.Proofs.YtmidiifgdloojaaW.PrintMore Go.Proofs.Ytmidiifgdloojaa.Pr
def enc36 (r : S36) : List Value := [.int .i64 r.f0, .int .i64 r.f1]
def flat36 (l : List S36) : List Value := l.flatMap enc36
theorem flat36_len (l : List S36) : (flat36 l).length = l.length * 2 := by
  induction l with
  | nil => rfl
  | cons r l ih => simp only [flat36, List.flatMap_cons, List.length_append, List.length_cons] at ih ⊢; rw [ih]; simp [enc36]; omega
theorem flat36_cons (r : S36) (l : List S36) : flat36 (r :: l) = enc36 r ++ flat36 l := rfl
theorem flat36_one : ∀ (l : List S36), ∀ u ∈ flat36 l, u.oneCell' = true
  | [], u, h => by simp [flat36] at h
  | r :: l, u, h => by
    rw [flat36_cons] at h
    rcases List.mem_append.1 h with h | h
    · simp [enc36] at h
      rcases h with rfl | rfl <;> rfl
    · exact flat36_one l u h
theorem flat36_get (l : List S36) (j : Nat) (hj : j < l.length) : (flat36 l)[j * 2]? = some (.int .i64 (l[j]).f0) ∧ (flat36 l)[j * 2 + 1]? = some (.int .i64 (l[j]).f1) := by
  induction l generalizing j with
  | nil => simp at hj
  | cons r l ih =>
    cases j with
    | zero => exact ⟨rfl, rfl⟩
    | succ j =>
      have h := ih j (by simpa using hj)
      rw [flat36_cons]
      have e : (j + 1) * 2 = j * 2 + 2 := by omega
      rw [e]
      exact h
theorem reps_flat {R : S36 → List Value → Prop} (hR : ∀ r, R r (enc36 r)) : ∀ l : List S36, Reps R 2 l (flat36 l)
  | [] => Reps.none R 2
  | r :: l => by
    have h1 : Reps R 2 [r] (enc36 r) := by
      have := (Reps.none R 2).snoc (hR r) rfl
      simpa using this
    exact Kd.reps_append (ps := [r]) h1 (reps_flat hR l)
theorem flat_reps {R : S36 → List Value → Prop} (hR : ∀ r cs, R r cs → cs = enc36 r) : ∀ (l : List S36) (inner : List Value), Reps R 2 l inner → inner = flat36 l
  | [], inner, h => by
    have := h.1
    simp at this
    rw [this]; rfl
  | r :: l, inner, h => by
    have h0 := hR _ _ (h.2 0 r rfl)
    have h1 : Reps R 2 l (inner.drop 2) := Kd.reps_drop (m := 1) h
    rw [flat36_cons, ← flat_reps hR l _ h1, ← h0]
    simp
theorem row_of_R {W : World} {base : Nat} {ok : Nat → Prop} {v : Value} {xs : List S36} (h : Kd.R k36 36 W base ok v xs) : (∀ k, v.ownBlock = some k → ok k) ∧ W.ownsRow base 36 2 v xs.length (flat36 xs) := by
  obtain ⟨h0, inner, ho, hr⟩ := h
  refine ⟨h0, ?_⟩
  rw [← flat_reps (fun r cs h => k36_openM h) xs inner hr]
  exact ho
theorem R_of_row {W : World} {base : Nat} {ok : Nat → Prop} {v : Value} {xs : List S36} (h0 : ∀ k, v.ownBlock = some k → ok k) (h : W.ownsRow base 36 2 v xs.length (flat36 xs)) : Kd.R k36 36 W base ok v xs :=
  ⟨h0, flat36 xs, h, reps_flat (fun r => k36_mkM _ _ _ r) xs⟩
theorem run_copy_cells2 {P : Program} (w : World) (dT sT ty elem : TypeId) (b o n dCap : Nat) (a : Addr) (sCap : Nat) (cs : List Value)
    (hu : P.underlying dT = some (.slice elem)) (hs : (P.info? elem).map (·.size) = some 2) (hn : cs.length = n * 2)
    (hsrc : ∀ j v, cs[j]? = some v → w.cell? (a.add j) = some v) (hc : ∀ j, j < cs.length → (w.cell? ⟨b, o + j, none⟩).isSome = true) (hf : ∀ j, j < cs.length → w.frozen? ⟨b, o + j, none⟩ = false) (h1 : ∀ v ∈ cs, v.oneCell' = true) :
    (Builtin.copy_ #[dT, sT] ty #[.slice (some ⟨b, o, none⟩) n dCap, .slice (some a) n sCap]).run P w = .ok (goInt n) (w.setCells b o cs) := by
  have hl := run_loadCells_list (P := P) w a cs hsrc
  have hst := run_storeCells_cells (P := P) b o cs 0 w (by simpa using hc) (by simpa using hf) h1
  cases hq : P.info? elem with
  | none => simp [hq] at hs
  | some i =>
    have hi : i.size = 2 := by simpa [hq] using hs
    simp [Builtin.copy_, run_underlying hu, Builtin.lenOf, Builtin.firstCells, sizeOf, typeInfo, hq, hi, ← hn, hl, hst]
theorem run_copy_zero {P : Program} (w : World) (dT sT ty elem : TypeId) (b : Addr) (a : Option Addr) (dCap sCap : Nat) (hu : P.underlying dT = some (.slice elem)) (hs : (P.info? elem).map (·.size) = some 2) :
    (Builtin.copy_ #[dT, sT] ty #[.slice (some b) 0 dCap, .slice a 0 sCap]).run P w = .ok (goInt 0) w := by
  have hl : ∀ (x : Addr), (loadCells x 0).run P w = .ok #[] w := fun x => by simpa using run_loadCells_list (P := P) w x [] (by simp)
  cases hq : P.info? elem with
  | none => simp [hq] at hs
  | some i =>
    cases a <;> simp [Builtin.copy_, run_underlying hu, Builtin.lenOf, Builtin.firstCells, sizeOf, typeInfo, hq, storeCells, hl]
section
variable {P : Program} {ops : Array Oper} {rest : List Oper} {o : Oper} {a : Act} {Q : Exit → Act → World → Prop}
theorem R_copy36 {w0 W : World} (base : Nat) (hgd : o.guard = none) (s x : Operand) (t t' : TypeId)
    (ho : o.op = .call { callee := .builtin .copy, args := #[s, x], argTypes := #[t, t'] }) (ht : P.underlying t = some (.slice 36)) (hinfo : (P.info? 36).map (·.size) = some 2)
    (v : Value) (xs ys : List S36) (A : Option Addr) (c : Nat) (ok : Nat → Prop) (hs : a.eval s = v) (hx : a.eval x = .slice A ys.length c) (hlen : xs.length = ys.length) (hb : ∃ b, v.ownBlock = some b)
    (HO : Kd.R k36 36 W base ok v xs) (HR : Kd.C k36 W A ys.length ys) (HB : Below base w0 W) (hbase : base ≤ W.heap.size)
    (h : ∀ w1, Kd.R k36 36 w1 base ok v ys → Below base w0 w1 → wpList P ops Q rest (a.put o.dst (.int .i64 (ys.length : Int))) w1) : wpList P ops Q (o :: rest) a W := by
  obtain ⟨h0, hown⟩ := row_of_R HO
  have fin : ∀ w1, (Builtin.copy_ #[t, t'] o.type #[v, .slice A ys.length c]).run P W = .ok (goInt (ys.length : Int)) w1 → Kd.R k36 36 w1 base ok v ys → W.grownBy w1 v.ownBlock → wpList P ops Q (o :: rest) a W := by
    intro w1 hr hrow hg
    refine wpList_plain hgd fun K hK => ?_
    unfold Oper.wp execOp
    simp only [ho, resolve, invoke, builtin, Sem.run_bind, Sem.run_pure, Result.andThen_ok, List.map_toArray, List.map_cons, List.map_nil, hs, hx, hr]
    exact hK _ _ (h w1 hrow (HB.grown hg hbase (own_base hown)))
  rcases hown.2 with ⟨hv, _⟩ | ⟨g, cap, cur, hv, hbg, hh, hnc, hcm, hcs, htake⟩
  · obtain ⟨b, hb⟩ := hb
    rw [hv] at hb
    simp [Value.ownBlock] at hb
  rcases Nat.eq_zero_or_pos ys.length with hz | hp
  · have hy : ys = [] := List.eq_nil_of_length_eq_zero hz
    have hxz : xs = [] := List.eq_nil_of_length_eq_zero (by omega)
    refine fin W ?_ (by rw [hy, ← hxz]; exact HO) (World.grownBy.refl W _)
    have := run_copy_zero (P := P) W t t' o.type 36 ⟨g, 0, none⟩ A cap c ht hinfo
    rw [hv, hz, show xs.length = 0 from by omega]
    exact this
  · obtain ⟨ad, hA, _⟩ := HR.2.2 hp
    rw [hA] at HR
    obtain ⟨inner, hnr, hnc2⟩ := ReadsRow.inner_ HR
    rw [flat_reps (fun r cs h => k36_open h) ys inner hnr] at hnc2
    have hle : ys.length * 2 ≤ cur.size := by rw [hcs]; omega
    have hr := run_copy_cells2 (P := P) W t t' o.type 36 g 0 ys.length cap ad c (flat36 ys) ht hinfo (flat36_len ys) hnc2
      (fun j hj => by rw [flat36_len] at hj; simp [World.cell?, hh]; omega) (fun j _ => blk_frozen hh _) (flat36_one ys)
    obtain ⟨cur', h3, h4, h5⟩ := setCells_row (flat36 ys) 0 W cur hh (by rw [flat36_len]; omega)
    obtain ⟨s1, s2, s3, s4⟩ := setCells_same g (flat36 ys) 0 W
    refine fin _ (by rw [hv, hA, hlen]; exact hr) (R_of_row h0 ?_) ⟨s1, s2, s3, by rw [s4]; exact Nat.le_refl _, fun k _ hk => setCells_far _ _ k (fun he => hk (by rw [hv, he]; simp [Value.ownBlock]))⟩
    refine ⟨flat36_len ys, .inr ⟨g, cap, cur', by rw [hv, hlen], hbg, h3, by omega, hcm, by rw [h4, hcs], ?_⟩⟩
    rw [h5, List.take_zero, List.nil_append, ← flat36_len ys]
    simp
end
theorem info36s : (Try.prog.info? 36).map (·.size) = some 2 := by kernel_rfl
theorem closure48 (x y : S36) (hx : 0 ≤ x.f0 ∧ x.f0 ≤ 1048576) (hy : 0 ≤ y.f0 ∧ y.f0 ≤ 1048576) (W : World) : Calls Try.prog 48 #[.agg #[.int .i64 x.f0, .int .i64 x.f1], .agg #[.int .i64 y.f0, .int .i64 y.f1]] W fun e w' => e = .returned (.int .i64 (x.f0 - y.f0)) ∧ ∃ q os', w' = Go.Sort.grow (W.drewN q) os' := by
  have hw : wrap64 (x.f0 - y.f0) = x.f0 - y.f0 := IntWalk.wrap64_in _ ⟨by omega, by omega⟩
  go_enter Try.func48, Try.ntmps48
  go_wp2
  go_ret
  refine ⟨?_, 0, _, by rw [Go.Sort.alloc_eq_grow, Go.Sort.alloc_eq_grow, Go.Sort.grow_grow]; rfl⟩
  rfl
end Go.Proofs.Ytmidiifgdloojaa.SpanSort
end
section
namespace Go.Proofs
open Go.Shelf
def Try.sortR_ren : Go.Shelf.Ren := ⟨fun | 6 => 47 | 15 => 59 | 14 => 58 | 28 => 73 | 29 => 74 | 20 => 65 | 21 => 66 | 22 => 67 | 23 => 68 | 24 => 69 | 25 => 70 | 26 => 71 | 27 => 72 | 46 => 85 | 47 => 86 | 48 => 87 | 49 => 88 | 50 => 89 | 57 => 94 | n => n, fun | 22 => 22 | 24 => 36 | 25 => 68 | 3 => 3 | 39 => 80 | 0 => 0 | 53 => 91 | 55 => 93 | 4 => 4 | 46 => 84 | 45 => 83 | 50 => 88 | 5 => 5 | 9 => 9 | 66 => 102 | 70 => 106 | 76 => 110 | 77 => 72 | n => n, fun | n => n⟩
theorem Try.sortR : Go.Proofs.SlLaysF0.n6 Try.prog Try.sortR_ren := {
  mixed := by kernel_rfl
  f6 := ⟨Try.f47.name, by decide, Try.func47.trans (congrArg some (by kernel_rfl))⟩
  f14 := ⟨Try.f58.name, by decide, Try.func58.trans (congrArg some (by kernel_rfl))⟩
  f15 := Try.func59.trans (congrArg some (by kernel_rfl))
  f20 := ⟨Try.f65.name, by decide, Try.func65.trans (congrArg some (by kernel_rfl))⟩
  f21 := ⟨Try.f66.name, by decide, Try.func66.trans (congrArg some (by kernel_rfl))⟩
  f22 := ⟨Try.f67.name, by decide, Try.func67.trans (congrArg some (by kernel_rfl))⟩
  f23 := ⟨Try.f68.name, by decide, Try.func68.trans (congrArg some (by kernel_rfl))⟩
  f24 := ⟨Try.f69.name, by decide, Try.func69.trans (congrArg some (by kernel_rfl))⟩
  f25 := ⟨Try.f70.name, by decide, Try.func70.trans (congrArg some (by kernel_rfl))⟩
  f26 := ⟨Try.f71.name, by decide, Try.func71.trans (congrArg some (by kernel_rfl))⟩
  f27 := ⟨Try.f72.name, by decide, Try.func72.trans (congrArg some (by kernel_rfl))⟩
  f28 := Try.func73.trans (congrArg some (by kernel_rfl))
  f29 := Try.func74.trans (congrArg some (by kernel_rfl))
  f46 := ⟨Try.f85.name, by decide, Try.func85.trans (congrArg some (by kernel_rfl))⟩
  f47 := Try.func86.trans (congrArg some (by kernel_rfl))
  f48 := Try.func87.trans (congrArg some (by kernel_rfl))
  f49 := ⟨Try.f88.name, by decide, Try.func88.trans (congrArg some (by kernel_rfl))⟩
  f50 := ⟨Try.f89.name, by decide, Try.func89.trans (congrArg some (by kernel_rfl))⟩
  f57 := ⟨Try.f94.name, by decide, Try.func94.trans (congrArg some (by kernel_rfl))⟩
  t0 := Try.underlying0
  a0 := Try.isAgg0
  z0 := Try.sizeOf0
  v0 := Try.zeroValue0
  t3 := Try.underlying3
  a3 := Try.isAgg3
  z3 := Try.sizeOf3
  v3 := Try.zeroValue3
  t4 := Try.underlying4
  a4 := Try.isAgg4
  z4 := Try.sizeOf4
  v4 := Try.zeroValue4
  t5 := Try.underlying5
  a5 := Try.isAgg5
  z5 := Try.sizeOf5
  v5 := Try.zeroValue5
  t9 := Try.underlying9
  a9 := Try.isAgg9
  z9 := Try.sizeOf9
  v9 := Try.zeroValue9
  t22 := Try.underlying22
  a22 := Try.isAgg22
  z22 := Try.sizeOf22
  v22 := Try.zeroValue22
  t25 := Try.underlying68
  a25 := Try.isAgg68
  z25 := Try.sizeOf68
  v25 := Try.zeroValue68
  t39 := Try.underlying80
  a39 := Try.isAgg80
  z39 := Try.sizeOf80
  v39 := Try.zeroValue80
  t45 := Try.underlying83
  a45 := Try.isAgg83
  z45 := Try.sizeOf83
  v45 := Try.zeroValue83
  t46 := Try.underlying84
  a46 := Try.isAgg84
  z46 := Try.sizeOf84
  v46 := Try.zeroValue84
  t50 := Try.underlying88
  a50 := Try.isAgg88
  z50 := Try.sizeOf88
  v50 := Try.zeroValue88
  t53 := Try.underlying91
  a53 := Try.isAgg91
  z53 := Try.sizeOf91
  v53 := Try.zeroValue91
  t55 := Try.underlying93
  a55 := Try.isAgg93
  z55 := Try.sizeOf93
  v55 := Try.zeroValue93
  t66 := Try.underlying102
  a66 := Try.isAgg102
  z66 := Try.sizeOf102
  v66 := Try.zeroValue102
  t70 := Try.underlying106
  a70 := Try.isAgg106
  z70 := Try.sizeOf106
  v70 := Try.zeroValue106
  t76 := Try.underlying110
  a76 := Try.isAgg110
  z76 := Try.sizeOf110
  v76 := Try.zeroValue110
  t77 := Try.underlying72
  a77 := Try.isAgg72
  z77 := Try.sizeOf72
  v77 := Try.zeroValue72 }
end Go.Proofs
end
section
namespace Go.Proofs.Ytmidiifgdloojaa.SpanSort
open Go.RowKit Go.Sort Go.Lib Go.Proofs.YtmidiifgdloojaaW.PrintWords Go.Proofs.YtmidiifgdloojaaW.PrintLast Go.Proofs.YtmidiifgdloojaaW.PrintMore Go.Proofs.Ytmidiifgdloojaa.Pr
abbrev RB : Type := {r : S36 // 0 ≤ r.f0 ∧ r.f0 ≤ 1048576}
instance : Inhabited RB := ⟨⟨⟨0, 0⟩, by decide⟩⟩
def encB (r : RB) : List Value := enc36 r.1
def cfB (x y : RB) : Int := x.1.f0 - y.1.f0
theorem ltB (x y : RB) : ltOf cfB x y = decide (x.1.f0 < y.1.f0) := by
  unfold ltOf cfB
  by_cases h : x.1.f0 < y.1.f0
  · rw [decide_eq_true h]; exact decide_eq_true (by omega)
  · rw [decide_eq_false h]; exact decide_eq_false (by omega)
theorem swoB : SWO (ltOf cfB) where
  irrefl x := by rw [ltB]; simp
  trans x y z h1 h2 := by rw [ltB] at *; simp at *; omega
  ntrans x y z h1 h2 := by rw [ltB] at *; simp at *; omega
theorem cmpB (blk off size : Nat) (w : World) : CmpLays Try.prog 48 #[] encB 2 cfB blk off size w := fun _ _ _ _ x y => closure48 x.1 y.1 x.2 y.2 _
theorem flat_toList (d : Array RB) : (flatK encB 2 d).toList = flat36 (d.toList.map (fun r => r.1)) := by
  apply List.ext_getElem?
  intro t
  by_cases ht : t < d.size * 2
  · have hj : t / 2 < d.size := by omega
    have hj2 : t / 2 < (d.toList.map (fun r => r.1)).length := by simpa using hj
    obtain ⟨g0, g1⟩ := flat36_get (d.toList.map (fun r => r.1)) (t / 2) hj2
    have hs : t < (flatK encB 2 d).size := by rw [size_flatK]; exact ht
    have e1 : (flatK encB 2 d).toList[t]? = some (flatK encB 2 d)[t]! := by
      rw [Array.getElem?_toList, Array.getElem?_eq_getElem hs, getElem!_pos _ t hs]
    rw [e1, get_flatK encB 2 d t ht, getElem!_pos d (t / 2) hj]
    have hv : (d.toList.map (fun r => r.1))[t / 2] = (d[t / 2]).1 := by simp
    rw [hv] at g0 g1
    rcases Nat.mod_two_eq_zero_or_one t with hm | hm
    · rw [show t / 2 * 2 = t from by omega] at g0
      rw [hm, g0]; rfl
    · rw [show t / 2 * 2 + 1 = t from by omega] at g1
      rw [hm, g1]; rfl
  · rw [List.getElem?_eq_none (by rw [Array.length_toList, size_flatK]; omega), List.getElem?_eq_none (by rw [flat36_len]; simp; omega)]
theorem put_take (F cur : Array Value) (h : F.size ≤ cur.size) : (putCells id 0 F cur).toList.take F.size = F.toList := by
  apply List.ext_getElem?
  intro t
  rw [List.getElem?_take]
  by_cases ht : t < F.size
  · rw [if_pos ht, Array.getElem?_toList, Array.getElem?_toList, Array.getElem?_eq_getElem ht]
    unfold putCells
    rw [Array.getElem?_mapIdx, Array.getElem?_eq_getElem (by omega)]
    simp [ht]
  · rw [if_neg ht, List.getElem?_eq_none (by rw [Array.length_toList]; omega)]
theorem sort36 {W : World} {base : Nat} {ok : Nat → Prop} {A : Option Addr} {c : Nat} {ys : List S36} (HO : Kd.R k36 36 W base ok (.slice A ys.length c) ys) (hb : ∃ b, (Value.slice A ys.length c).ownBlock = some b) (hg : ∀ r ∈ ys, 0 ≤ r.f0 ∧ r.f0 ≤ 1048576) (hl : ys.length ≤ 32768) :
    Calls Try.prog 47 #[.slice A ys.length c, .func (.func 48) #[] #[]] W fun e w' => e = .returned (.tuple #[]) ∧ ∃ zs : List S36, zs.Perm ys ∧ zs.Pairwise (fun p q => p.f0 ≤ q.f0) ∧ Kd.R k36 36 w' base ok (.slice A zs.length c) zs ∧ Below base W w' := by
  obtain ⟨h0, hown⟩ := row_of_R HO
  rcases hown.2 with ⟨hv, _⟩ | ⟨g, cap, cur, hv, hbg, hh, hnc, hcm, hcs, htake⟩
  · obtain ⟨b, hb⟩ := hb
    rw [hv] at hb
    simp [Value.ownBlock] at hb
  injection hv with hA _ hc
  subst hA
  subst hc
  let ds : List RB := ys.attach.map (fun x => ⟨x.1, hg x.1 x.2⟩)
  have hds : ds.map (fun r => r.1) = ys := by simp [ds]
  have hdl : ds.length = ys.length := by simp [ds]
  have hsz : ds.toArray.size = ys.length := by simp [ds]
  have hF : (flatK encB 2 ds.toArray).toList = flat36 ys := by rw [flat_toList]; simp only [hds]
  have hH : HoldsK encB 2 W g 0 ds.toArray := by
    intro j hj
    rw [size_flatK, hsz] at hj
    refine ⟨?_, blk_frozen hh _⟩
    have e1 : (flatK encB 2 ds.toArray)[j]! = cur[j]! := by
      have hj1 : j < (flatK encB 2 ds.toArray).size := by rw [size_flatK, hsz]; exact hj
      have hj2 : j < cur.size := by rw [hcs]; omega
      have e2 : (flatK encB 2 ds.toArray).toList[j]? = cur.toList[j]? := by
        rw [hF, ← htake, List.getElem?_take, if_pos hj]
      rw [Array.getElem?_toList, Array.getElem?_toList, Array.getElem?_eq_getElem hj1, Array.getElem?_eq_getElem hj2] at e2
      injection e2 with e2
      rw [getElem!_pos _ j hj1, getElem!_pos _ j hj2, e2]
    have hj2 : j < cur.size := by rw [hcs]; omega
    simp only [Nat.zero_add, World.cell?, hh, e1, id]
    rw [getElem!_pos _ j hj2]
    simp [hj2]
  have hcon := AnyQ.slices_SortFunc Try.sortR 2 Try.isAgg36 Try.sizeOf36 encB (fun _ => rfl) (fun x v hv => by simp [encB, enc36] at hv; rcases hv with rfl | rfl <;> rfl) cfB swoB 48 #[] g 0 c ds.toArray W (enters_of Try.func48 (by kernel_rfl) rfl) (cmpB g 0 ds.toArray.size W) hH (blk_lt hh) (by omega)
  change Calls Try.prog 47 _ _ _ at hcon
  rw [hsz] at hcon
  refine hcon.mono ?_
  rintro e w' ⟨rfl, d', n, os, ⟨p1, _, p3⟩, hs, rfl⟩
  replace p1 : d'.size = ys.length := p1.trans hsz
  have hzl : d'.toList.length = ys.length := by rw [Array.length_toList, p1]
  refine ⟨rfl, d'.toList.map (fun r => r.1), ?_, ?_, ?_, ?_⟩
  · rw [Array.extract_eq_self_of_le (by omega), Array.extract_eq_self_of_le (by omega)] at p3
    have := p3.map (fun r : RB => r.1)
    simp only [hds] at this
    exact this
  · rw [List.pairwise_iff_getElem]
    intro i j hi hj hij
    simp only [List.length_map, Array.length_toList] at hi hj
    have := hs i j (Nat.zero_le _) hij (by omega)
    rw [ltB, getElem!_pos d' i hi, getElem!_pos d' j hj, decide_eq_false_iff_not] at this
    simp
    omega
  · have hlen : (d'.toList.map (fun r : RB => r.1)).length = ys.length := by rw [List.length_map, hzl]
    rw [hlen]
    refine R_of_row h0 ⟨by rw [flat36_len], .inr ⟨g, c, putCells id 0 (flatK encB 2 d') cur, by rw [hlen], hbg, ?_, by omega, hcm, by simp [putCells, hcs], ?_⟩⟩
    · have hlt := blk_lt hh
      show ((W.heap.modify g (onCells (putCells id 0 (flatK encB 2 d')))) ++ os)[g]? = _
      rw [Array.getElem?_append_left (by simpa using hlt), Array.getElem?_modify, if_pos rfl, hh]
      rfl
    · rw [← flat_toList, show (d'.toList.map (fun r : RB => r.1)).length * 2 = (flatK encB 2 d').size from by rw [size_flatK, hlen, p1]]
      exact put_take _ _ (by rw [size_flatK, p1, hcs]; omega)
  · have hlt := blk_lt hh
    refine ⟨rfl, rfl, rfl, ?_, fun k hk => ?_⟩
    · show W.heap.size ≤ ((W.heap.modify g (onCells (putCells id 0 (flatK encB 2 d')))) ++ os).size
      simp
    · show ((W.heap.modify g (onCells (putCells id 0 (flatK encB 2 d')))) ++ os)[k]? = _
      rw [Array.getElem?_append_left (by simp; omega), Array.getElem?_modify, if_neg (by omega)]
end Go.Proofs.Ytmidiifgdloojaa.SpanSort
end
section
namespace Go.Proofs.Ytmidiifgdloojaa.Pr
open Go.RowKit Go.Proofs.YtmidiifgdloojaaW.PrintWords Go.Proofs.YtmidiifgdloojaaW.PrintLast Go.Proofs.YtmidiifgdloojaaW.PrintMore
attribute [local go_sem] max2_int min2_int max_two min_two max_three min_three max_four min_four
set_option linter.unusedVariables false
set_option linter.unusedSimpArgs false
open Go.Proofs.Ytmidiifgdloojaa.SpanMath
open Go.Proofs.Ytmidiifgdloojaa
def span_Make.l1 : Nat → List (S36) → List (S36) → Int → Int → Option ((List (S36)) × Int)
 | 0, _, _, _, _ => none
 | k + 1, x7, x43, x44, x45 => if x45 < x44 then (if 0 ≤ x45 then (if x45 < (x43.length : Int) then ((span_add.f x7 ((rd_T36 x43 x45).f0) ((rd_T36 x43 x45).f1)).bind fun t119 => (span_Make.l1 k t119 x43 x44 (wrap64 (x45 + 1)))) else (none)) else (none)) else ((span_bounded.f x7).bind fun bt122 => (some (bt122.1, bt122.2)))
def span_Make.srt (l : List S36) : List S36 := l.mergeSort (fun x y => decide (x.f0 ≤ y.f0))
def span_Make.fin (l : List S36) : Option ((List (S36)) × Int) := if l.length ≤ 32768 ∧ (∀ r ∈ l, 0 ≤ r.f0 ∧ r.f0 ≤ 1048576) then (span_bounded.f (adds [] (span_Make.srt l))).bind fun b => some (b.1, b.2) else none
def span_Make.l0 : Nat → List (S36) → List (S36) → Int → Int → Option ((List (S36)) × Int)
 | 0, _, _, _, _ => none
 | k + 1, x0, x13, x14, x15 => if x15 < x14 then (if 0 ≤ x15 then (if x15 < (x13.length : Int) then (if ((rd_T36 x13 x15).f0) < 0 then (some (([] : List (S36)), 20)) else (if ((rd_T36 x13 x15).f1) > 1048576 then (some (([] : List (S36)), 20)) else (if ((rd_T36 x13 x15).f0) > ((rd_T36 x13 x15).f1) then (some (([] : List (S36)), 20)) else (span_Make.l0 k x0 x13 x14 (wrap64 (x15 + 1)))))) else (none)) else (none)) else (if 0 ≤ (x0.length : Int) then (if ((x0.length : Int) : Int).toNat ≤ 17592186044416 then (span_Make.fin x0) else (none)) else (none))
def span_Make.f (l0 : List (S36)) : Option ((List (S36)) × Int) := if (l0.length : Int) > 32768 then (some (([] : List (S36)), 21)) else (span_Make.l0 (l0.length + 1) l0 l0 (l0.length : Int) 0)
theorem span_Make.srt_perm (l : List S36) : (span_Make.srt l).Perm l := List.mergeSort_perm _ _
theorem span_Make.srt_ris (l : List S36) : Ris (span_Make.srt l) := by
 have h := List.pairwise_mergeSort (le := fun x y : S36 => decide (x.f0 ≤ y.f0)) (fun a b c h1 h2 => by simp at *; omega) (fun a b => by simp; omega) l
 exact h.imp (fun h => of_decide_eq_true h)
theorem span_Make.adds_same {l m : List S36} (hp : l.Perm m) (hl : Ris l) (hm : Ris m) : adds [] l = adds [] m := by
 obtain ⟨a1, a2⟩ := adds_spec l [] nrm_nil hl.up (fun _ _ _ r hr => by simp at hr)
 obtain ⟨b1, b2⟩ := adds_spec m [] nrm_nil hm.up (fun _ _ _ r hr => by simp at hr)
 exact nrm_ext a1 b1 (fun q => by rw [a2, b2, mem_iff (fun x => hp.mem_iff) q])
theorem span_Make.l1_eq : ∀ (suf pre acc : List S36) (k : Nat), (pre ++ suf).length ≤ 32768 → acc.length ≤ pre.length → suf.length + 1 ≤ k →
  span_Make.l1 k acc (pre ++ suf) ((pre ++ suf).length : Int) (pre.length : Int) = (span_bounded.f (adds acc suf)).bind fun b => some (b.1, b.2)
 | [], pre, acc, k, hl, ha, hk => by
  obtain ⟨k, rfl⟩ : ∃ m, k = m + 1 := ⟨k - 1, by omega⟩
  simp only [span_Make.l1]
  rw [if_neg (by simp)]
  rfl
 | r :: suf, pre, acc, k, hl, ha, hk => by
  simp only [List.length_cons] at hk
  obtain ⟨k, rfl⟩ : ∃ m, k = m + 1 := ⟨k - 1, by omega⟩
  have hl1 : (pre ++ r :: suf).length = pre.length + 1 + suf.length := by simp; omega
  have hw : wrap64 ((pre.length : Int) + 1) = ((pre ++ [r]).length : Int) := by rw [SpanFns.w64 (by omega) (by omega)]; simp
  simp only [span_Make.l1]
  rw [if_pos (by omega), if_pos (by omega), if_pos (by omega), SpanFns.rd_at, SpanFns.add_f (by show acc.length < _; omega)]
  simp only [Option.bind_some]
  have := addS_len acc r.f0 r.f1
  have ih := span_Make.l1_eq suf (pre ++ [r]) (addS acc r.f0 r.f1) k (by rw [List.append_assoc]; exact hl) (by simp; omega) (by omega)
  rw [List.append_assoc, List.singleton_append] at ih
  rw [hw, ih, adds_cons]
theorem span_Make.fin_open {l : List S36} {r : List S36 × Int} (h : span_Make.fin l = some r) : l.length ≤ 32768 ∧ (∀ r ∈ l, 0 ≤ r.f0 ∧ r.f0 ≤ 1048576) ∧ ∀ zs : List S36, zs.Perm l → zs.Pairwise (fun p q => p.f0 ≤ q.f0) → span_Make.l1 (zs.length + 1) [] zs (zs.length : Int) 0 = some r := by
 unfold span_Make.fin at h
 split at h
 ·rename_i g
  refine ⟨g.1, g.2, fun zs hp hs => ?_⟩
  have := span_Make.l1_eq zs [] [] (zs.length + 1) (by rw [List.nil_append, hp.length_eq]; exact g.1) (Nat.le_refl _) (Nat.le_refl _)
  rw [List.nil_append] at this
  rw [show (0 : Int) = (([] : List S36).length : Int) from rfl, this, span_Make.adds_same (hp.trans (span_Make.srt_perm l).symm) hs (span_Make.srt_ris l), h]
 ·exact absurd h (by simp)
set_option maxHeartbeats 8000000 in
set_option maxRecDepth 100000 in
theorem span_Make.calls (A0 : Option Addr) (c0 : Nat) (l0 : List (S36)) (r1 : List (S36)) (r2 : Int) (w : World) (hr0 : Kd.C k36 w A0 l0.length l0) (hc0 : l0.length ≤ c0) (h : span_Make.f l0 = some (r1, r2)) :
  Calls Try.prog 16 #[.slice A0 l0.length c0] w fun e w' => ∃ v0_ : Value, e = .returned (.tuple #[v0_, .int .i64 r2]) ∧ Kd.R k36 36 w' w.heap.size (fun _ => True) v0_ r1 ∧ Below w.heap.size w w' := by
 have hu36 := Try.underlying36
 have HR0 := Aside0.mk hr0
 have HC0 := Aside0.mk hc0
 clear hr0 hc0
 have HB := Aside0.mk (Below.refl w.heap.size w)
 have H : (if (l0.length : Int) > 32768 then (some (([] : List (S36)), 21)) else (span_Make.l0 (l0.length + 1) l0 l0 (l0.length : Int) 0)) = some (r1, r2) := h
 generalize l0.length + 1 = k at H
 clear h
 by_cases c2 : (l0.length : Int) > 32768
 ·rw [if_pos c2] at H
  have c2b0 : decide (32768 < (l0.length : Int)) = true := decide_eq_true c2
  have c2b1 : decide (32768 < l0.length) = true := decide_eq_true (by omega)
  clear c2
  simp only [Option.some.injEq, Prod.mk.injEq] at H
  obtain ⟨rfl, rfl⟩ := H
  go_enter Try.func16, Try.ntmps16
  go_wp2
  go_ret2
  exact ⟨_, by first | rfl | (simp [errW_none, errW_some] <;> rfl) | (simp [*, errW_none, errW_some] <;> rfl), by first | exact Kd.R_nil _ _ _ _ _ | exact Kd.N_nil _ _ _ _ _ | exact Kd.V_nil _ _ _ _ _ | exact Kd.Q_nil _ _ _ _ _ | exact Kd.S_nil _ _ _ _ _, by repeat (first | (with_reducible first | exact HB.out | apply below_alloc | apply pw_below_drewN | apply below_drew1) | exact HB.out)⟩
 ·rw [if_neg c2] at H
  have c2b0 : decide (32768 < (l0.length : Int)) = false := decide_eq_false c2
  have c2b1 : decide (32768 < l0.length) = false := decide_eq_false (by omega)
  clear c2
  have H' := Aside0.mk H
  clear H
  go_enter Try.func16, Try.ntmps16
  go_wp2
  go_loopg [15] k (fun kq v15 w' => ∃ (x15_1 : Int), v15 = .int .i64 x15_1 ∧ Aside0 (span_Make.l0 kq l0 l0 (l0.length : Int) x15_1 = some (r1, r2)) ∧ Aside0 (kq ≤ k) ∧ Aside0 (Below w.heap.size w w'))
  case atStart => exact ⟨(0), (by first | rfl | (simp; done) | (simp [*]; done)), H', ⟨Nat.le_refl _⟩, ⟨by repeat (first | (with_reducible first | exact HB.out | apply below_alloc | apply pw_below_drewN | apply below_drew1) | exact HB.out)⟩⟩
  case round =>
   clear H'
   try clear c1
   try clear c2
   try clear c2b0
   try clear c2b1
   try clear p2
   obtain ⟨x15_1, rfl, HA, HK1, HB⟩ := hrel
   cases gk with
   | zero => exact absurd HA.out (by simp [span_Make.l0])
   | succ k1 =>
    have H := HA.out
    clear HA
    simp only [span_Make.l0] at H
    by_cases c3 : x15_1 < (l0.length : Int)
    ·rw [if_pos c3] at H
     have c3b0 : decide (x15_1 < (l0.length : Int)) = true := decide_eq_true c3
     clear c3
     by_cases c4 : 0 ≤ x15_1
     ·rw [if_pos c4] at H
      have c4b0 : decide (0 ≤ x15_1) = true := decide_eq_true c4
      clear c4
      by_cases c5 : x15_1 < (l0.length : Int)
      ·rw [if_pos c5] at H
       have c5b0 : decide (x15_1 < (l0.length : Int)) = true := decide_eq_true c5
       clear c5
       by_cases c6 : ((rd_T36 l0 x15_1).f0) < 0
       ·rw [if_pos c6] at H
        have c6b0 : decide (((rd_T36 l0 x15_1).f0) < 0) = true := decide_eq_true c6
        clear c6
        simp only [Option.some.injEq, Prod.mk.injEq] at H
        obtain ⟨rfl, rfl⟩ := H
        have p112 : 0 ≤ (x15_1 : Int) := of_decide_eq_true (by first | (with_reducible assumption) | assumption)
        have q112 : x15_1 < (l0.length : Int) := of_decide_eq_true (by first | (with_reducible assumption) | assumption)
        obtain ⟨ad112, e112, hx112_0, hx112_1⟩ := at_T36 HR0.out x15_1 p112 q112
        cases e112
        replace hx112_0 := (HB.out.cell (World.block_lt_of_cell? w _ hx112_0)).trans hx112_0
        replace hx112_1 := (HB.out.cell (World.block_lt_of_cell? w _ hx112_1)).trans hx112_1
        replace p112 := eq_true p112
        replace q112 := eq_true q112
        go_wp2_with (first | ((with_reducible refine gate_dst (N := 5) rfl ?_); refine box_event ?hg (N := 5) ?hd (cs := #[.int .i64 0, .int .i64 0]) (t := 36) ?hr ?_; (case hd => rfl); (case hg => rfl); (case hr => first | (go_simp; done) | (go_simp; rfl)); intro gb113 hg w7 hbox hb; have n0_ := Aside0.mk (below_step (by repeat (first | (with_reducible first | exact HB.out | apply below_alloc | apply pw_below_drewN | apply below_drew1) | exact HB.out)) hb); have n1_ := Aside0.mk (hbox); have n2_ := Aside0.mk ((by rw [hg]; exact (below_size (by repeat (first | (with_reducible first | exact HB.out | apply below_alloc | apply pw_below_drewN | apply below_drew1) | exact HB.out))) : w.heap.size ≤ gb113)); have n3_ := Aside0.mk ((by rw [hg]; exact (below_size (by repeat (first | (with_reducible first | exact HB.out | apply below_alloc | apply pw_below_drewN | apply below_drew1) | exact HB.out))) : w.heap.size ≤ gb113)); clear HB; have HB := n0_; have BK113 := n1_; have GW113 := n2_; have GE113 := n3_; clear n0_ n1_ n2_ n3_; clear hb hbox hg; have hcz8_0 : w7.cell? ⟨gb113, 0, none⟩ = some (.int .i64 0) := (blk_cell BK113.out 0).trans rfl; have hcz8_1 : w7.cell? ⟨gb113, 1, none⟩ = some (.int .i64 0) := (blk_cell BK113.out 1).trans rfl; have hfz8_0 := blk_frozen BK113.out 0; have hfz8_1 := blk_frozen BK113.out 1))
        go_ret2
        exact ⟨_, by first | rfl | (simp [errW_none, errW_some] <;> rfl) | (simp [*, errW_none, errW_some] <;> rfl), by first | exact Kd.R_nil _ _ _ _ _ | exact Kd.N_nil _ _ _ _ _ | exact Kd.V_nil _ _ _ _ _ | exact Kd.Q_nil _ _ _ _ _ | exact Kd.S_nil _ _ _ _ _, by repeat (first | (with_reducible first | exact HB.out | apply below_alloc | apply pw_below_drewN | apply below_drew1 | refine below_set ?_ GE113.out) | exact HB.out)⟩
       ·rw [if_neg c6] at H
        have c6b0 : decide (((rd_T36 l0 x15_1).f0) < 0) = false := decide_eq_false c6
        clear c6
        by_cases c9 : ((rd_T36 l0 x15_1).f1) > 1048576
        ·rw [if_pos c9] at H
         have c9b0 : decide (1048576 < ((rd_T36 l0 x15_1).f1)) = true := decide_eq_true c9
         clear c9
         simp only [Option.some.injEq, Prod.mk.injEq] at H
         obtain ⟨rfl, rfl⟩ := H
         have p112 : 0 ≤ (x15_1 : Int) := of_decide_eq_true (by first | (with_reducible assumption) | assumption)
         have q112 : x15_1 < (l0.length : Int) := of_decide_eq_true (by first | (with_reducible assumption) | assumption)
         obtain ⟨ad112, e112, hx112_0, hx112_1⟩ := at_T36 HR0.out x15_1 p112 q112
         cases e112
         replace hx112_0 := (HB.out.cell (World.block_lt_of_cell? w _ hx112_0)).trans hx112_0
         replace hx112_1 := (HB.out.cell (World.block_lt_of_cell? w _ hx112_1)).trans hx112_1
         replace p112 := eq_true p112
         replace q112 := eq_true q112
         go_wp2_with (first | ((with_reducible refine gate_dst (N := 5) rfl ?_); refine box_event ?hg (N := 5) ?hd (cs := #[.int .i64 0, .int .i64 0]) (t := 36) ?hr ?_; (case hd => rfl); (case hg => rfl); (case hr => first | (go_simp; done) | (go_simp; rfl)); intro gb113 hg w10 hbox hb; have n0_ := Aside0.mk (below_step (by repeat (first | (with_reducible first | exact HB.out | apply below_alloc | apply pw_below_drewN | apply below_drew1) | exact HB.out)) hb); have n1_ := Aside0.mk (hbox); have n2_ := Aside0.mk ((by rw [hg]; exact (below_size (by repeat (first | (with_reducible first | exact HB.out | apply below_alloc | apply pw_below_drewN | apply below_drew1) | exact HB.out))) : w.heap.size ≤ gb113)); have n3_ := Aside0.mk ((by rw [hg]; exact (below_size (by repeat (first | (with_reducible first | exact HB.out | apply below_alloc | apply pw_below_drewN | apply below_drew1) | exact HB.out))) : w.heap.size ≤ gb113)); clear HB; have HB := n0_; have BK113 := n1_; have GW113 := n2_; have GE113 := n3_; clear n0_ n1_ n2_ n3_; clear hb hbox hg; have hcz11_0 : w10.cell? ⟨gb113, 0, none⟩ = some (.int .i64 0) := (blk_cell BK113.out 0).trans rfl; have hcz11_1 : w10.cell? ⟨gb113, 1, none⟩ = some (.int .i64 0) := (blk_cell BK113.out 1).trans rfl; have hfz11_0 := blk_frozen BK113.out 0; have hfz11_1 := blk_frozen BK113.out 1))
         go_ret2
         exact ⟨_, by first | rfl | (simp [errW_none, errW_some] <;> rfl) | (simp [*, errW_none, errW_some] <;> rfl), by first | exact Kd.R_nil _ _ _ _ _ | exact Kd.N_nil _ _ _ _ _ | exact Kd.V_nil _ _ _ _ _ | exact Kd.Q_nil _ _ _ _ _ | exact Kd.S_nil _ _ _ _ _, by repeat (first | (with_reducible first | exact HB.out | apply below_alloc | apply pw_below_drewN | apply below_drew1 | refine below_set ?_ GE113.out) | exact HB.out)⟩
        ·rw [if_neg c9] at H
         have c9b0 : decide (1048576 < ((rd_T36 l0 x15_1).f1)) = false := decide_eq_false c9
         clear c9
         by_cases c12 : ((rd_T36 l0 x15_1).f0) > ((rd_T36 l0 x15_1).f1)
         ·rw [if_pos c12] at H
          have c12b0 : decide (((rd_T36 l0 x15_1).f1) < ((rd_T36 l0 x15_1).f0)) = true := decide_eq_true c12
          clear c12
          simp only [Option.some.injEq, Prod.mk.injEq] at H
          obtain ⟨rfl, rfl⟩ := H
          have p112 : 0 ≤ (x15_1 : Int) := of_decide_eq_true (by first | (with_reducible assumption) | assumption)
          have q112 : x15_1 < (l0.length : Int) := of_decide_eq_true (by first | (with_reducible assumption) | assumption)
          obtain ⟨ad112, e112, hx112_0, hx112_1⟩ := at_T36 HR0.out x15_1 p112 q112
          cases e112
          replace hx112_0 := (HB.out.cell (World.block_lt_of_cell? w _ hx112_0)).trans hx112_0
          replace hx112_1 := (HB.out.cell (World.block_lt_of_cell? w _ hx112_1)).trans hx112_1
          replace p112 := eq_true p112
          replace q112 := eq_true q112
          go_wp2_with (first | ((with_reducible refine gate_dst (N := 5) rfl ?_); refine box_event ?hg (N := 5) ?hd (cs := #[.int .i64 0, .int .i64 0]) (t := 36) ?hr ?_; (case hd => rfl); (case hg => rfl); (case hr => first | (go_simp; done) | (go_simp; rfl)); intro gb113 hg w13 hbox hb; have n0_ := Aside0.mk (below_step (by repeat (first | (with_reducible first | exact HB.out | apply below_alloc | apply pw_below_drewN | apply below_drew1) | exact HB.out)) hb); have n1_ := Aside0.mk (hbox); have n2_ := Aside0.mk ((by rw [hg]; exact (below_size (by repeat (first | (with_reducible first | exact HB.out | apply below_alloc | apply pw_below_drewN | apply below_drew1) | exact HB.out))) : w.heap.size ≤ gb113)); have n3_ := Aside0.mk ((by rw [hg]; exact (below_size (by repeat (first | (with_reducible first | exact HB.out | apply below_alloc | apply pw_below_drewN | apply below_drew1) | exact HB.out))) : w.heap.size ≤ gb113)); clear HB; have HB := n0_; have BK113 := n1_; have GW113 := n2_; have GE113 := n3_; clear n0_ n1_ n2_ n3_; clear hb hbox hg; have hcz14_0 : w13.cell? ⟨gb113, 0, none⟩ = some (.int .i64 0) := (blk_cell BK113.out 0).trans rfl; have hcz14_1 : w13.cell? ⟨gb113, 1, none⟩ = some (.int .i64 0) := (blk_cell BK113.out 1).trans rfl; have hfz14_0 := blk_frozen BK113.out 0; have hfz14_1 := blk_frozen BK113.out 1))
          go_ret2
          exact ⟨_, by first | rfl | (simp [errW_none, errW_some] <;> rfl) | (simp [*, errW_none, errW_some] <;> rfl), by first | exact Kd.R_nil _ _ _ _ _ | exact Kd.N_nil _ _ _ _ _ | exact Kd.V_nil _ _ _ _ _ | exact Kd.Q_nil _ _ _ _ _ | exact Kd.S_nil _ _ _ _ _, by repeat (first | (with_reducible first | exact HB.out | apply below_alloc | apply pw_below_drewN | apply below_drew1 | refine below_set ?_ GE113.out) | exact HB.out)⟩
         ·rw [if_neg c12] at H
          have c12b0 : decide (((rd_T36 l0 x15_1).f1) < ((rd_T36 l0 x15_1).f0)) = false := decide_eq_false c12
          clear c12
          have H' := Aside0.mk H
          clear H
          have p112 : 0 ≤ (x15_1 : Int) := of_decide_eq_true (by first | (with_reducible assumption) | assumption)
          have q112 : x15_1 < (l0.length : Int) := of_decide_eq_true (by first | (with_reducible assumption) | assumption)
          obtain ⟨ad112, e112, hx112_0, hx112_1⟩ := at_T36 HR0.out x15_1 p112 q112
          cases e112
          replace hx112_0 := (HB.out.cell (World.block_lt_of_cell? w _ hx112_0)).trans hx112_0
          replace hx112_1 := (HB.out.cell (World.block_lt_of_cell? w _ hx112_1)).trans hx112_1
          replace p112 := eq_true p112
          replace q112 := eq_true q112
          go_wp2_with (first | ((with_reducible refine gate_dst (N := 5) rfl ?_); refine box_event ?hg (N := 5) ?hd (cs := #[.int .i64 0, .int .i64 0]) (t := 36) ?hr ?_; (case hd => rfl); (case hg => rfl); (case hr => first | (go_simp; done) | (go_simp; rfl)); intro gb113 hg w15 hbox hb; have n0_ := Aside0.mk (below_step (by repeat (first | (with_reducible first | exact HB.out | apply below_alloc | apply pw_below_drewN | apply below_drew1) | exact HB.out)) hb); have n1_ := Aside0.mk (hbox); have n2_ := Aside0.mk ((by rw [hg]; exact (below_size (by repeat (first | (with_reducible first | exact HB.out | apply below_alloc | apply pw_below_drewN | apply below_drew1) | exact HB.out))) : w.heap.size ≤ gb113)); have n3_ := Aside0.mk ((by rw [hg]; exact (below_size (by repeat (first | (with_reducible first | exact HB.out | apply below_alloc | apply pw_below_drewN | apply below_drew1) | exact HB.out))) : w.heap.size ≤ gb113)); clear HB; have HB := n0_; have BK113 := n1_; have GW113 := n2_; have GE113 := n3_; clear n0_ n1_ n2_ n3_; clear hb hbox hg; have hcz16_0 : w15.cell? ⟨gb113, 0, none⟩ = some (.int .i64 0) := (blk_cell BK113.out 0).trans rfl; have hcz16_1 : w15.cell? ⟨gb113, 1, none⟩ = some (.int .i64 0) := (blk_cell BK113.out 1).trans rfl; have hfz16_0 := blk_frozen BK113.out 0; have hfz16_1 := blk_frozen BK113.out 1))
          go_roundg k1
          case measure => have := HK1.out; omega
          case rel => exact ⟨(wrap64 (x15_1 + 1)), (by first | rfl | (simp; done) | (simp [*]; done)), H', ⟨by have := HK1.out; omega⟩, ⟨by repeat (first | (with_reducible first | exact HB.out | apply below_alloc | apply pw_below_drewN | apply below_drew1 | refine below_set ?_ GE113.out) | exact HB.out)⟩⟩
      ·rw [if_neg c5] at H
       exact absurd H (by simp)
     ·rw [if_neg c4] at H
      exact absurd H (by simp)
    ·rw [if_neg c3] at H
     have c3b0 : decide (x15_1 < (l0.length : Int)) = false := decide_eq_false c3
     clear c3
     by_cases c17 : 0 ≤ (l0.length : Int)
     ·rw [if_pos c17] at H
      have c17b0 := eq_true c17
      have c17b1 : decide (0 ≤ (l0.length : Int)) = true := decide_eq_true c17
      clear c17
      by_cases c18 : ((l0.length : Int) : Int).toNat ≤ 17592186044416
      ·rw [if_pos c18] at H
       have c18b0 := eq_true c18
       have c18b1 : decide (((l0.length : Int) : Int).toNat ≤ 17592186044416) = true := decide_eq_true c18
       clear c18
       obtain ⟨hshort, hgood, hfin⟩ := span_Make.fin_open H
       clear H
       go_wp2_with (first | ((with_reducible refine gate_dst (N := 37) rfl ?_); refine Kd.R_make k36 _ 36 rfl (N := 37) rfl 22 _ _ rfl (l0.length : Int) rfl rfl Try.underlying22 (.agg #[(.int .i64 0), (.int .i64 0)]) 16 info36 rfl (by decide) (by omega) z36 (ok := fun _ => True) (okp := fun _ => True) (k36_mkM _ _ _ z36 ) (fun _ hk => hk) trivial (of_decide_eq_true (by first | (with_reducible assumption) | assumption)) (Nat.le_trans (Nat.mul_le_mul_right _ (of_decide_eq_true (by first | (with_reducible assumption) | assumption) : (l0.length : Int).toNat ≤ 17592186044416)) (by omega)) (Below.refl _ _) (Nat.le_refl _) ?_; intro v115 w19 ho20 hb hg_ hnew_; clear hg_; have hnew0 : ∃ b, (v115 : Value).ownBlock = some b := Exists.elim hnew_ (fun b h_ => ⟨b, h_.1⟩); clear hnew_; have n0_ := Aside0.mk (Kd.R_lower ho20 (below_size (by repeat (first | (with_reducible first | exact HB.out | apply below_alloc | apply pw_below_drewN | apply below_drew1) | exact HB.out)))); have n1_ := Aside0.mk (below_step (by repeat (first | (with_reducible first | exact HB.out | apply below_alloc | apply pw_below_drewN | apply below_drew1) | exact HB.out)) hb); clear HB; have HOm := n0_; have HB := n1_; clear n0_ n1_; clear hb ho20) | ((with_reducible refine gate_builtin (b := .copy) (xs := #[.tmp 38, .tmp 39]) rfl ?_); refine SpanSort.R_copy36 (w0 := w) w.heap.size rfl (.tmp 38) (.tmp 39) 22 22 rfl Try.underlying22 SpanSort.info36s v115 (List.replicate ((l0.length : Int) : Int).toNat z36) l0 A0 c0 (fun _ => True) rfl rfl (by simp) hnew0 ?aO ?aR ?aB ?aS ?_; (case aO => (with_reducible repeat (first | apply Kd.R_alloc | apply Kd.R_drewN | apply Kd.R_drew)); exact HOm.out); (case aR => exact Kd.C_below HR0.out (by repeat (first | (with_reducible first | exact HB.out | apply below_alloc | apply pw_below_drewN | apply below_drew1) | exact HB.out))); (case aB => exact (by repeat (first | (with_reducible first | exact HB.out | apply below_alloc | apply pw_below_drewN | apply below_drew1) | exact HB.out))); (case aS => exact below_size (by repeat (first | (with_reducible first | exact HB.out | apply below_alloc | apply pw_below_drewN | apply below_drew1) | exact HB.out))); intro wcp hcp hbcp; have n0_ := Aside0.mk hcp; have n1_ := Aside0.mk hbcp; clear HB HOm; have HOm := n0_; have HB := n1_; clear n0_ n1_ hcp hbcp; obtain ⟨Acp, ccp, ecp⟩ := Kd.R_slice HOm.out; subst ecp) | ((with_reducible refine gate_callee (f := 47) rfl ?_); refine goesL_ (some 42) rfl rfl Try.func47 (by kernel_rfl) rfl #[.slice Acp l0.length ccp, .func (.func 48) #[] #[]] rfl (by (try simp only [List.map_toArray, List.map_cons, List.map_nil]); first | done | rfl) ?_; refine (SpanSort.sort36 (ok := fun _ => True) (by (with_reducible repeat (first | apply Kd.R_alloc | apply Kd.R_drewN | apply Kd.R_drew)); exact HOm.out) hnew0 hgood hshort).mono ?_; rintro e wso ⟨rfl, zs, hzp, hzs, hzr, hzb⟩; refine ⟨_, rfl, ?_⟩; have n0_ := Aside0.mk hzr; have n1_ := Aside0.mk (Below.trans (by repeat (first | (with_reducible first | exact HB.out | apply below_alloc | apply pw_below_drewN | apply below_drew1) | exact HB.out)) hzb); clear HB HOm; have HO116 := n0_; have HB := n1_; clear n0_ n1_ hzr hzb; have hzl_ := hzp.length_eq; rw [← hzl_]; clear hzl_))
       have H' := Aside0.mk (hfin zs hzp hzs)
       clear hfin hgood hshort hzp hzs hnew0
       generalize zs.length + 1 = kz at H'
       go_loopg [7, 45] kz (fun kq v7 v45 w' => ∃ (x7_2 : List (S36)) (x45_2 : Int), v45 = .int .i64 x45_2 ∧ Aside0 (span_Make.l1 kq x7_2 zs (zs.length : Int) x45_2 = some (r1, r2)) ∧ Aside0 (kq ≤ kz) ∧ Aside0 (Kd.R k36 36 w' w.heap.size (fun k_ => some k_ ≠ ((.slice Acp zs.length ccp) : Value).ownBlock) v7 x7_2) ∧ Aside0 (Kd.R k36 36 w' w.heap.size (fun k_ => some k_ ≠ (v7 : Value).ownBlock) (.slice Acp zs.length ccp) zs) ∧ Aside0 (Below w.heap.size w w'))
       case atStart => exact ⟨(([] : List (S36))), (0), (by first | rfl | (simp; done) | (simp [*]; done)), H', ⟨Nat.le_refl _⟩, ⟨by first | exact Kd.R_nil _ _ _ _ _ | exact Kd.N_nil _ _ _ _ _ | exact Kd.V_nil _ _ _ _ _ | exact Kd.Q_nil _ _ _ _ _ | exact Kd.S_nil _ _ _ _ _⟩, ⟨by (with_reducible repeat (first | apply Kd.R_alloc | apply Kd.R_drewN | apply Kd.R_drew)); exact Kd.R_mono HO116.out (fun _ hk => (by simp [Value.ownBlock]))⟩, ⟨by repeat (first | (with_reducible first | exact HB.out | apply below_alloc | apply pw_below_drewN | apply below_drew1) | exact HB.out)⟩⟩
       case round =>
        clear H'
        try clear c1
        try clear p1
        try clear q1
        try clear hx1
        try clear c2
        try clear c2b0
        try clear c2b1
        try clear p2
        try clear c3
        try clear c3b0
        try clear c4
        try clear c4b0
        try clear c5
        try clear c5b0
        try clear c6
        try clear c6b0
        try clear p6
        try clear c9
        try clear c9b0
        try clear p11
        try clear q11
        try clear hx11
        try clear c12
        try clear c12b0
        try clear c16
        try clear c17
        try clear c17b0
        try clear c17b1
        try clear c18
        try clear c18b0
        try clear c18b1
        try clear hcz11_0
        try clear hcz11_1
        try clear hcz14_0
        try clear hcz14_1
        try clear hcz16_0
        try clear hcz16_1
        try clear hcz8_0
        try clear hcz8_1
        try clear hfz11_0
        try clear hfz11_1
        try clear hfz14_0
        try clear hfz14_1
        try clear hfz16_0
        try clear hfz16_1
        try clear hfz8_0
        try clear hfz8_1
        try clear hx112_0
        try clear hx112_1
        try clear p112
        try clear p2
        try clear q112
        obtain ⟨x7_2, x45_2, rfl, HA, HK2, HO_7, HO_43, HB⟩ := hrel
        cases gk with
        | zero => exact absurd HA.out (by simp [span_Make.l1])
        | succ k2 =>
         have H := HA.out
         clear HA
         simp only [span_Make.l1] at H
         by_cases c22 : x45_2 < (zs.length : Int)
         ·rw [if_pos c22] at H
          have c22b0 : decide (x45_2 < (zs.length : Int)) = true := decide_eq_true c22
          clear c22
          by_cases c23 : 0 ≤ x45_2
          ·rw [if_pos c23] at H
           have c23b0 : decide (0 ≤ x45_2) = true := decide_eq_true c23
           clear c23
           by_cases c24 : x45_2 < (zs.length : Int)
           ·rw [if_pos c24] at H
            have c24b0 : decide (x45_2 < (zs.length : Int)) = true := decide_eq_true c24
            clear c24
            replace H := Option.bind_eq_some_iff.mp H
            obtain ⟨t119, A250, H⟩ := H
            replace H : (span_Make.l1 k2 t119 zs (zs.length : Int) (wrap64 (x45_2 + 1))) = some (r1, r2) := H
            have A25 := Aside0.mk A250
            clear A250
            have H' := Aside0.mk H
            clear H
            have p117 : 0 ≤ (x45_2 : Int) := of_decide_eq_true (by first | (with_reducible assumption) | assumption)
            have q117 : x45_2 < (zs.length : Int) := of_decide_eq_true (by first | (with_reducible assumption) | assumption)
            obtain ⟨ad117, e117, hx117_0, hx117_1⟩ := at_T36 (Kd.R_reads' HO_43.out).2.2 x45_2 p117 q117
            cases e117
            replace p117 := eq_true p117
            replace q117 := eq_true q117
            go_wp2_with (first | ((with_reducible refine gate_dst (N := 9) rfl ?_); refine box_event ?hg (N := 9) ?hd (cs := #[.int .i64 0, .int .i64 0]) (t := 36) ?hr ?_; (case hd => rfl); (case hg => rfl); (case hr => first | (go_simp; done) | (go_simp; rfl)); intro gb118 hg w26 hbox hb; have n0_ := Aside0.mk (Kd.R_below (Kd.R_elderB (by (with_reducible repeat (first | apply Kd.R_alloc | apply Kd.R_drewN | apply Kd.R_drew)); exact HO_7.out) gb118 (Nat.le_of_eq hg.symm)) hb); have n1_ := Aside0.mk (Kd.R_below (Kd.R_elderB (by (with_reducible repeat (first | apply Kd.R_alloc | apply Kd.R_drewN | apply Kd.R_drew)); exact HO_43.out) gb118 (Nat.le_of_eq hg.symm)) hb); have n2_ := Aside0.mk (below_step (by repeat (first | (with_reducible first | exact HB.out | apply below_alloc | apply pw_below_drewN | apply below_drew1) | exact HB.out)) hb); have n3_ := Aside0.mk (hbox); have n4_ := Aside0.mk ((by rw [hg]; exact (below_size (by repeat (first | (with_reducible first | exact HB.out | apply below_alloc | apply pw_below_drewN | apply below_drew1) | exact HB.out))) : w.heap.size ≤ gb118)); have n5_ := Aside0.mk ((by rw [hg]; exact (below_size (by repeat (first | (with_reducible first | exact HB.out | apply below_alloc | apply pw_below_drewN | apply below_drew1) | exact HB.out))) : w.heap.size ≤ gb118)); clear HO_7; clear HO_43; clear HB; have HO_7 := n0_; have HO_43 := n1_; have HB := n2_; have BK118 := n3_; have GW118 := n4_; have GE118 := n5_; clear n0_ n1_ n2_ n3_ n4_ n5_; clear hb hbox hg; have hcz27_0 : w26.cell? ⟨gb118, 0, none⟩ = some (.int .i64 0) := (blk_cell BK118.out 0).trans rfl; have hcz27_1 : w26.cell? ⟨gb118, 1, none⟩ = some (.int .i64 0) := (blk_cell BK118.out 1).trans rfl; have hfz27_0 := blk_frozen BK118.out 0; have hfz27_1 := blk_frozen BK118.out 1) | ((with_reducible refine gate_store (t := 36) (p := 9) rfl ?_); refine store_event (t := 36) (p := 9) (v := ?vo_w28) (w1 := ((w26.setCell ⟨gb118, 0, none⟩ (.int .i64 ((rd_T36 zs x45_2).f0))).setCell ⟨gb118, 1, none⟩ (.int .i64 ((rd_T36 zs x45_2).f1)))) ?hg ?ho ?hn ?hr ?_; (case ho => rfl); (case hg => rfl); (case hn => rfl); (case hr => first | (go_simp; done) | (go_simp; rfl)); intro w28 hw; have n0_ : Aside0 (Kd.R k36 36 w28 w.heap.size (fun k_ => some k_ ≠ (.slice (some ad117) zs.length ccp : Value).ownBlock ∧ k_ ≠ gb118) u7 x7_2) := ⟨(by rw [hw]; exact (by (with_reducible repeat (first | apply Kd.R_alloc | apply Kd.R_drewN | apply Kd.R_drew)); exact Kd.R_mono (Kd.R_far (p := ⟨gb118, 1, none⟩) (Kd.R_far (p := ⟨gb118, 0, none⟩) (Kd.R_mono HO_7.out (fun k_ hk => (⟨hk, hk.2⟩ : _ ∧ k_ ≠ gb118))) (fun _ hk => hk.2) (.int .i64 ((rd_T36 zs x45_2).f0))) (fun _ hk => hk.2) (.int .i64 ((rd_T36 zs x45_2).f1))) (fun _ hk => ⟨hk.1.1, hk.1.2⟩)))⟩; have n1_ : Aside0 (Kd.R k36 36 w28 w.heap.size (fun k_ => some k_ ≠ (u7 : Value).ownBlock ∧ k_ ≠ gb118) (.slice (some ad117) zs.length ccp) zs) := ⟨(by rw [hw]; exact (by (with_reducible repeat (first | apply Kd.R_alloc | apply Kd.R_drewN | apply Kd.R_drew)); exact Kd.R_mono (Kd.R_far (p := ⟨gb118, 1, none⟩) (Kd.R_far (p := ⟨gb118, 0, none⟩) (Kd.R_mono HO_43.out (fun k_ hk => (⟨hk, hk.2⟩ : _ ∧ k_ ≠ gb118))) (fun _ hk => hk.2) (.int .i64 ((rd_T36 zs x45_2).f0))) (fun _ hk => hk.2) (.int .i64 ((rd_T36 zs x45_2).f1))) (fun _ hk => ⟨hk.1.1, hk.1.2⟩)))⟩; have n2_ : Aside0 (w28.heap[gb118]? = some (.cells #[.int .i64 ((rd_T36 zs x45_2).f0), .int .i64 ((rd_T36 zs x45_2).f1)] 36 (0, 0))) := ⟨(by rw [hw]; exact (by (with_reducible repeat (first | refine blk_drewN ?_ _ | refine blk_drew ?_ | refine blk_alloc ?_ _)); refine blk_put (cs := #[.int .i64 ((rd_T36 zs x45_2).f0), .int .i64 0]) ?_ 1 _ rfl; (with_reducible repeat (first | refine blk_drewN ?_ _ | refine blk_drew ?_ | refine blk_alloc ?_ _)); refine blk_put (cs := #[.int .i64 0, .int .i64 0]) ?_ 0 _ rfl; (with_reducible repeat (first | refine blk_drewN ?_ _ | refine blk_drew ?_ | refine blk_alloc ?_ _)); exact BK118.out))⟩; have n3_ : Aside0 (Below w.heap.size w w28) := ⟨(by rw [hw]; exact (by repeat (first | (with_reducible first | exact HB.out | apply below_alloc | apply pw_below_drewN | apply below_drew1 | refine below_set ?_ GE118.out) | exact HB.out)))⟩; clear hw; clear HO_7; clear HO_43; clear BK118; clear HB; have HO_7 := n0_; have HO_43 := n1_; have BK118 := n2_; have HB := n3_; clear n0_ n1_ n2_ n3_; have hcz29_0 : w28.cell? ⟨gb118, 0, none⟩ = some (.int .i64 ((rd_T36 zs x45_2).f0)) := (blk_cell BK118.out 0).trans rfl; have hcz29_1 : w28.cell? ⟨gb118, 1, none⟩ = some (.int .i64 ((rd_T36 zs x45_2).f1)) := (blk_cell BK118.out 1).trans rfl; have hfz29_0 := blk_frozen BK118.out 0; have hfz29_1 := blk_frozen BK118.out 1; obtain ⟨Ao30, co30, eo30⟩ := Kd.R_slice HO_7.out; subst eo30) | ((with_reducible refine gate_callee (f := 49) rfl ?_); refine goesL_ (some 54) rfl rfl Try.func49 (by kernel_rfl) rfl #[.slice Ao30 x7_2.length co30, .int .i64 ((rd_T36 zs x45_2).f0), .int .i64 ((rd_T36 zs x45_2).f1)] rfl (by (try simp only [List.map_toArray, List.map_cons, List.map_nil]); first | done | rfl | (simp only [List.length_drop, List.length_take]; rfl)) ?_; (with_reducible refine (span_add.calls (fun k_ => some k_ = (.slice Ao30 x7_2.length co30 : Value).ownBlock) (.slice Ao30 x7_2.length co30) x7_2 ((rd_T36 zs x45_2).f0) ((rd_T36 zs x45_2).f1) t119 w _ ?side1 ?side2 A25.out).mono ?_); (case side1 => repeat (first | (with_reducible first | exact HB.out | apply below_alloc | apply pw_below_drewN | apply below_drew1 | refine below_set ?_ GE118.out) | exact HB.out)); (case side2 => exact Kd.R_tight rfl HO_7.out); rintro e w31 ⟨v120, rfl, ho0, hb, hkp⟩; refine ⟨_, rfl, ?_⟩; have n0_ := Aside0.mk (Kd.R_mono (ok' := fun k_ => k_ ≠ gb118 ∧ some k_ ≠ (v120 : Value).ownBlock) (Kd.R_keptB (HO_43.out) hkp (fun k_ hk_ hs_ => (hk_.1) hs_)) (fun k_ hk_ => ⟨hk_.1.2, fun e_ => Or.elim (ho0.1 k_ e_.symm) (fun hs_ => hk_.2.1 hs_) (fun hn_ => Nat.not_le.2 hk_.2.2 hn_)⟩)); have n1_ := Aside0.mk (blk_kept (by (with_reducible repeat (first | refine blk_drewN ?_ _ | refine blk_drew ?_ | refine blk_alloc ?_ _)); exact BK118.out) hkp (fun hs_ => (fun e_ => (Kd.R_away HO_7.out (fun _ hk => hk.2)) e_) hs_)); have n2_ := Aside0.mk (Kd.R_mono (ok' := fun k_ => some k_ ≠ (.slice (some ad117) zs.length ccp : Value).ownBlock ∧ k_ ≠ gb118) ho0 (fun k_ hk_ => ⟨Or.elim hk_ (fun hs_ => fun e_ => (((HO_43.out).1 k_ e_.symm).1) hs_) (fun hn_ => (Kd.fresh' (Kd.R_lt (by (with_reducible repeat (first | apply Kd.R_alloc | apply Kd.R_drewN | apply Kd.R_drew)); exact HO_43.out)) k_ hn_)), Or.elim hk_ (fun hs_ => fun e_ => (Kd.R_away HO_7.out (fun _ hk => hk.2)) (by rw [← e_]; exact hs_)) (fun hn_ => (Kd.freshB (g := gb118) (o := .cells #[.int .i64 ((rd_T36 zs x45_2).f0), .int .i64 ((rd_T36 zs x45_2).f1)] 36 (0, 0)) (by (with_reducible repeat (first | refine blk_drewN ?_ _ | refine blk_drew ?_ | refine blk_alloc ?_ _)); exact BK118.out) k_ hn_))⟩)); have n3_ := Aside0.mk (hb); clear HO_43; clear BK118; clear HB; clear HO_7; have HO_43 := n0_; have BK118 := n1_; have HO121 := n2_; have HB := n3_; clear n0_ n1_ n2_ n3_; (try clear hb); (try clear hkp); (try clear ho0)))
            go_roundg k2
            case measure => have := HK1.out; have := HK2.out; omega
            case rel => exact ⟨(t119), (wrap64 (x45_2 + 1)), (by first | rfl | (simp; done) | (simp [*]; done)), H', ⟨by have := HK1.out; have := HK2.out; omega⟩, ⟨by (with_reducible repeat (first | apply Kd.R_alloc | apply Kd.R_drewN | apply Kd.R_drew)); exact Kd.R_mono HO121.out (fun _ hk => hk.1)⟩, ⟨by (with_reducible repeat (first | apply Kd.R_alloc | apply Kd.R_drewN | apply Kd.R_drew)); exact Kd.R_mono HO_43.out (fun _ hk => hk.2)⟩, ⟨by repeat (first | (with_reducible first | exact HB.out | apply below_alloc | apply pw_below_drewN | apply below_drew1 | refine below_set ?_ GE118.out) | exact HB.out)⟩⟩
           ·rw [if_neg c24] at H
            exact absurd H (by simp)
          ·rw [if_neg c23] at H
           exact absurd H (by simp)
         ·rw [if_neg c22] at H
          have c22b0 : decide (x45_2 < (zs.length : Int)) = false := decide_eq_false c22
          clear c22
          replace H := Option.bind_eq_some_iff.mp H
          obtain ⟨⟨t122, t125⟩, A320, H⟩ := H
          replace H : (some (t122, t125)) = some (r1, r2) := H
          have A32 := Aside0.mk A320
          clear A320
          simp only [Option.some.injEq, Prod.mk.injEq] at H
          obtain ⟨rfl, rfl⟩ := H
          obtain ⟨Ao33, co33, eo33⟩ := Kd.R_slice HO_7.out
          subst eo33
          go_wp2_with (first | ((with_reducible refine gate_callee (f := 50) rfl ?_); refine goesL_ (some 57) rfl rfl Try.func50 (by kernel_rfl) rfl #[.slice Ao33 x7_2.length co33] rfl (by (try simp only [List.map_toArray, List.map_cons, List.map_nil]); first | done | rfl | (simp only [List.length_drop, List.length_take]; rfl)) ?_; (with_reducible refine (span_bounded.calls (fun k_ => some k_ = (.slice Ao33 x7_2.length co33 : Value).ownBlock) (.slice Ao33 x7_2.length co33) x7_2 t122 t125 w _ ?side1 ?side2 A32.out).mono ?_); (case side1 => repeat (first | (with_reducible first | exact HB.out | apply below_alloc | apply pw_below_drewN | apply below_drew1) | exact HB.out)); (case side2 => exact Kd.R_tight rfl HO_7.out); rintro e w34 ⟨v123, rfl, ho0, hb, hkp⟩; refine ⟨_, rfl, ?_⟩; have n0_ := Aside0.mk (Kd.R_mono (ok' := fun k_ => some k_ ≠ (v123 : Value).ownBlock) (Kd.R_keptB (HO_43.out) hkp (fun k_ hk_ hs_ => (hk_) hs_)) (fun k_ hk_ => fun e_ => Or.elim (ho0.1 k_ e_.symm) (fun hs_ => hk_.2.1 hs_) (fun hn_ => Nat.not_le.2 hk_.2.2 hn_))); have n1_ := Aside0.mk (Kd.R_mono (ok' := fun k_ => some k_ ≠ (.slice Acp zs.length ccp : Value).ownBlock) ho0 (fun k_ hk_ => Or.elim hk_ (fun hs_ => fun e_ => (((HO_43.out).1 k_ e_.symm)) hs_) (fun hn_ => (Kd.fresh' (Kd.R_lt (by (with_reducible repeat (first | apply Kd.R_alloc | apply Kd.R_drewN | apply Kd.R_drew)); exact HO_43.out)) k_ hn_)))); have n2_ := Aside0.mk (hb); clear HO_43; clear HB; clear HO_7; have HO_43 := n0_; have HO124 := n1_; have HB := n2_; clear n0_ n1_ n2_; (try clear hb); (try clear hkp); (try clear ho0)))
          go_ret2
          exact ⟨_, by first | rfl | (simp [errW_none, errW_some] <;> rfl) | (simp [*, errW_none, errW_some] <;> rfl), by (with_reducible repeat (first | apply Kd.R_alloc | apply Kd.R_drewN | apply Kd.R_drew)); exact Kd.R_mono HO124.out (fun _ hk => trivial), by repeat (first | (with_reducible first | exact HB.out | apply below_alloc | apply pw_below_drewN | apply below_drew1) | exact HB.out)⟩
      ·rw [if_neg c18] at H
       exact absurd H (by simp)
     ·rw [if_neg c17] at H
      exact absurd H (by simp)
end Go.Proofs.Ytmidiifgdloojaa.Pr
end
section
namespace Go.Proofs.Ytmidiifgdloojaa.SpanFns
open Go.RowKit Go.Proofs.YtmidiifgdloojaaW.PrintWords Go.Proofs.YtmidiifgdloojaaW.PrintMore Go.Proofs.Ytmidiifgdloojaa.Pr Go.Proofs.Ytmidiifgdloojaa.SpanMath
def Part (r : S36) : Prop := 0 ≤ r.f0 ∧ r.f0 ≤ r.f1 ∧ r.f1 ≤ 1048576
instance (r : S36) : Decidable (Part r) := by unfold Part; infer_instance
def ofParts (l : List S36) : List S36 := adds [] (span_Make.srt l)
theorem ofParts_spec (l : List S36) : Nrm (ofParts l) ∧ ∀ q, mem (ofParts l) q ↔ mem l q := by
  obtain ⟨h1, h2⟩ := adds_spec (span_Make.srt l) [] nrm_nil (span_Make.srt_ris l).up (fun _ _ _ r hr => by simp at hr)
  exact ⟨h1, fun q => by rw [ofParts, h2, mem_nil, false_or, mem_iff (fun x => (span_Make.srt_perm l).mem_iff) q]⟩
theorem ofParts_len (l : List S36) : (ofParts l).length ≤ l.length := by
  have h := adds_len (span_Make.srt l) []
  rw [(span_Make.srt_perm l).length_eq] at h
  simpa [ofParts] using h
theorem ofParts_good {l : List S36} (hl : l.length ≤ 32768) (h : ∀ r ∈ l, Part r) : Good (ofParts l) := by
  refine ⟨Nat.le_trans (ofParts_len l) hl, (ofParts_spec l).1, ?_⟩
  refine adds_in _ [] (fun r hr => by simp at hr) (fun p hp hlt => ?_)
  have := h p ((span_Make.srt_perm l).mem_iff.1 hp)
  exact ⟨this.1, this.2.2⟩
def makeA (l : List S36) : List S36 × Int := if l.length > 32768 then ([], 21) else if ∀ r ∈ l, Part r then (ofParts l, 0) else ([], 20)
theorem makeA_good {l : List S36} (hl : l.length ≤ 32768) (h : ∀ r ∈ l, Part r) : makeA l = (ofParts l, 0) := by
  unfold makeA
  rw [if_neg (by omega), if_pos h]
theorem few_ofParts {l : List S36} (hl : l.length ≤ 32768) : few (ofParts l) = (ofParts l, 0) := by
  have := ofParts_len l
  unfold few
  rw [if_neg (by omega)]
theorem Make_l0 (l : List S36) (hl : l.length ≤ 32768) : ∀ (suf pre : List S36) (k : Nat), pre ++ suf = l → (∀ r ∈ pre, Part r) → suf.length + 1 ≤ k →
    span_Make.l0 k l l (l.length : Int) (pre.length : Int) = some (if ∀ r ∈ l, Part r then (ofParts l, 0) else ([], 20))
  | [], pre, k, e, hp, hk => by
    obtain ⟨k, rfl⟩ : ∃ m, k = m + 1 := ⟨k - 1, by omega⟩
    simp only [List.append_nil] at e
    subst e
    simp only [span_Make.l0]
    rw [if_neg (by omega), if_pos (by omega), if_pos (by omega), if_pos hp]
    unfold span_Make.fin
    rw [if_pos ⟨hl, fun r hr => ⟨(hp r hr).1, by have := hp r hr; unfold Part at this; omega⟩⟩]
    show ((span_bounded.f (ofParts pre)).bind fun b => some (b.1, b.2)) = _
    rw [bounded_few, few_ofParts hl]
  | r :: suf, pre, k, e, hp, hk => by
    simp only [List.length_cons] at hk
    obtain ⟨k, rfl⟩ : ∃ m, k = m + 1 := ⟨k - 1, by omega⟩
    have hl1 : l.length = pre.length + 1 + suf.length := by rw [← e]; simp; omega
    have hr : r ∈ l := by rw [← e]; simp
    have hrd : rd_T36 l (pre.length : Int) = r := by rw [← e]; exact rd_at pre r suf
    simp only [span_Make.l0]
    rw [if_pos (by omega), if_pos (by omega), if_pos (by omega), hrd]
    by_cases c : Part r
    · obtain ⟨c1, c2, c3⟩ := c
      rw [if_neg (by omega), if_neg (by omega), if_neg (by omega), e_succ pre r (by omega)]
      exact Make_l0 l hl suf (pre ++ [r]) k (by rw [List.append_assoc]; exact e) (fun s hs => by
        rcases List.mem_append.1 hs with hs | hs
        · exact hp s hs
        · have : s = r := by simpa using hs
          rw [this]; exact ⟨c1, c2, c3⟩) (by omega)
    · rw [if_neg (show ¬ ∀ r ∈ l, Part r from fun h => c (h r hr))]
      by_cases c1 : r.f0 < 0
      · rw [if_pos c1]
      · rw [if_neg c1]
        by_cases c2 : r.f1 > 1048576
        · rw [if_pos c2]
        · rw [if_neg c2, if_pos (by unfold Part at c; omega)]
theorem Make_f (l : List S36) : span_Make.f l = some (makeA l) := by
  unfold span_Make.f makeA
  by_cases c : l.length > 32768
  · rw [if_pos (by omega), if_pos c]
  · rw [if_neg (by omega), if_neg c]
    exact Make_l0 l (by omega) l [] _ rfl (by simp) (Nat.le_refl _)
end Go.Proofs.Ytmidiifgdloojaa.SpanFns
end
section
namespace Go.Proofs.Ytmidiifgdloojaa.SpanFns
open Go.RowKit Go.Proofs.YtmidiifgdloojaaW.PrintWords Go.Proofs.YtmidiifgdloojaaW.PrintMore Go.Proofs.Ytmidiifgdloojaa.Pr Go.Proofs.Ytmidiifgdloojaa.SpanMath
theorem rise_len : ∀ (n : Nat) (l m : List Int), m.length ≤ n → l.Pairwise (· < ·) → (∀ x ∈ l, x ∈ m) → l.length ≤ m.length
  | _, [], m, _, _, _ => Nat.zero_le _
  | 0, x :: l, m, hm, _, h => by
    have := h x List.mem_cons_self
    have e0 : m = [] := List.eq_nil_of_length_eq_zero (by omega)
    rw [e0] at this
    simp at this
  | n + 1, x :: l, m, hm, hl, h => by
    have hx := h x List.mem_cons_self
    have hpos : 0 < m.length := List.length_pos_of_mem hx
    have hl' := List.pairwise_cons.1 hl
    have e := List.length_erase_of_mem hx
    have := rise_len n l (m.erase x) (by omega) hl'.2 (fun y hy => (List.mem_erase_of_ne (by have := hl'.1 y hy; omega)).2 (h y (List.mem_cons_of_mem _ hy)))
    simp only [List.length_cons]
    omega
theorem nrm_los : ∀ {l : List S36}, Nrm l → (los l).Pairwise (· < ·)
  | [], _ => List.Pairwise.nil
  | r :: l, h => by
    obtain ⟨h1, h2, h3⟩ := nrm_cons.1 h
    refine List.pairwise_cons.2 ⟨fun x hx => ?_, nrm_los h3⟩
    obtain ⟨s, hs, rfl⟩ := List.mem_map.1 hx
    have := h2 s hs
    show r.f0 < s.f0
    omega
theorem mem_start {l : List S36} (_ : Nrm l) {q : Int} (h1 : mem l q) (h2 : ¬ mem l (q - 1)) : q ∈ los l := by
  obtain ⟨r, hr, a, b⟩ := h1
  have : r.f0 = q := by
    apply Decidable.byContradiction
    intro c
    exact h2 ⟨r, hr, by omega, by omega⟩
  rw [← this]
  exact List.mem_map.2 ⟨r, hr, rfl⟩
theorem start_mem {l : List S36} (h : Nrm l) {q : Int} (hq : q ∈ los l) : mem l q ∧ ¬ mem l (q - 1) := by
  obtain ⟨r, hr, rfl⟩ := List.mem_map.1 hq
  refine ⟨⟨r, hr, Int.le_refl _, h.2 r hr⟩, ?_⟩
  rintro ⟨s, hs, a, b⟩
  obtain ⟨i, hi, rfl⟩ := List.getElem_of_mem hr
  obtain ⟨j, hj, rfl⟩ := List.getElem_of_mem hs
  rcases Nat.lt_trichotomy i j with c | c | c
  · have := nrm_get h hj c
    have := h.2 _ hr
    omega
  · subst c
    omega
  · have := nrm_get h hi c
    omega
theorem los_len (l : List S36) : (los l).length = l.length := by simp [los]
theorem len_by_starts {l : List S36} (h : Nrm l) (m : List Int) (hm : ∀ q, mem l q → ¬ mem l (q - 1) → q ∈ m) : l.length ≤ m.length := by
  rw [← los_len l]
  exact rise_len _ _ m (Nat.le_refl _) (nrm_los h) (fun q hq => by obtain ⟨a, b⟩ := start_mem h hq; exact hm q a b)
theorem union_len {a b : List S36} (ha : Nrm a) (hb : Nrm b) : (unionS a b).length ≤ a.length + b.length := by
  obtain ⟨h1, h2⟩ := unionS_spec ha.ris hb.ris
  have := len_by_starts h1 (los a ++ los b) (fun q m1 m2 => by
    rw [h2] at m1 m2
    rcases m1 with m1 | m1
    · exact List.mem_append_left _ (mem_start ha m1 (fun e => m2 (.inl e)))
    · exact List.mem_append_right _ (mem_start hb m1 (fun e => m2 (.inr e))))
  rw [List.length_append, los_len, los_len] at this
  exact this
theorem meet_len {a b : List S36} (ha : Nrm a) (hb : Nrm b) : (meetS a b).length ≤ a.length + b.length := by
  obtain ⟨h1, h2⟩ := meetS_spec ha hb
  have := len_by_starts h1 (los a ++ los b) (fun q m1 m2 => by
    rw [h2] at m1 m2
    by_cases c : mem a (q - 1)
    · exact List.mem_append_right _ (mem_start hb m1.2 (fun e => m2 ⟨c, e⟩))
    · exact List.mem_append_left _ (mem_start ha m1.1 c))
  rw [List.length_append, los_len, los_len] at this
  exact this
theorem mem_bd {l : List S36} (h : Good l) {q : Int} (hq : mem l q) : 0 ≤ q ∧ q < 1048576 := by
  obtain ⟨r, hr, a, b⟩ := hq
  have := h.2.2 r hr
  omega
theorem good_of {l : List S36} (hl : l.length ≤ 32768) (hn : Nrm l) (h : ∀ q, mem l q → 0 ≤ q ∧ q < 1048576) : Good l := by
  refine ⟨hl, hn, fun r hr => ?_⟩
  have hlt := hn.2 r hr
  have a := h r.f0 ⟨r, hr, Int.le_refl _, hlt⟩
  have b := h (r.f1 - 1) ⟨r, hr, by omega, by omega⟩
  omega
theorem few_ok {l : List S36} (h : l.length ≤ 32768) : few l = (l, 0) := by unfold few; rw [if_neg (by omega)]
theorem bothS_ok {a b : List S36} (ha : Good a) (hb : Good b) : bothS a b = 0 := bothS_good.2 ⟨ha, hb⟩
theorem unionA_good {a b : List S36} (ha : Good a) (hb : Good b) : unionA a b = few (unionS a b) := by unfold unionA; rw [if_pos (bothS_ok ha hb)]
theorem meetA_good {a b : List S36} (ha : Good a) (hb : Good b) : meetA a b = few (meetS a b) := by unfold meetA; rw [if_pos (bothS_ok ha hb)]
theorem union_good {a b : List S36} (ha : Good a) (hb : Good b) (h : (unionS a b).length ≤ 32768) : Good (unionS a b) := by
  obtain ⟨h1, h2⟩ := unionS_spec ha.nrm.ris hb.nrm.ris
  exact good_of h h1 (fun q hq => by rcases (h2 q).1 hq with g | g; exact mem_bd ha g; exact mem_bd hb g)
theorem meet_good {a b : List S36} (ha : Good a) (hb : Good b) (h : (meetS a b).length ≤ 32768) : Good (meetS a b) := by
  obtain ⟨h1, h2⟩ := meetS_spec ha.nrm hb.nrm
  exact good_of h h1 (fun q hq => mem_bd ha ((h2 q).1 hq).1)
end Go.Proofs.Ytmidiifgdloojaa.SpanFns
end
section
namespace Go.Proofs.Ytmidiifgdloojaa.Pr
open Go.RowKit Go.Proofs.YtmidiifgdloojaaW.PrintWords Go.Proofs.YtmidiifgdloojaaW.PrintLast Go.Proofs.YtmidiifgdloojaaW.PrintMore
attribute [local go_sem] max2_int min2_int max_two min_two max_three min_three max_four min_four
set_option linter.unusedVariables false
set_option linter.unusedSimpArgs false
mutual
def redraftlaw02_right.l0 : Nat → List (S36) → List (S36) → Int → Option ((List (S36)))
 | 0, _, _, _ => none
 | k + 1, x0, x3, x4 => if x4 < (x0.length : Int) then (redraftlaw02_right.j1 k x0 x3 x4 (decide ((x3.length : Int) < 32768))) else (redraftlaw02_right.j1 k x0 x3 x4 false)
def redraftlaw02_right.j1 : Nat → List (S36) → List (S36) → Int → Bool → Option ((List (S36)))
 | 0, _, _, _, _ => none
 | k + 1, x0, x3, x4, x14 => if x14 = true then (if 0 ≤ x4 then (if x4 < (x0.length : Int) then (if ((rd_T36 x0 x4).f0) ≥ 0 then (if ((rd_T36 x0 x4).f0) ≤ ((rd_T36 x0 x4).f1) then (if ((rd_T36 x0 x4).f1) ≤ 1048576 then (if x3.length < 8796093022208 then (redraftlaw02_right.l0 k x0 (x3 ++ [(⟨(rd_T36 x0 x4).f0, (rd_T36 x0 x4).f1⟩ : S36)]) (wrap64 (x4 + 1))) else (none)) else (redraftlaw02_right.l0 k x0 x3 (wrap64 (x4 + 1)))) else (redraftlaw02_right.l0 k x0 x3 (wrap64 (x4 + 1)))) else (redraftlaw02_right.l0 k x0 x3 (wrap64 (x4 + 1)))) else (none)) else (none)) else (some x3)
end
def redraftlaw02_right.f (k : Nat) (l0 : List (S36)) : Option ((List (S36))) := redraftlaw02_right.l0 k l0 ([] : List (S36)) 0
theorem redraftlaw02_right.mono_l : ∀ k, (∀ y0 y1 y2, LeO (redraftlaw02_right.l0 k y0 y1 y2) (redraftlaw02_right.l0 (k + 1) y0 y1 y2)) ∧ (∀ y0 y1 y2 y3, LeO (redraftlaw02_right.j1 k y0 y1 y2 y3) (redraftlaw02_right.j1 (k + 1) y0 y1 y2 y3))
 | 0 => ⟨fun _ _ _ r h => by simp [redraftlaw02_right.l0] at h, fun _ _ _ _ r h => by simp [redraftlaw02_right.j1] at h⟩
 | k + 1 => by
  obtain ⟨ih0, ih1⟩ := redraftlaw02_right.mono_l k
  refine ⟨?_, ?_⟩
  ·intro y0 y1 y2
   unfold redraftlaw02_right.l0
   repeat' first
   | (with_reducible exact ih0 _ _ _)
   | (with_reducible exact ih1 _ _ _ _)
   | (with_reducible exact LeO.refl _)
   | (with_reducible exact LeO.none _)
   | (with_reducible refine LeO.ite ?_ ?_)
   | (with_reducible refine LeO.bind ?_ (fun _ => ?_))
   | exact ih0 _ _ _
   | exact ih1 _ _ _ _
   | exact LeO.none _
   | refine LeO.ite ?_ ?_
   | refine LeO.bind ?_ (fun _ => ?_)
  ·intro y0 y1 y2 y3
   unfold redraftlaw02_right.j1
   repeat' first
   | (with_reducible exact ih0 _ _ _)
   | (with_reducible exact ih1 _ _ _ _)
   | (with_reducible exact LeO.refl _)
   | (with_reducible exact LeO.none _)
   | (with_reducible refine LeO.ite ?_ ?_)
   | (with_reducible refine LeO.bind ?_ (fun _ => ?_))
   | exact ih0 _ _ _
   | exact ih1 _ _ _ _
   | exact LeO.none _
   | refine LeO.ite ?_ ?_
   | refine LeO.bind ?_ (fun _ => ?_)
theorem redraftlaw02_right.mono : ∀ a0 k, LeO (redraftlaw02_right.f k a0) (redraftlaw02_right.f (k + 1) a0) := by
 intro a0 k
 obtain ⟨ih0, ih1⟩ := redraftlaw02_right.mono_l k
 unfold redraftlaw02_right.f
 repeat' first
   | (with_reducible exact ih0 _ _ _)
   | (with_reducible exact ih1 _ _ _ _)
   | (with_reducible exact LeO.refl _)
   | (with_reducible exact LeO.none _)
   | (with_reducible refine LeO.ite ?_ ?_)
   | (with_reducible refine LeO.bind ?_ (fun _ => ?_))
   | exact ih0 _ _ _
   | exact ih1 _ _ _ _
   | exact LeO.none _
   | refine LeO.ite ?_ ?_
   | refine LeO.bind ?_ (fun _ => ?_)
set_option maxHeartbeats 8000000 in
set_option maxRecDepth 100000 in
theorem redraftlaw02_right.calls (k : Nat) (A0 : Option Addr) (c0 : Nat) (l0 : List (S36)) (r : List (S36)) (w : World) (hr0 : Kd.C k36 w A0 l0.length l0) (hc0 : l0.length ≤ c0) (h : redraftlaw02_right.f k l0 = some r) :
  Calls Try.prog 18 #[.slice A0 l0.length c0] w fun e w' => ∃ v0_ : Value, e = .returned (v0_) ∧ Kd.R k36 36 w' w.heap.size (fun _ => True) v0_ r ∧ Below w.heap.size w w' := by
 have hu36 := Try.underlying36
 have HR0 := Aside0.mk hr0
 have HC0 := Aside0.mk hc0
 clear hr0 hc0
 have HB := Aside0.mk (Below.refl w.heap.size w)
 have H : (redraftlaw02_right.l0 k l0 ([] : List (S36)) 0) = some r := h
 clear h
 have H' := Aside0.mk H
 clear H
 go_enter Try.func18, Try.ntmps18
 go_wp2
 go_loopg [3, 4] k (fun kq v3 v4 w' => ∃ (x3_1 : List (S36)) (x4_1 : Int), v4 = .int .i64 x4_1 ∧ Aside0 (redraftlaw02_right.l0 kq l0 x3_1 x4_1 = some r) ∧ Aside0 (kq ≤ k) ∧ Aside0 (Kd.R k36 36 w' w.heap.size (fun _ => True) v3 x3_1) ∧ Aside0 (Below w.heap.size w w'))
 case atStart => exact ⟨(([] : List (S36))), (0), (by first | rfl | (simp; done) | (simp [*]; done)), H', ⟨Nat.le_refl _⟩, ⟨by first | exact Kd.R_nil _ _ _ _ _ | exact Kd.N_nil _ _ _ _ _ | exact Kd.V_nil _ _ _ _ _ | exact Kd.Q_nil _ _ _ _ _ | exact Kd.S_nil _ _ _ _ _⟩, ⟨by repeat (first | (with_reducible first | exact HB.out | apply below_alloc | apply pw_below_drewN | apply below_drew1) | exact HB.out)⟩⟩
 case round =>
  clear H'
  try clear c1
  obtain ⟨x3_1, x4_1, rfl, HA, HK1, HO_3, HB⟩ := hrel
  cases gk with
  | zero => exact absurd HA.out (by simp [redraftlaw02_right.l0])
  | succ k1 =>
   have H := HA.out
   clear HA
   simp only [redraftlaw02_right.l0] at H
   have HC2 := Aside0.mk H
   clear H
   go_upto_region 3 with (fail)
   go_cut [14] (fun v14 wc => ∃ (kq : Nat) (x14_1 : Bool), v14 = .bool x14_1 ∧ Aside0 (redraftlaw02_right.j1 kq l0 x3_1 x4_1 x14_1 = some r) ∧ Aside0 (kq ≤ k1) ∧ Aside0 (Kd.R k36 36 wc w.heap.size (fun _ => True) u3 x3_1) ∧ Aside0 (Below w.heap.size w wc))
   case first =>
    have H := HC2.out
    clear HC2
    by_cases c3 : x4_1 < (l0.length : Int)
    ·rw [if_pos c3] at H
     have c3b0 : decide (x4_1 < (l0.length : Int)) = true := decide_eq_true c3
     clear c3
     (first | rw [c3b0] | (simp only [i64_w, i32_w]; rw [c3b0]) | skip)
     have H' := Aside0.mk H
     clear H
     obtain ⟨Ao4, co4, eo4⟩ := Kd.R_slice HO_3.out
     subst eo4
     go_wp2
     go_meet
     case rel => exact ⟨_, (decide ((x3_1.length : Int) < 32768)), (by first | rfl | (simp; done) | (simp [*]; done)), H', ⟨by have := HK1.out; first | omega | exact Nat.le_refl _⟩, ⟨by (with_reducible repeat (first | apply Kd.R_alloc | apply Kd.R_drewN | apply Kd.R_drew)); exact HO_3.out⟩, ⟨by repeat (first | (with_reducible first | exact HB.out | apply below_alloc | apply pw_below_drewN | apply below_drew1) | exact HB.out)⟩⟩
    ·rw [if_neg c3] at H
     have c3b0 : decide (x4_1 < (l0.length : Int)) = false := decide_eq_false c3
     clear c3
     (first | rw [c3b0] | (simp only [i64_w, i32_w]; rw [c3b0]) | skip)
     have H' := Aside0.mk H
     clear H
     go_wp2
     go_meet
     case rel => exact ⟨_, (false), (by first | rfl | (simp; done) | (simp [*]; done)), H', ⟨by have := HK1.out; first | omega | exact Nat.le_refl _⟩, ⟨by (with_reducible repeat (first | apply Kd.R_alloc | apply Kd.R_drewN | apply Kd.R_drew)); exact HO_3.out⟩, ⟨by repeat (first | (with_reducible first | exact HB.out | apply below_alloc | apply pw_below_drewN | apply below_drew1) | exact HB.out)⟩⟩
   case rest =>
    clear HC2
    try clear c1
    try clear p2
    try clear c3
    try clear c3b0
    obtain ⟨kq, x14_1, rfl, HA, HJ1, HO_3, HB⟩ := hcut
    cases kq with
    | zero => exact absurd HA.out (by simp [redraftlaw02_right.j1])
    | succ kj1 =>
     have H := HA.out
     clear HA
     simp only [redraftlaw02_right.j1] at H
     by_cases c5 : x14_1 = true
     ·subst c5
      have H1 : (if 0 ≤ x4_1 then (if x4_1 < (l0.length : Int) then (if ((rd_T36 l0 x4_1).f0) ≥ 0 then (if ((rd_T36 l0 x4_1).f0) ≤ ((rd_T36 l0 x4_1).f1) then (if ((rd_T36 l0 x4_1).f1) ≤ 1048576 then (if x3_1.length < 8796093022208 then (redraftlaw02_right.l0 kj1 l0 (x3_1 ++ [(⟨(rd_T36 l0 x4_1).f0, (rd_T36 l0 x4_1).f1⟩ : S36)]) (wrap64 (x4_1 + 1))) else (none)) else (redraftlaw02_right.l0 kj1 l0 x3_1 (wrap64 (x4_1 + 1)))) else (redraftlaw02_right.l0 kj1 l0 x3_1 (wrap64 (x4_1 + 1)))) else (redraftlaw02_right.l0 kj1 l0 x3_1 (wrap64 (x4_1 + 1)))) else (none)) else (none)) = some r := by rw [if_pos rfl] at H; exact H
      clear H
      have H := H1
      clear H1
      by_cases c6 : 0 ≤ x4_1
      ·rw [if_pos c6] at H
       have c6b0 : decide (0 ≤ x4_1) = true := decide_eq_true c6
       clear c6
       by_cases c7 : x4_1 < (l0.length : Int)
       ·rw [if_pos c7] at H
        have c7b0 : decide (x4_1 < (l0.length : Int)) = true := decide_eq_true c7
        clear c7
        by_cases c8 : ((rd_T36 l0 x4_1).f0) ≥ 0
        ·rw [if_pos c8] at H
         have c8b0 : decide (0 ≤ ((rd_T36 l0 x4_1).f0)) = true := decide_eq_true c8
         clear c8
         by_cases c9 : ((rd_T36 l0 x4_1).f0) ≤ ((rd_T36 l0 x4_1).f1)
         ·rw [if_pos c9] at H
          have c9b0 : decide (((rd_T36 l0 x4_1).f0) ≤ ((rd_T36 l0 x4_1).f1)) = true := decide_eq_true c9
          clear c9
          by_cases c10 : ((rd_T36 l0 x4_1).f1) ≤ 1048576
          ·rw [if_pos c10] at H
           have c10b0 : decide (((rd_T36 l0 x4_1).f1) ≤ 1048576) = true := decide_eq_true c10
           clear c10
           by_cases c11 : x3_1.length < 8796093022208
           ·rw [if_pos c11] at H
            have LMc11 := Aside0.mk c11
            clear c11
            obtain ⟨y117, hy117⟩ : ∃ y_ : List (S36), y_ = (x3_1 ++ [(⟨(rd_T36 l0 x4_1).f0, (rd_T36 l0 x4_1).f1⟩ : S36)]) := ⟨_, rfl⟩
            replace H : (redraftlaw02_right.l0 kj1 l0 y117 (wrap64 (x4_1 + 1))) = some r := by first | (rw [hy117]; with_reducible exact H) | (have H2_ := (Option.bind_some _ _).symm.trans H; rw [hy117]; with_reducible exact H2_) | (have H2_ := (Option.bind_some _ _).symm.trans H; with_reducible exact H2_) | with_reducible exact H | (rw [hy117]; exact H) | exact H
            have Ny117 := Aside0.mk hy117
            clear hy117
            have H' := Aside0.mk H
            clear H
            have p115 : 0 ≤ (x4_1 : Int) := of_decide_eq_true (by first | (with_reducible assumption) | assumption)
            have q115 : x4_1 < (l0.length : Int) := of_decide_eq_true (by first | (with_reducible assumption) | assumption)
            obtain ⟨ad115, e115, hx115_0, hx115_1⟩ := at_T36 HR0.out x4_1 p115 q115
            cases e115
            replace hx115_0 := (HB.out.cell (World.block_lt_of_cell? w _ hx115_0)).trans hx115_0
            replace hx115_1 := (HB.out.cell (World.block_lt_of_cell? w _ hx115_1)).trans hx115_1
            replace p115 := eq_true p115
            replace q115 := eq_true q115
            go_wp2_with (first | ((with_reducible refine gate_dst (N := 5) rfl ?_); (try (refine gate_guard (by rfl) ?_; dsimp only)); refine box_event ?hg (N := 5) ?hd (cs := #[.int .i64 0, .int .i64 0]) (t := 36) ?hr ?_; (case hd => rfl); (case hg => rfl); (case hr => first | (go_simp; done) | (go_simp; rfl)); intro gb116 hg w12 hbox hb; have n0_ := Aside0.mk (Kd.R_below (Kd.R_elderB (by (with_reducible repeat (first | apply Kd.R_alloc | apply Kd.R_drewN | apply Kd.R_drew)); exact HO_3.out) gb116 (Nat.le_of_eq hg.symm)) hb); have n1_ := Aside0.mk (below_step (by repeat (first | (with_reducible first | exact HB.out | apply below_alloc | apply pw_below_drewN | apply below_drew1) | exact HB.out)) hb); have n2_ := Aside0.mk (hbox); have n3_ := Aside0.mk ((by rw [hg]; exact (below_size (by repeat (first | (with_reducible first | exact HB.out | apply below_alloc | apply pw_below_drewN | apply below_drew1) | exact HB.out))) : w.heap.size ≤ gb116)); have n4_ := Aside0.mk ((by rw [hg]; exact (below_size (by repeat (first | (with_reducible first | exact HB.out | apply below_alloc | apply pw_below_drewN | apply below_drew1) | exact HB.out))) : w.heap.size ≤ gb116)); clear HO_3; clear HB; have HO_3 := n0_; have HB := n1_; have BK116 := n2_; have GW116 := n3_; have GE116 := n4_; clear n0_ n1_ n2_ n3_ n4_; clear hb hbox hg; have hcz13_0 : w12.cell? ⟨gb116, 0, none⟩ = some (.int .i64 0) := (blk_cell BK116.out 0).trans rfl; have hcz13_1 : w12.cell? ⟨gb116, 1, none⟩ = some (.int .i64 0) := (blk_cell BK116.out 1).trans rfl; have hfz13_0 := blk_frozen BK116.out 0; have hfz13_1 := blk_frozen BK116.out 1) | ((with_reducible refine gate_builtin (b := .append) (xs := #[.tmp 36, .tmp 38]) rfl ?_); (try (refine gate_guard (by rfl) ?_; dsimp only)); at_builtin; refine Kd.R_append k36 (w0 := w) w.heap.size rfl (.tmp 36) (.tmp 38) 22 36 (.agg #[(.int .i64 0), (.int .i64 0)]) 16 rfl Try.underlying22 info36 rfl (by decide) (by omega) u3 x3_1 (⟨(rd_T36 l0 x4_1).f0, (rd_T36 l0 x4_1).f1⟩ : S36) [.int .i64 ((rd_T36 l0 x4_1).f0), .int .i64 ((rd_T36 l0 x4_1).f1)] (fun k_ => k_ ≠ gb116) (fun _ => False) rfl (by first | (go_simp; done) | (go_simp; rfl)) ?aP (fun _ hk => hk.elim) ?aF ?aO ?aB ?aS ?aL ?_; (case aP => exact k36_mkM _ _ _ (⟨(rd_T36 l0 x4_1).f0, (rd_T36 l0 x4_1).f1⟩ : S36)); (case aB => exact (by repeat (first | (with_reducible first | exact HB.out | apply below_alloc | apply pw_below_drewN | apply below_drew1 | refine below_set ?_ GE116.out) | exact HB.out))); (case aF => exact (fun k_ hk => Kd.freshB (g := gb116) (o := .cells #[.int .i64 ((rd_T36 l0 x4_1).f0), .int .i64 ((rd_T36 l0 x4_1).f1)] 36 (0, 0)) (by (with_reducible repeat (first | refine blk_drewN ?_ _ | refine blk_drew ?_ | refine blk_alloc ?_ _)); refine blk_put (cs := #[.int .i64 ((rd_T36 l0 x4_1).f0), .int .i64 0]) ?_ 1 _ rfl; (with_reducible repeat (first | refine blk_drewN ?_ _ | refine blk_drew ?_ | refine blk_alloc ?_ _)); refine blk_put (cs := #[.int .i64 0, .int .i64 0]) ?_ 0 _ rfl; (with_reducible repeat (first | refine blk_drewN ?_ _ | refine blk_drew ?_ | refine blk_alloc ?_ _)); exact BK116.out) k_ hk)); (case aO => exact (by (with_reducible repeat (first | apply Kd.R_alloc | apply Kd.R_drewN | apply Kd.R_drew)); exact Kd.R_mono (Kd.R_far (p := ⟨gb116, 1, none⟩) (Kd.R_far (p := ⟨gb116, 0, none⟩) (Kd.R_mono HO_3.out (fun k_ hk => (⟨hk, hk.2⟩ : _ ∧ k_ ≠ gb116))) (fun _ hk => hk.2) (.int .i64 ((rd_T36 l0 x4_1).f0))) (fun _ hk => hk.2) (.int .i64 ((rd_T36 l0 x4_1).f1))) (fun _ hk => hk.1.2))); (case aS => exact (below_size (by repeat (first | (with_reducible first | exact HB.out | apply below_alloc | apply pw_below_drewN | apply below_drew1 | refine below_set ?_ GE116.out) | exact HB.out)))); (case aL => have := LMc11.out; omega); intro v118 w14 ho hb hg hat; rw [← Ny117.out] at ho; have n0_ := Aside0.mk (blk_grown (g := gb116) (o := .cells #[.int .i64 ((rd_T36 l0 x4_1).f0), .int .i64 ((rd_T36 l0 x4_1).f1)] 36 (0, 0)) (by (with_reducible repeat (first | refine blk_drewN ?_ _ | refine blk_drew ?_ | refine blk_alloc ?_ _)); refine blk_put (cs := #[.int .i64 ((rd_T36 l0 x4_1).f0), .int .i64 0]) ?_ 1 _ rfl; (with_reducible repeat (first | refine blk_drewN ?_ _ | refine blk_drew ?_ | refine blk_alloc ?_ _)); refine blk_put (cs := #[.int .i64 0, .int .i64 0]) ?_ 0 _ rfl; (with_reducible repeat (first | refine blk_drewN ?_ _ | refine blk_drew ?_ | refine blk_alloc ?_ _)); exact BK116.out) hg (Kd.R_away HO_3.out (fun _ hk => hk.2))); have n1_ := Aside0.mk (hb); have n2_ := Aside0.mk (ho); clear BK116; clear HB; clear HO_3; have BK116 := n0_; have HB := n1_; have HO119 := n2_; clear n0_ n1_ n2_; clear ho hb hg hat))
            go_roundg kj1
            case measure => have := HK1.out; have := HJ1.out; omega
            case rel => exact ⟨(y117), (wrap64 (x4_1 + 1)), (by first | rfl | (simp; done) | (simp [*]; done)), H', ⟨by have := HK1.out; have := HJ1.out; omega⟩, ⟨by (with_reducible repeat (first | apply Kd.R_alloc | apply Kd.R_drewN | apply Kd.R_drew)); exact Kd.R_mono HO119.out (fun _ hk => trivial)⟩, ⟨by repeat (first | (with_reducible first | exact HB.out | apply below_alloc | apply pw_below_drewN | apply below_drew1 | refine below_set ?_ GE116.out) | exact HB.out)⟩⟩
           ·rw [if_neg c11] at H
            exact absurd H (by simp)
          ·rw [if_neg c10] at H
           have c10b0 : decide (((rd_T36 l0 x4_1).f1) ≤ 1048576) = false := decide_eq_false c10
           clear c10
           have H' := Aside0.mk H
           clear H
           have p115 : 0 ≤ (x4_1 : Int) := of_decide_eq_true (by first | (with_reducible assumption) | assumption)
           have q115 : x4_1 < (l0.length : Int) := of_decide_eq_true (by first | (with_reducible assumption) | assumption)
           obtain ⟨ad115, e115, hx115_0, hx115_1⟩ := at_T36 HR0.out x4_1 p115 q115
           cases e115
           replace hx115_0 := (HB.out.cell (World.block_lt_of_cell? w _ hx115_0)).trans hx115_0
           replace hx115_1 := (HB.out.cell (World.block_lt_of_cell? w _ hx115_1)).trans hx115_1
           replace p115 := eq_true p115
           replace q115 := eq_true q115
           go_wp2_with (first | ((with_reducible refine gate_dst (N := 5) rfl ?_); (try (refine gate_guard (by rfl) ?_; dsimp only)); refine box_event ?hg (N := 5) ?hd (cs := #[.int .i64 0, .int .i64 0]) (t := 36) ?hr ?_; (case hd => rfl); (case hg => rfl); (case hr => first | (go_simp; done) | (go_simp; rfl)); intro gb116 hg w15 hbox hb; have n0_ := Aside0.mk (Kd.R_below (Kd.R_elderB (by (with_reducible repeat (first | apply Kd.R_alloc | apply Kd.R_drewN | apply Kd.R_drew)); exact HO_3.out) gb116 (Nat.le_of_eq hg.symm)) hb); have n1_ := Aside0.mk (below_step (by repeat (first | (with_reducible first | exact HB.out | apply below_alloc | apply pw_below_drewN | apply below_drew1) | exact HB.out)) hb); have n2_ := Aside0.mk (hbox); have n3_ := Aside0.mk ((by rw [hg]; exact (below_size (by repeat (first | (with_reducible first | exact HB.out | apply below_alloc | apply pw_below_drewN | apply below_drew1) | exact HB.out))) : w.heap.size ≤ gb116)); have n4_ := Aside0.mk ((by rw [hg]; exact (below_size (by repeat (first | (with_reducible first | exact HB.out | apply below_alloc | apply pw_below_drewN | apply below_drew1) | exact HB.out))) : w.heap.size ≤ gb116)); clear HO_3; clear HB; have HO_3 := n0_; have HB := n1_; have BK116 := n2_; have GW116 := n3_; have GE116 := n4_; clear n0_ n1_ n2_ n3_ n4_; clear hb hbox hg; have hcz16_0 : w15.cell? ⟨gb116, 0, none⟩ = some (.int .i64 0) := (blk_cell BK116.out 0).trans rfl; have hcz16_1 : w15.cell? ⟨gb116, 1, none⟩ = some (.int .i64 0) := (blk_cell BK116.out 1).trans rfl; have hfz16_0 := blk_frozen BK116.out 0; have hfz16_1 := blk_frozen BK116.out 1))
           go_roundg kj1
           case measure => have := HK1.out; have := HJ1.out; omega
           case rel => exact ⟨(x3_1), (wrap64 (x4_1 + 1)), (by first | rfl | (simp; done) | (simp [*]; done)), H', ⟨by have := HK1.out; have := HJ1.out; omega⟩, ⟨by (with_reducible repeat (first | apply Kd.R_alloc | apply Kd.R_drewN | apply Kd.R_drew)); exact Kd.R_mono (Kd.R_far (p := ⟨gb116, 1, none⟩) (Kd.R_far (p := ⟨gb116, 0, none⟩) (Kd.R_mono HO_3.out (fun k_ hk => (⟨hk, hk.2⟩ : _ ∧ k_ ≠ gb116))) (fun _ hk => hk.2) (.int .i64 ((rd_T36 l0 x4_1).f0))) (fun _ hk => hk.2) (.int .i64 ((rd_T36 l0 x4_1).f1))) (fun _ hk => trivial)⟩, ⟨by repeat (first | (with_reducible first | exact HB.out | apply below_alloc | apply pw_below_drewN | apply below_drew1 | refine below_set ?_ GE116.out) | exact HB.out)⟩⟩
         ·rw [if_neg c9] at H
          have c9b0 : decide (((rd_T36 l0 x4_1).f0) ≤ ((rd_T36 l0 x4_1).f1)) = false := decide_eq_false c9
          clear c9
          have H' := Aside0.mk H
          clear H
          have p115 : 0 ≤ (x4_1 : Int) := of_decide_eq_true (by first | (with_reducible assumption) | assumption)
          have q115 : x4_1 < (l0.length : Int) := of_decide_eq_true (by first | (with_reducible assumption) | assumption)
          obtain ⟨ad115, e115, hx115_0, hx115_1⟩ := at_T36 HR0.out x4_1 p115 q115
          cases e115
          replace hx115_0 := (HB.out.cell (World.block_lt_of_cell? w _ hx115_0)).trans hx115_0
          replace hx115_1 := (HB.out.cell (World.block_lt_of_cell? w _ hx115_1)).trans hx115_1
          replace p115 := eq_true p115
          replace q115 := eq_true q115
          go_wp2_with (first | ((with_reducible refine gate_dst (N := 5) rfl ?_); (try (refine gate_guard (by rfl) ?_; dsimp only)); refine box_event ?hg (N := 5) ?hd (cs := #[.int .i64 0, .int .i64 0]) (t := 36) ?hr ?_; (case hd => rfl); (case hg => rfl); (case hr => first | (go_simp; done) | (go_simp; rfl)); intro gb116 hg w17 hbox hb; have n0_ := Aside0.mk (Kd.R_below (Kd.R_elderB (by (with_reducible repeat (first | apply Kd.R_alloc | apply Kd.R_drewN | apply Kd.R_drew)); exact HO_3.out) gb116 (Nat.le_of_eq hg.symm)) hb); have n1_ := Aside0.mk (below_step (by repeat (first | (with_reducible first | exact HB.out | apply below_alloc | apply pw_below_drewN | apply below_drew1) | exact HB.out)) hb); have n2_ := Aside0.mk (hbox); have n3_ := Aside0.mk ((by rw [hg]; exact (below_size (by repeat (first | (with_reducible first | exact HB.out | apply below_alloc | apply pw_below_drewN | apply below_drew1) | exact HB.out))) : w.heap.size ≤ gb116)); have n4_ := Aside0.mk ((by rw [hg]; exact (below_size (by repeat (first | (with_reducible first | exact HB.out | apply below_alloc | apply pw_below_drewN | apply below_drew1) | exact HB.out))) : w.heap.size ≤ gb116)); clear HO_3; clear HB; have HO_3 := n0_; have HB := n1_; have BK116 := n2_; have GW116 := n3_; have GE116 := n4_; clear n0_ n1_ n2_ n3_ n4_; clear hb hbox hg; have hcz18_0 : w17.cell? ⟨gb116, 0, none⟩ = some (.int .i64 0) := (blk_cell BK116.out 0).trans rfl; have hcz18_1 : w17.cell? ⟨gb116, 1, none⟩ = some (.int .i64 0) := (blk_cell BK116.out 1).trans rfl; have hfz18_0 := blk_frozen BK116.out 0; have hfz18_1 := blk_frozen BK116.out 1))
          go_roundg kj1
          case measure => have := HK1.out; have := HJ1.out; omega
          case rel => exact ⟨(x3_1), (wrap64 (x4_1 + 1)), (by first | rfl | (simp; done) | (simp [*]; done)), H', ⟨by have := HK1.out; have := HJ1.out; omega⟩, ⟨by (with_reducible repeat (first | apply Kd.R_alloc | apply Kd.R_drewN | apply Kd.R_drew)); exact Kd.R_mono (Kd.R_far (p := ⟨gb116, 1, none⟩) (Kd.R_far (p := ⟨gb116, 0, none⟩) (Kd.R_mono HO_3.out (fun k_ hk => (⟨hk, hk.2⟩ : _ ∧ k_ ≠ gb116))) (fun _ hk => hk.2) (.int .i64 ((rd_T36 l0 x4_1).f0))) (fun _ hk => hk.2) (.int .i64 ((rd_T36 l0 x4_1).f1))) (fun _ hk => trivial)⟩, ⟨by repeat (first | (with_reducible first | exact HB.out | apply below_alloc | apply pw_below_drewN | apply below_drew1 | refine below_set ?_ GE116.out) | exact HB.out)⟩⟩
        ·rw [if_neg c8] at H
         have c8b0 : decide (0 ≤ ((rd_T36 l0 x4_1).f0)) = false := decide_eq_false c8
         clear c8
         have H' := Aside0.mk H
         clear H
         have p115 : 0 ≤ (x4_1 : Int) := of_decide_eq_true (by first | (with_reducible assumption) | assumption)
         have q115 : x4_1 < (l0.length : Int) := of_decide_eq_true (by first | (with_reducible assumption) | assumption)
         obtain ⟨ad115, e115, hx115_0, hx115_1⟩ := at_T36 HR0.out x4_1 p115 q115
         cases e115
         replace hx115_0 := (HB.out.cell (World.block_lt_of_cell? w _ hx115_0)).trans hx115_0
         replace hx115_1 := (HB.out.cell (World.block_lt_of_cell? w _ hx115_1)).trans hx115_1
         replace p115 := eq_true p115
         replace q115 := eq_true q115
         go_wp2_with (first | ((with_reducible refine gate_dst (N := 5) rfl ?_); (try (refine gate_guard (by rfl) ?_; dsimp only)); refine box_event ?hg (N := 5) ?hd (cs := #[.int .i64 0, .int .i64 0]) (t := 36) ?hr ?_; (case hd => rfl); (case hg => rfl); (case hr => first | (go_simp; done) | (go_simp; rfl)); intro gb116 hg w19 hbox hb; have n0_ := Aside0.mk (Kd.R_below (Kd.R_elderB (by (with_reducible repeat (first | apply Kd.R_alloc | apply Kd.R_drewN | apply Kd.R_drew)); exact HO_3.out) gb116 (Nat.le_of_eq hg.symm)) hb); have n1_ := Aside0.mk (below_step (by repeat (first | (with_reducible first | exact HB.out | apply below_alloc | apply pw_below_drewN | apply below_drew1) | exact HB.out)) hb); have n2_ := Aside0.mk (hbox); have n3_ := Aside0.mk ((by rw [hg]; exact (below_size (by repeat (first | (with_reducible first | exact HB.out | apply below_alloc | apply pw_below_drewN | apply below_drew1) | exact HB.out))) : w.heap.size ≤ gb116)); have n4_ := Aside0.mk ((by rw [hg]; exact (below_size (by repeat (first | (with_reducible first | exact HB.out | apply below_alloc | apply pw_below_drewN | apply below_drew1) | exact HB.out))) : w.heap.size ≤ gb116)); clear HO_3; clear HB; have HO_3 := n0_; have HB := n1_; have BK116 := n2_; have GW116 := n3_; have GE116 := n4_; clear n0_ n1_ n2_ n3_ n4_; clear hb hbox hg; have hcz20_0 : w19.cell? ⟨gb116, 0, none⟩ = some (.int .i64 0) := (blk_cell BK116.out 0).trans rfl; have hcz20_1 : w19.cell? ⟨gb116, 1, none⟩ = some (.int .i64 0) := (blk_cell BK116.out 1).trans rfl; have hfz20_0 := blk_frozen BK116.out 0; have hfz20_1 := blk_frozen BK116.out 1))
         go_roundg kj1
         case measure => have := HK1.out; have := HJ1.out; omega
         case rel => exact ⟨(x3_1), (wrap64 (x4_1 + 1)), (by first | rfl | (simp; done) | (simp [*]; done)), H', ⟨by have := HK1.out; have := HJ1.out; omega⟩, ⟨by (with_reducible repeat (first | apply Kd.R_alloc | apply Kd.R_drewN | apply Kd.R_drew)); exact Kd.R_mono (Kd.R_far (p := ⟨gb116, 1, none⟩) (Kd.R_far (p := ⟨gb116, 0, none⟩) (Kd.R_mono HO_3.out (fun k_ hk => (⟨hk, hk.2⟩ : _ ∧ k_ ≠ gb116))) (fun _ hk => hk.2) (.int .i64 ((rd_T36 l0 x4_1).f0))) (fun _ hk => hk.2) (.int .i64 ((rd_T36 l0 x4_1).f1))) (fun _ hk => trivial)⟩, ⟨by repeat (first | (with_reducible first | exact HB.out | apply below_alloc | apply pw_below_drewN | apply below_drew1 | refine below_set ?_ GE116.out) | exact HB.out)⟩⟩
       ·rw [if_neg c7] at H
        exact absurd H (by simp)
      ·rw [if_neg c6] at H
       exact absurd H (by simp)
     ·replace c5 := Bool.eq_false_iff.mpr c5
      subst c5
      have H1 : (some x3_1) = some r := by rw [if_neg (show ¬ (false = true) by decide)] at H; exact H
      clear H
      have H := H1
      clear H1
      obtain rfl := Option.some.inj H
      go_wp2
      go_ret
      exact ⟨_, by first | rfl | (simp [errW_none, errW_some] <;> rfl) | (simp [*, errW_none, errW_some] <;> rfl), by (with_reducible repeat (first | apply Kd.R_alloc | apply Kd.R_drewN | apply Kd.R_drew)); exact HO_3.out, by repeat (first | (with_reducible first | exact HB.out | apply below_alloc | apply pw_below_drewN | apply below_drew1) | exact HB.out)⟩
end Go.Proofs.Ytmidiifgdloojaa.Pr
end
section
namespace Go.Proofs.Ytmidiifgdloojaa.Pr
open Go.RowKit Go.Proofs.YtmidiifgdloojaaW.PrintWords Go.Proofs.YtmidiifgdloojaaW.PrintLast Go.Proofs.YtmidiifgdloojaaW.PrintMore
attribute [local go_sem] max2_int min2_int max_two min_two max_three min_three max_four min_four
set_option linter.unusedVariables false
set_option linter.unusedSimpArgs false
def redraftlaw02_lies.l0 : Nat → List (S36) → Int → Int → Option (Bool)
 | 0, _, _, _ => none
 | k + 1, x0, x1, x5 => if x5 < (x0.length : Int) then (if 0 ≤ x5 then (if ((rd_T36 x0 x5).f0) ≤ x1 then (if x1 < ((rd_T36 x0 x5).f1) then (some true) else (redraftlaw02_lies.l0 k x0 x1 (wrap64 (x5 + 1)))) else (redraftlaw02_lies.l0 k x0 x1 (wrap64 (x5 + 1)))) else (none)) else (some false)
def redraftlaw02_lies.f (k : Nat) (l0 : List (S36)) (a1 : Int) : Option (Bool) := redraftlaw02_lies.l0 k l0 a1 0
theorem redraftlaw02_lies.mono_l : ∀ k, (∀ y0 y1 y2, LeO (redraftlaw02_lies.l0 k y0 y1 y2) (redraftlaw02_lies.l0 (k + 1) y0 y1 y2))
 | 0 => fun _ _ _ r h => by simp [redraftlaw02_lies.l0] at h
 | k + 1 => by
  have ih0 := redraftlaw02_lies.mono_l k
  ·intro y0 y1 y2
   unfold redraftlaw02_lies.l0
   repeat' first
   | (with_reducible exact ih0 _ _ _)
   | (with_reducible exact LeO.refl _)
   | (with_reducible exact LeO.none _)
   | (with_reducible refine LeO.ite ?_ ?_)
   | (with_reducible refine LeO.bind ?_ (fun _ => ?_))
   | exact ih0 _ _ _
   | exact LeO.none _
   | refine LeO.ite ?_ ?_
   | refine LeO.bind ?_ (fun _ => ?_)
theorem redraftlaw02_lies.mono : ∀ a0 a1 k, LeO (redraftlaw02_lies.f k a0 a1) (redraftlaw02_lies.f (k + 1) a0 a1) := by
 intro a0 a1 k
 have ih0 := redraftlaw02_lies.mono_l k
 unfold redraftlaw02_lies.f
 repeat' first
   | (with_reducible exact ih0 _ _ _)
   | (with_reducible exact LeO.refl _)
   | (with_reducible exact LeO.none _)
   | (with_reducible refine LeO.ite ?_ ?_)
   | (with_reducible refine LeO.bind ?_ (fun _ => ?_))
   | exact ih0 _ _ _
   | exact LeO.none _
   | refine LeO.ite ?_ ?_
   | refine LeO.bind ?_ (fun _ => ?_)
set_option maxHeartbeats 8000000 in
set_option maxRecDepth 100000 in
theorem redraftlaw02_lies.calls (k : Nat) (A0 : Option Addr) (c0 : Nat) (l0 : List (S36)) (a1 : Int) (r : Bool) (w : World) (hr0 : Kd.C k36 w A0 l0.length l0) (hc0 : l0.length ≤ c0) (h : redraftlaw02_lies.f k l0 a1 = some r) :
  Calls Try.prog 36 #[.slice A0 l0.length c0, .int .i64 a1] w fun e w' => e = .returned (.bool r) ∧ Drawn0 w w' := by
 have HR0 := Aside0.mk hr0
 have HC0 := Aside0.mk hc0
 clear hr0 hc0
 have H : (redraftlaw02_lies.l0 k l0 a1 0) = some r := h
 clear h
 have H' := Aside0.mk H
 clear H
 go_enter Try.func36, Try.ntmps36
 go_wp2
 go_loopg [5] k (fun kq v5 w' => ∃ (x5_1 : Int), v5 = .int .i64 x5_1 ∧ Aside0 (redraftlaw02_lies.l0 kq l0 a1 x5_1 = some r) ∧ Aside0 (kq ≤ k) ∧ Drawn0 w w')
 case atStart => exact ⟨(0), (by first | rfl | (simp; done) | (simp [*]; done)), H', ⟨Nat.le_refl _⟩, by repeat (first | exact Drawn0.refl _ | apply Drawn0.step)⟩
 case round =>
  clear H'
  try clear p2
  obtain ⟨x5_1, rfl, HA, HK1, ⟨m1, rfl⟩⟩ := hrel
  cases gk with
  | zero => exact absurd HA.out (by simp [redraftlaw02_lies.l0])
  | succ k1 =>
   have H := HA.out
   clear HA
   simp only [redraftlaw02_lies.l0] at H
   by_cases c3 : x5_1 < (l0.length : Int)
   ·rw [if_pos c3] at H
    have c3b0 : decide (x5_1 < (l0.length : Int)) = true := decide_eq_true c3
    clear c3
    by_cases c4 : 0 ≤ x5_1
    ·rw [if_pos c4] at H
     have c4b0 : decide (0 ≤ x5_1) = true := decide_eq_true c4
     clear c4
     by_cases c5 : ((rd_T36 l0 x5_1).f0) ≤ a1
     ·rw [if_pos c5] at H
      have c5b0 : decide (((rd_T36 l0 x5_1).f0) ≤ a1) = true := decide_eq_true c5
      clear c5
      by_cases c6 : a1 < ((rd_T36 l0 x5_1).f1)
      ·rw [if_pos c6] at H
       have c6b0 : decide (a1 < ((rd_T36 l0 x5_1).f1)) = true := decide_eq_true c6
       clear c6
       obtain rfl := Option.some.inj H
       have p565 : 0 ≤ (x5_1 : Int) := of_decide_eq_true (by first | (with_reducible assumption) | assumption)
       have q565 : x5_1 < (l0.length : Int) := of_decide_eq_true (by first | (with_reducible assumption) | assumption)
       obtain ⟨ad565, e565, hx565_0, hx565_1⟩ := at_T36 HR0.out x5_1 p565 q565
       cases e565
       replace p565 := eq_true p565
       replace q565 := eq_true q565
       have p566 : 0 ≤ (x5_1 : Int) := of_decide_eq_true (by first | (with_reducible assumption) | assumption)
       have q566 : x5_1 < (l0.length : Int) := of_decide_eq_true (by first | (with_reducible assumption) | assumption)
       obtain ⟨ad566, e566, hx566_0, hx566_1⟩ := at_T36 HR0.out x5_1 p566 q566
       obtain rfl : ad565 = ad566 := (by injection e566)
       replace p566 := eq_true p566
       replace q566 := eq_true q566
       go_wp2
       go_ret
       exact ⟨by first | rfl | (simp; done) | (simp [*]; done), by repeat (first | exact Drawn0.refl _ | apply Drawn0.step)⟩
      ·rw [if_neg c6] at H
       have c6b0 : decide (a1 < ((rd_T36 l0 x5_1).f1)) = false := decide_eq_false c6
       clear c6
       have H' := Aside0.mk H
       clear H
       have p565 : 0 ≤ (x5_1 : Int) := of_decide_eq_true (by first | (with_reducible assumption) | assumption)
       have q565 : x5_1 < (l0.length : Int) := of_decide_eq_true (by first | (with_reducible assumption) | assumption)
       obtain ⟨ad565, e565, hx565_0, hx565_1⟩ := at_T36 HR0.out x5_1 p565 q565
       cases e565
       replace p565 := eq_true p565
       replace q565 := eq_true q565
       have p566 : 0 ≤ (x5_1 : Int) := of_decide_eq_true (by first | (with_reducible assumption) | assumption)
       have q566 : x5_1 < (l0.length : Int) := of_decide_eq_true (by first | (with_reducible assumption) | assumption)
       obtain ⟨ad566, e566, hx566_0, hx566_1⟩ := at_T36 HR0.out x5_1 p566 q566
       obtain rfl : ad565 = ad566 := (by injection e566)
       replace p566 := eq_true p566
       replace q566 := eq_true q566
       go_wp2
       go_roundg k1
       case measure => have := HK1.out; omega
       case rel => exact ⟨(wrap64 (x5_1 + 1)), (by first | rfl | (simp; done) | (simp [*]; done)), H', ⟨by have := HK1.out; omega⟩, by repeat (first | exact Drawn0.refl _ | apply Drawn0.step)⟩
     ·rw [if_neg c5] at H
      have c5b0 : decide (((rd_T36 l0 x5_1).f0) ≤ a1) = false := decide_eq_false c5
      clear c5
      have H' := Aside0.mk H
      clear H
      have p565 : 0 ≤ (x5_1 : Int) := of_decide_eq_true (by first | (with_reducible assumption) | assumption)
      have q565 : x5_1 < (l0.length : Int) := of_decide_eq_true (by first | (with_reducible assumption) | assumption)
      obtain ⟨ad565, e565, hx565_0, hx565_1⟩ := at_T36 HR0.out x5_1 p565 q565
      cases e565
      replace p565 := eq_true p565
      replace q565 := eq_true q565
      go_wp2
      go_roundg k1
      case measure => have := HK1.out; omega
      case rel => exact ⟨(wrap64 (x5_1 + 1)), (by first | rfl | (simp; done) | (simp [*]; done)), H', ⟨by have := HK1.out; omega⟩, by repeat (first | exact Drawn0.refl _ | apply Drawn0.step)⟩
    ·rw [if_neg c4] at H
     exact absurd H (by simp)
   ·rw [if_neg c3] at H
    have c3b0 : decide (x5_1 < (l0.length : Int)) = false := decide_eq_false c3
    clear c3
    obtain rfl := Option.some.inj H
    go_wp2
    go_ret
    exact ⟨by first | rfl | (simp; done) | (simp [*]; done), by repeat (first | exact Drawn0.refl _ | apply Drawn0.step)⟩
end Go.Proofs.Ytmidiifgdloojaa.Pr
end
section
namespace Go.Proofs.Ytmidiifgdloojaa.SpanFns
open Go.RowKit Go.Proofs.YtmidiifgdloojaaW.PrintWords Go.Proofs.YtmidiifgdloojaaW.PrintMore Go.Proofs.Ytmidiifgdloojaa.Pr Go.Proofs.Ytmidiifgdloojaa.SpanMath
theorem right_l0 : ∀ (suf pre acc : List S36), Short (pre ++ suf) → acc.length ≤ 32768 → (∀ r ∈ acc, Part r) → ∃ p : List S36, Ev (fun k => redraftlaw02_right.l0 k (pre ++ suf) acc (pre.length : Int)) p ∧ p.length ≤ 32768 ∧ ∀ r ∈ p, Part r
  | [], pre, acc, hl, ha, hp => by
    refine ⟨acc, ?_, ha, hp⟩
    refine Ev.step (f := fun k => redraftlaw02_right.j1 k (pre ++ []) acc (pre.length : Int) false) (fun k => ?_) (Ev.step (f := fun _ => some acc) (fun k => ?_) (Ev.now _))
    · simp only [redraftlaw02_right.l0]
      rw [if_neg (by simp)]
    · simp only [redraftlaw02_right.j1]
      rw [if_neg (by simp)]
  | r :: suf, pre, acc, hl, ha, hp => by
    have hl' : (pre ++ r :: suf).length < 8796093022208 := hl
    have hl1 : (pre ++ r :: suf).length = pre.length + 1 + suf.length := by simp; omega
    by_cases c : acc.length < 32768
    · have next : ∀ acc' : List S36, acc'.length ≤ 32768 → (∀ r ∈ acc', Part r) → ∃ p : List S36, Ev (fun k => redraftlaw02_right.l0 k (pre ++ r :: suf) acc' (((pre ++ [r]).length : Nat) : Int)) p ∧ p.length ≤ 32768 ∧ ∀ r ∈ p, Part r := by
        intro acc' h1 h2
        have ih := right_l0 suf (pre ++ [r]) acc' (by rw [List.append_assoc]; exact hl) h1 h2
        rw [List.append_assoc, List.singleton_append] at ih
        exact ih
      have head : ∀ {p : List S36}, Ev (fun k => redraftlaw02_right.j1 k (pre ++ r :: suf) acc (pre.length : Int) true) p → Ev (fun k => redraftlaw02_right.l0 k (pre ++ r :: suf) acc (pre.length : Int)) p := by
        intro p h
        refine Ev.step (fun k => ?_) h
        simp only [redraftlaw02_right.l0]
        rw [if_pos (by omega), decide_eq_true (by omega)]
      by_cases g : Part r
      · obtain ⟨g1, g2, g3⟩ := g
        obtain ⟨p, h1, h2⟩ := next (acc ++ [r]) (by simp; omega) (fun s hs => by
          rcases List.mem_append.1 hs with hs | hs
          · exact hp s hs
          · have : s = r := by simpa using hs
            rw [this]; exact ⟨g1, g2, g3⟩)
        refine ⟨p, head (Ev.step (fun k => ?_) h1), h2⟩
        simp only [redraftlaw02_right.j1, if_true]
        rw [if_pos (by omega), if_pos (by omega), rd_at, if_pos (by omega), if_pos g2, if_pos g3, if_pos (by omega), e_succ pre r (by omega)]
      · obtain ⟨p, h1, h2⟩ := next acc ha hp
        refine ⟨p, head (Ev.step (fun k => ?_) h1), h2⟩
        simp only [redraftlaw02_right.j1, if_true]
        rw [if_pos (by omega), if_pos (by omega), rd_at, e_succ pre r (by omega)]
        by_cases c1 : r.f0 ≥ 0
        · rw [if_pos c1]
          by_cases c2 : r.f0 ≤ r.f1
          · rw [if_pos c2, if_neg (fun c3 => g ⟨c1, c2, c3⟩)]
          · rw [if_neg c2]
        · rw [if_neg c1]
    · refine ⟨acc, ?_, ha, hp⟩
      refine Ev.step (f := fun k => redraftlaw02_right.j1 k (pre ++ r :: suf) acc (pre.length : Int) false) (fun k => ?_) (Ev.step (f := fun _ => some acc) (fun k => ?_) (Ev.now _))
      · simp only [redraftlaw02_right.l0]
        rw [if_pos (by omega), decide_eq_false (by omega)]
      · simp only [redraftlaw02_right.j1]
        rw [if_neg (by simp)]
theorem right_ev {l : List S36} (h : Short l) : ∃ p : List S36, Ev (fun k => redraftlaw02_right.f k l) p ∧ p.length ≤ 32768 ∧ ∀ r ∈ p, Part r :=
  right_l0 l [] [] h (by simp) (by simp)
theorem lies_l0 (q : Int) : ∀ (suf pre : List S36), Short (pre ++ suf) → Ev (fun k => redraftlaw02_lies.l0 k (pre ++ suf) q (pre.length : Int)) (inB suf q)
  | [], pre, hl => by
    refine Ev.step (f := fun _ => some false) (fun k => ?_) (Ev.now _)
    simp only [redraftlaw02_lies.l0]
    rw [if_neg (by simp)]
  | r :: suf, pre, hl => by
    have hl' : (pre ++ r :: suf).length < 8796093022208 := hl
    have hl1 : (pre ++ r :: suf).length = pre.length + 1 + suf.length := by simp; omega
    have ih := lies_l0 q suf (pre ++ [r]) (by rw [List.append_assoc]; exact hl)
    rw [List.append_assoc, List.singleton_append] at ih
    have e : inB (r :: suf) q = (decide (r.f0 ≤ q ∧ q < r.f1) || inB suf q) := rfl
    by_cases c : r.f0 ≤ q ∧ q < r.f1
    · rw [e, decide_eq_true c, Bool.true_or]
      refine Ev.step (f := fun _ => some true) (fun k => ?_) (Ev.now _)
      simp only [redraftlaw02_lies.l0]
      rw [if_pos (by omega), if_pos (by omega), rd_at, if_pos c.1, if_pos c.2]
    · rw [e, decide_eq_false c, Bool.false_or]
      refine Ev.step (fun k => ?_) ih
      simp only [redraftlaw02_lies.l0]
      rw [if_pos (by omega), if_pos (by omega), rd_at, e_succ pre r (by omega)]
      by_cases c1 : r.f0 ≤ q
      · rw [if_pos c1, if_neg (fun c2 => c ⟨c1, c2⟩)]
      · rw [if_neg c1]
theorem lies_ev {l : List S36} (h : Short l) (q : Int) : Ev (fun k => redraftlaw02_lies.f k l q) (inB l q) := lies_l0 q l [] h
end Go.Proofs.Ytmidiifgdloojaa.SpanFns
end
section
namespace Go.Proofs.Ytmidiifgdloojaa.SpanFns
open Go.RowKit Go.Proofs.YtmidiifgdloojaaW.PrintWords Go.Proofs.YtmidiifgdloojaaW.PrintMore Go.Proofs.Ytmidiifgdloojaa.Pr Go.Proofs.Ytmidiifgdloojaa.SpanMath
def badP (c n : Int) : Prop := (c < 0 ∨ c > 1048576) ∨ (n < 0 ∨ n > 1048576)
instance (c n : Int) : Decidable (badP c n) := by unfold badP; infer_instance
end Go.Proofs.Ytmidiifgdloojaa.SpanFns
end
section
namespace Go.Proofs.YtmidiifgdloojaaR
open Go.RowKit Go.Proofs.YtmidiifgdloojaaW.PrintWords
theorem list_of {α : Type} {p : Nat → α → Prop} : ∀ (n : Nat), (∀ i, i < n → ∃ y, p i y) → ∃ ys : List α, ys.length = n ∧ ∀ i y, ys[i]? = some y → p i y
  | 0, _ => ⟨[], rfl, fun i y h => by simp at h⟩
  | n + 1, h => by
    obtain ⟨ys, hl, hp⟩ := list_of n (fun i hi => h i (by omega))
    obtain ⟨y, hy⟩ := h n (by omega)
    refine ⟨ys ++ [y], by simp [hl], fun i z hz => ?_⟩
    by_cases hi : i < n
    · rw [List.getElem?_append_left (by omega)] at hz
      exact hp i z hz
    · have : i = n := by
        have := (List.getElem?_eq_some_iff.1 hz).1
        simp [hl] at this
        omega
      subst this
      rw [List.getElem?_append_right (by omega)] at hz
      simp [hl] at hz
      subst hz
      exact hy
theorem weightsAll_mem {H : Type} {P : Program} {e : TypeId} : ∀ {ds : List (DataW H)} {d : DataW H}, d ∈ ds → ∀ n ∈ d.weights P e, n ∈ DataW.weightsAll P e ds
  | d0 :: ds, d, hd, n, hn => by
    simp only [DataW.weightsAll, List.mem_append]
    rcases List.mem_cons.1 hd with rfl | hd
    · exact Or.inl hn
    · exact Or.inr (weightsAll_mem hd n hn)
  | [], d, hd, _, _ => by simp at hd
def Reads {α : Type} (P : Program) (t : TypeId) (d : Kd α) (Q : α → Prop) : Prop :=
  ∀ (H : Type) (enc : TypeId × Value → H) (w : World) (base : Nat) (spare : Nat → Bool) (held : Bool) (fuel : Nat) (cs : List Value) (x : DataW H × List MemPlace),
    DataW.trod enc P w base spare held fuel t cs = some x → (∀ n ∈ x.1.weights P t, n ≤ reachBytes) → ∃ y, d.K w y cs ∧ Q y
theorem reads_int {P : Program} {t : TypeId} {k : IntKind} (ht : P.underlying t = some (.int k)) : Reads P t (Kd.int k) (fun n => (Lit.int k n).wf = true) := by
  intro H enc w base spare held fuel cs x h _
  obtain ⟨n, rfl, _, hw⟩ := DataW.trod_int ht h
  exact ⟨n, rfl, hw⟩
theorem reads_slice {α : Type} {P : Program} {t e : TypeId} {d : Kd α} {Q : α → Prop} (ht : P.underlying t = some (.slice e)) (hc : P.cellsOf e = d.sz) {B : Nat} (hB : P.bytesOf e = B) (he : Reads P e d Q) :
    Reads P t (Kd.slice e d) (fun xs => xs.length * B ≤ 140737488351232 ∧ ∀ x ∈ xs, Q x) := by
  intro H enc w base spare held fuel cs x h hb
  rcases Deep.open_slice ht h with ⟨rfl, rfl⟩ | ⟨a, len, cap, m, n, D, Pl, rfl, _, hl, hm, hmm, rfl, hx⟩
  · exact ⟨[], ⟨none, 0, rfl, Nat.le_refl _, ⟨rfl, by simp, fun h0 => absurd h0 (by simp)⟩⟩, by simp, by simp⟩
  · have hlm : len ≤ m := by rw [hmm]; split <;> omega
    have hex : ∀ i, i < len → ∃ y, (∃ cs', w.cells? base (a.add (i * P.cellsOf e)) (P.cellsOf e) = some cs' ∧ d.K w y cs') ∧ Q y := by
      intro i hi
      obtain ⟨cs', h1, h2⟩ := hx i (by omega)
      obtain ⟨y, hy, hq⟩ := he H enc w base spare held n cs' _ h2 (fun k hk => hb k (by
        simp only [DataW.weights, ht, List.mem_cons, List.mem_append]
        refine Or.inr (Or.inl (weightsAll_mem (d := D i) ?_ k hk))
        exact List.mem_map.2 ⟨i, List.mem_range.2 hi, rfl⟩))
      exact ⟨y, ⟨cs', h1, hy⟩, hq⟩
    obtain ⟨ys, hlen, hp⟩ := list_of len hex
    subst hlen
    have hcap : ys.length ≤ 9223372036854775807 := by unfold maxLen at hm; omega
    refine ⟨ys, ⟨some a, cap, rfl, hl, rfl, hcap, fun _ => ⟨a, rfl, fun j p hj => ?_⟩⟩, ?_, fun x hx' => ?_⟩
    · obtain ⟨⟨cs', h1, hK⟩, _⟩ := hp j p hj
      obtain ⟨_, hl2, hcell⟩ := World.cells?_some h1
      rw [hc] at hl2
      refine ⟨cs', hl2, hK, fun i u hu => ?_⟩
      have hi : i < P.cellsOf e := by rw [hc, ← hl2]; exact (List.getElem?_eq_some_iff.1 hu).1
      rw [← add_add, ← hc]
      exact (hcell i hi).trans hu
    · have := hb _ (by simp only [DataW.weights, ht]; exact List.mem_cons_self)
      simp only [List.length_map, List.length_range] at this
      rw [hB] at this
      have e1 : reachBytes = 140737488351232 := rfl
      rw [e1] at this
      refine Nat.le_trans (Nat.mul_le_mul_right _ ?_) this
      omega
    · obtain ⟨i, hi⟩ := List.getElem?_of_mem hx'
      exact (hp i x hi).2
def ReadsL {α : Type} (P : Program) (o : Nat) (fs : List Field) (d : Kd α) (Q : α → Prop) : Prop :=
  ∀ (H : Type) (enc : TypeId × Value → H) (w : World) (base : Nat) (spare : Nat → Bool) (held : Bool) (fuel : Nat) (cs : List Value) (xs : List (DataW H × List MemPlace)),
    xs.length = fs.length → (∀ (i : Nat) (f : Field), fs[i]? = some f → DataW.trod enc P w base spare held fuel f.type ((cs.drop f.offset).take (P.cellsOf f.type)) = xs[i]?) →
    (∀ n ∈ DataW.weightsEach P (fs.map (·.type)) (xs.map (·.1)), n ≤ reachBytes) → o + d.sz ≤ cs.length → ∃ y, d.K w y ((cs.drop o).take d.sz) ∧ Q y
theorem readsL_one {α : Type} {P : Program} {o : Nat} {f : Field} {d : Kd α} {Q : α → Prop} (h : Reads P f.type d Q) (ho : f.offset = o) (hc : P.cellsOf f.type = d.sz) : ReadsL P o [f] d Q := by
  intro H enc w base spare held fuel cs xs hl hx hb _
  match xs, hl with
  | [x], _ =>
    have h0 := hx 0 f rfl
    rw [ho, hc] at h0
    exact h H enc w base spare held fuel _ x h0 (fun n hn => hb n (by simpa [DataW.weightsEach] using hn))
theorem readsL_cons {α β : Type} {P : Program} {o : Nat} {f : Field} {fs : List Field} {a : Kd α} {b : Kd β} {Qa : α → Prop} {Qb : β → Prop} (h : Reads P f.type a Qa) (ho : f.offset = o) (hc : P.cellsOf f.type = a.sz) (ht : ReadsL P (o + a.sz) fs b Qb) :
    ReadsL P o (f :: fs) (Kd.pair a b) (fun y => Qa y.1 ∧ Qb y.2) := by
  intro H enc w base spare held fuel cs xs hl hx hb hlen
  match xs, hl with
  | x :: xs, hl =>
    have h0 := hx 0 f rfl
    rw [ho, hc] at h0
    obtain ⟨y, hy, hq⟩ := h H enc w base spare held fuel _ x h0 (fun n hn => hb n (by simp only [List.map_cons, DataW.weightsEach, List.mem_append]; exact Or.inl hn))
    have hsz : (Kd.pair a b).sz = a.sz + b.sz := rfl
    obtain ⟨z, hz, hr⟩ := ht H enc w base spare held fuel cs xs (by simpa using hl) (fun i g hg => hx (i + 1) g hg) (fun n hn => hb n (by simp only [List.map_cons, DataW.weightsEach, List.mem_append]; exact Or.inr hn)) (by rw [hsz] at hlen; omega)
    refine ⟨(y, z), ⟨_, _, ?_, hy, hz⟩, hq, hr⟩
    rw [hsz, List.take_add, List.drop_drop]
theorem reads_struct {α β : Type} {P : Program} {t : TypeId} {fs : Array Field} {d : Kd α} {Q : α → Prop} {f : β → α} (g : α → β) (hg : ∀ y, f (g y) = y) (ht : P.underlying t = some (.struct fs)) (hc : P.cellsOf t = d.sz) (h : ReadsL P 0 fs.toList d Q) :
    Reads P t (Kd.iso d f) (fun x => Q (f x)) := by
  intro H enc w base spare held fuel cs x hx hb
  obtain ⟨xs, n, rfl, rfl, hl, hlen, hall⟩ := DataW.trod_struct ht hx
  obtain ⟨y, hy, hq⟩ := h H enc w base spare held n cs xs (by simpa using hlen) (fun i f hf => hall i f (by simpa using hf)) (fun k hk => hb k (by simp only [DataW.weights, ht]; exact hk)) (by omega)
  rw [List.drop_zero, List.take_of_length_le (by omega)] at hy
  refine ⟨g y, ?_, ?_⟩
  · show d.K w (f (g y)) cs
    rw [hg]; exact hy
  · show Q (f (g y))
    rw [hg]; exact hq
theorem agg_arg {α : Type} {H : Type} {enc : TypeId × Value → H} {P : Program} {W : World} {base : Nat} {spare : Nat → Bool} {held : Bool} {t : TypeId} {d : Kd α} {Q : α → Prop} {v : Value} {D : DataW H} {ps : List MemPlace}
    (h : DataW.Trod enc P W base spare held t v D ps) {ts : List TypeId} {ds : List (DataW H)} {j : Nat}
    (hsz : (DataW.weightsEach P ts ds).all (· ≤ reachBytes) = true) (ht : ts[j]? = some t) (hd : ds[j]? = some D) (hR : Reads P t d Q) :
    ∃ x : α, d.K W x v.cells.toList ∧ Q x := by
  obtain ⟨fuel, hf⟩ := h
  exact hR H enc W base spare held fuel _ _ hf (fun n hn => by
    have := List.all_eq_true.1 hsz n (DataW.weights_mem_each ht hd n hn)
    simpa using this)
end Go.Proofs.YtmidiifgdloojaaR
end
section
namespace Go.Proofs.Ytmidiifgdloojaa.SpanReads
open Go.RowKit Go.Proofs.YtmidiifgdloojaaR Go.Proofs.YtmidiifgdloojaaW.PrintWords Go.Proofs.Ytmidiifgdloojaa.Pr
theorem wf64 {n : Int} (h : (Lit.int .i64 n).wf = true) : -9223372036854775808 ≤ n ∧ n ≤ 9223372036854775807 := by
  simp [Lit.wf, IntKind.min, IntKind.max, IntKind.signed, IntKind.bits] at h
  omega
def WfR (r : S36) : Prop := (Lit.int .i64 r.f0).wf = true ∧ (Lit.int .i64 r.f1).wf = true
def WfL (l : List S36) : Prop := l.length * 16 ≤ 140737488351232 ∧ ∀ r ∈ l, WfR r
theorem reads36 : Reads Try.prog 36 k36 WfR :=
  reads_struct (fun y => ⟨y.1, y.2⟩) (fun _ => rfl) Try.underlying36 (by kernel_rfl)
    (readsL_cons (reads_int (by kernel_rfl)) rfl (by kernel_rfl) (readsL_one (reads_int (by kernel_rfl)) rfl (by kernel_rfl)))
theorem reads22 : Reads Try.prog 22 (Kd.slice 36 k36) WfL := reads_slice (by kernel_rfl) (by kernel_rfl) (by kernel_rfl) reads36
theorem reads3 : Reads Try.prog 3 (Kd.int .i64) (fun n => (Lit.int .i64 n).wf = true) := reads_int (by kernel_rfl)
end Go.Proofs.Ytmidiifgdloojaa.SpanReads
end
section
namespace Go.Proofs.Ytmidiifgdloojaa.SpanFns
open Go.RowKit Go.Proofs.YtmidiifgdloojaaW.PrintWords Go.Proofs.YtmidiifgdloojaaW.PrintMore Go.Proofs.Ytmidiifgdloojaa.Pr Go.Proofs.Ytmidiifgdloojaa.SpanMath Go.Proofs.Ytmidiifgdloojaa.SpanReads
theorem wfl_short {l : List S36} (h : WfL l) : Short l := by have := h.1; show l.length < _; omega
end Go.Proofs.Ytmidiifgdloojaa.SpanFns
end
section
namespace Go.Proofs.Ytmidiifgdloojaa.SpanReads
open Go.RowKit Go.Proofs.YtmidiifgdloojaaR Go.Proofs.YtmidiifgdloojaaW.PrintWords Go.Proofs.Ytmidiifgdloojaa.Pr
abbrev SIn : Type := List S36 × List S36 × List Int × Int × Int
abbrev kIn : Kd SIn := Kd.pair (Kd.slice 36 k36) (Kd.pair (Kd.slice 36 k36) (Kd.pair (Kd.slice 3 (Kd.int .i64)) (Kd.pair (Kd.int .i64) (Kd.int .i64))))
theorem readsInts : Reads Try.prog 23 (Kd.slice 3 (Kd.int .i64)) (fun l => l.length * 8 ≤ 140737488351232 ∧ ∀ x ∈ l, (Lit.int .i64 x).wf = true) := reads_slice (by kernel_rfl) (by kernel_rfl) (by kernel_rfl) reads3
abbrev WfIn (x : SIn) : Prop := WfL x.1 ∧ WfL x.2.1 ∧ (x.2.2.1.length * 8 ≤ 140737488351232 ∧ ∀ y ∈ x.2.2.1, (Lit.int .i64 y).wf = true) ∧ (Lit.int .i64 x.2.2.2.1).wf = true ∧ (Lit.int .i64 x.2.2.2.2).wf = true
theorem reads25 : Reads Try.prog 25 (Kd.iso kIn (fun x : SIn => x)) WfIn := by
  have h4 : ReadsL Try.prog 4 [{ name := "N", type := 3, offset := 4, embedded := false, tag := "", pkgPath := "", byteOffset := 80 }] (Kd.int .i64) _ := readsL_one reads3 rfl (by kernel_rfl)
  have h3 : ReadsL Try.prog 3 [{ name := "At", type := 3, offset := 3, embedded := false, tag := "", pkgPath := "", byteOffset := 72 }, _] (Kd.pair (Kd.int .i64) (Kd.int .i64)) _ := readsL_cons reads3 rfl (by kernel_rfl) h4
  have h2 : ReadsL Try.prog 2 [{ name := "Places", type := 23, offset := 2, embedded := false, tag := "", pkgPath := "", byteOffset := 48 }, _, _] (Kd.pair (Kd.slice 3 (Kd.int .i64)) (Kd.pair (Kd.int .i64) (Kd.int .i64))) _ := readsL_cons readsInts rfl (by kernel_rfl) h3
  have h1 : ReadsL Try.prog 1 [{ name := "Others", type := 22, offset := 1, embedded := false, tag := "", pkgPath := "", byteOffset := 24 }, _, _, _] (Kd.pair (Kd.slice 36 k36) (Kd.pair (Kd.slice 3 (Kd.int .i64)) (Kd.pair (Kd.int .i64) (Kd.int .i64)))) _ := readsL_cons reads22 rfl (by kernel_rfl) h2
  have h0 : ReadsL Try.prog 0 [{ name := "Some", type := 22, offset := 0, embedded := false, tag := "", pkgPath := "", byteOffset := 0 }, _, _, _, _] kIn _ := readsL_cons reads22 rfl (by kernel_rfl) h1
  exact reads_struct (fun y => y) (fun _ => rfl) Try.underlying25 (by kernel_rfl) h0
theorem agg_of_cells {v a b c d e : Value} (h : v.cells.toList = [a, b, c, d, e]) : v = .agg #[a, b, c, d, e] := by
  cases v <;> simp [Value.cells] at h
  rename_i arr
  cases arr
  simp_all
theorem open25 {w : World} {x : SIn} {v : Value} (h : (Kd.iso kIn (fun x : SIn => x)).K w x v.cells.toList) : ∃ A0 c0 A1 c1 A2 c2, v = .agg #[.slice A0 x.1.length c0, .slice A1 x.2.1.length c1, .slice A2 x.2.2.1.length c2, .int .i64 x.2.2.2.1, .int .i64 x.2.2.2.2] ∧
    Kd.C k36 w A0 x.1.length x.1 ∧ x.1.length ≤ c0 ∧ Kd.C k36 w A1 x.2.1.length x.2.1 ∧ x.2.1.length ≤ c1 ∧ Kd.C (Kd.int .i64) w A2 x.2.2.1.length x.2.2.1 ∧ x.2.2.1.length ≤ c2 := by
  obtain ⟨_, _, hv, ⟨A0, c0, rfl, h1, h2⟩, _, _, rfl, ⟨A1, c1, rfl, h3, h4⟩, _, _, rfl, ⟨A2, c2, rfl, h5, h6⟩, _, _, rfl, rfl, rfl⟩ := h
  exact ⟨A0, c0, A1, c1, A2, c2, agg_of_cells hv, h2, h1, h4, h3, h6, h5⟩
end Go.Proofs.Ytmidiifgdloojaa.SpanReads
end
