/- SpanGives, for every input: the law answers true and its argument reads as before; no condition. -/
import Derived.Test.YtmidiifgdloojaaClaimGives1
section
namespace Go.Proofs.Ytmidiifgdloojaa.Kg
open Go.Proofs.Ytmidiifgdloojaa.Pr
open Go.RowKit Go.Proofs.YtmidiifgdloojaaW.PrintWords Go.Proofs.YtmidiifgdloojaaW.PrintLast Go.Proofs.YtmidiifgdloojaaW.PrintMore
attribute [local go_sem] max2_int min2_int max_two min_two max_three min_three max_four min_four
set_option linter.unusedVariables false
set_option linter.unusedSimpArgs false
def redraftlaw02_SpanGives.f (k : Nat) (l0 : List (S76)) : Option (Bool) := (redraftlaw02_taken.f (([(⟨2, 4⟩ : S36), (⟨6, 7⟩ : S36)] : List (S36))) 5).bind fun bt493 => (if bt493.2 = true then (if (bt493.1.length : Int) = 3 then (if 0 < (bt493.1.length : Int) then (if (rd bt493.1 0) = 2 then (if 1 < (bt493.1.length : Int) then (if (rd bt493.1 1) = 3 then (if 2 < (bt493.1.length : Int) then (if (rd bt493.1 2) = 6 then ((redraftlaw02_upTo.f k l0 11 11).bind fun t500 => (some t500)) else (some false)) else (none)) else (some false)) else (none)) else (some false)) else (none)) else (some false)) else (some false))
theorem redraftlaw02_SpanGives.mono : ∀ a0 k, LeO (redraftlaw02_SpanGives.f k a0) (redraftlaw02_SpanGives.f (k + 1) a0) := by
 intro a0 k
 unfold redraftlaw02_SpanGives.f
 repeat' first
   | (with_reducible exact redraftlaw02_upTo.mono _ _ _ _)
   | (with_reducible exact LeO.refl _)
   | (with_reducible exact LeO.none _)
   | (with_reducible refine LeO.ite ?_ ?_)
   | (with_reducible refine LeO.bind ?_ (fun _ => ?_))
   | exact redraftlaw02_upTo.mono _ _ _ _
   | exact LeO.none _
   | refine LeO.ite ?_ ?_
   | refine LeO.bind ?_ (fun _ => ?_)
set_option maxHeartbeats 8000000 in
set_option maxRecDepth 100000 in
theorem redraftlaw02_SpanGives.calls (k : Nat) (A0 : Option Addr) (c0 : Nat) (l0 : List (S76)) (r : Bool) (w : World) (hr0 : Kd.C k76 w A0 l0.length l0) (hc0 : l0.length ≤ c0) (h : redraftlaw02_SpanGives.f k l0 = some r) :
  Calls Try.prog 13 #[.slice A0 l0.length c0] w fun e w' => e = .returned (.bool r) ∧ Below w.heap.size w w' := by
 have hu36 := Try.underlying36
 have HR0 := Aside0.mk hr0
 have HC0 := Aside0.mk hc0
 clear hr0 hc0
 have HB := Aside0.mk (Below.refl w.heap.size w)
 have H : ((redraftlaw02_taken.f (([(⟨2, 4⟩ : S36), (⟨6, 7⟩ : S36)] : List (S36))) 5).bind fun bt493 => (if bt493.2 = true then (if (bt493.1.length : Int) = 3 then (if 0 < (bt493.1.length : Int) then (if (rd bt493.1 0) = 2 then (if 1 < (bt493.1.length : Int) then (if (rd bt493.1 1) = 3 then (if 2 < (bt493.1.length : Int) then (if (rd bt493.1 2) = 6 then ((redraftlaw02_upTo.f k l0 11 11).bind fun t500 => (some t500)) else (some false)) else (none)) else (some false)) else (none)) else (some false)) else (none)) else (some false)) else (some false))) = some r := h
 clear h
 obtain ⟨y490, hy490⟩ : ∃ y_ : List (S36), y_ = (([(⟨2, 4⟩ : S36), (⟨6, 7⟩ : S36)] : List (S36))) := ⟨_, rfl⟩
 replace H : ((redraftlaw02_taken.f y490 5).bind fun bt493 => (if bt493.2 = true then (if (bt493.1.length : Int) = 3 then (if 0 < (bt493.1.length : Int) then (if (rd bt493.1 0) = 2 then (if 1 < (bt493.1.length : Int) then (if (rd bt493.1 1) = 3 then (if 2 < (bt493.1.length : Int) then (if (rd bt493.1 2) = 6 then ((redraftlaw02_upTo.f k l0 11 11).bind fun t500 => (some t500)) else (some false)) else (none)) else (some false)) else (none)) else (some false)) else (none)) else (some false)) else (some false))) = some r := by first | (rw [hy490]; with_reducible exact H) | (have H2_ := (Option.bind_some _ _).symm.trans H; rw [hy490]; with_reducible exact H2_) | (have H2_ := (Option.bind_some _ _).symm.trans H; with_reducible exact H2_) | with_reducible exact H | (rw [hy490]; exact H) | exact H
 have Ny490 := Aside0.mk hy490
 clear hy490
 replace H := Option.bind_eq_some_iff.mp H
 obtain ⟨⟨t493, t494⟩, A20, H⟩ := H
 replace H : (if t494 = true then (if (t493.length : Int) = 3 then (if 0 < (t493.length : Int) then (if (rd t493 0) = 2 then (if 1 < (t493.length : Int) then (if (rd t493 1) = 3 then (if 2 < (t493.length : Int) then (if (rd t493 2) = 6 then ((redraftlaw02_upTo.f k l0 11 11).bind fun t500 => (some t500)) else (some false)) else (none)) else (some false)) else (none)) else (some false)) else (none)) else (some false)) else (some false)) = some r := H
 have A2 := Aside0.mk A20
 clear A20
 by_cases c3 : t494 = true
 ·subst c3
  have H1 : (if (t493.length : Int) = 3 then (if 0 < (t493.length : Int) then (if (rd t493 0) = 2 then (if 1 < (t493.length : Int) then (if (rd t493 1) = 3 then (if 2 < (t493.length : Int) then (if (rd t493 2) = 6 then ((redraftlaw02_upTo.f k l0 11 11).bind fun t500 => (some t500)) else (some false)) else (none)) else (some false)) else (none)) else (some false)) else (none)) else (some false)) = some r := by rw [if_pos rfl] at H; exact H
  clear H
  have H := H1
  clear H1
  by_cases c4 : (t493.length : Int) = 3
  ·rw [if_pos c4] at H
   have c4b0 : ((t493.length : Int) == 3) = true := beq_iff_eq.mpr c4
   have c4b1 : ((t493.length : Int) != 3) = false := bne_eq_false_iff_eq.mpr c4
   clear c4
   by_cases c5 : 0 < (t493.length : Int)
   ·rw [if_pos c5] at H
    have c5b0 : decide (0 < (t493.length : Int)) = true := decide_eq_true c5
    have c5b1 : decide (0 < t493.length) = true := decide_eq_true (by omega)
    clear c5
    by_cases c6 : (rd t493 0) = 2
    ·rw [if_pos c6] at H
     have c6b0 : ((rd t493 0) == 2) = true := beq_iff_eq.mpr c6
     have c6b1 : ((rd t493 0) != 2) = false := bne_eq_false_iff_eq.mpr c6
     clear c6
     by_cases c7 : 1 < (t493.length : Int)
     ·rw [if_pos c7] at H
      have c7b0 : decide (1 < (t493.length : Int)) = true := decide_eq_true c7
      have c7b1 : decide (1 < t493.length) = true := decide_eq_true (by omega)
      clear c7
      by_cases c8 : (rd t493 1) = 3
      ·rw [if_pos c8] at H
       have c8b0 : ((rd t493 1) == 3) = true := beq_iff_eq.mpr c8
       have c8b1 : ((rd t493 1) != 3) = false := bne_eq_false_iff_eq.mpr c8
       clear c8
       by_cases c9 : 2 < (t493.length : Int)
       ·rw [if_pos c9] at H
        have c9b0 : decide (2 < (t493.length : Int)) = true := decide_eq_true c9
        have c9b1 : decide (2 < t493.length) = true := decide_eq_true (by omega)
        clear c9
        by_cases c10 : (rd t493 2) = 6
        ·rw [if_pos c10] at H
         have c10b0 : ((rd t493 2) == 6) = true := beq_iff_eq.mpr c10
         have c10b1 : ((rd t493 2) != 6) = false := bne_eq_false_iff_eq.mpr c10
         clear c10
         replace H := Option.bind_eq_some_iff.mp H
         obtain ⟨t500, A110, H⟩ := H
         replace H : (some t500) = some r := H
         have A11 := Aside0.mk A110
         clear A110
         obtain rfl := Option.some.inj H
         go_enter Try.func13, Try.ntmps13
         go_wp2_with (first | ((with_reducible refine gate_dst (N := 8) rfl ?_); (try (refine gate_guard (by rfl) ?_; dsimp only)); refine Kd.R_lit k36 _ 36 ?hg (N := 8) ?hd (xs := ([(⟨2, 4⟩ : S36), (⟨6, 7⟩ : S36)] : List (S36))) (inner := [.int .i64 2, .int .i64 4, .int .i64 6, .int .i64 7]) (ok := fun _ => True) (okp := fun _ => True) ?hr ?hp (fun _ hk => hk) trivial (Below.refl _ _) (Nat.le_refl _) (by simp) ?_; (case hd => rfl); (case hg => rfl); (case hr => first | (go_simp; done) | (go_simp; rfl)); (case hp => exact (Reps.c2 (show Kd.M k36 _ _ _ (⟨2, 4⟩ : S36) [.int .i64 2, .int .i64 4] from (k36_mkM _ _ _ (⟨2, 4⟩ : S36) )) (Reps.c2 (show Kd.M k36 _ _ _ (⟨6, 7⟩ : S36) [.int .i64 6, .int .i64 7] from (k36_mkM _ _ _ (⟨6, 7⟩ : S36) )) (Reps.none _ _)))); intro v491 w12 ho13 hb hg_ hnew_; clear hg_ hnew_; (first | rw [← Ny490.out] at ho13 | (simp only [Int.reduceToNat] at ho13; rw [← Ny490.out] at ho13)); have n0_ := Aside0.mk (Kd.R_lower ho13 (below_size (by repeat (first | (with_reducible first | exact HB.out | apply below_alloc | apply pw_below_drewN | apply below_drew1) | exact HB.out)))); have n1_ := Aside0.mk (below_step (by repeat (first | (with_reducible first | exact HB.out | apply below_alloc | apply pw_below_drewN | apply below_drew1) | exact HB.out)) hb); clear HB; have HO492 := n0_; have HB := n1_; clear n0_ n1_; clear hb ho13; obtain ⟨Ao14, co14, eo14⟩ := Kd.R_slice HO492.out; subst eo14) | ((with_reducible refine gate_callee (f := 42) rfl ?_); refine goesL_ (some 9) rfl rfl Try.func42 (by kernel_rfl) rfl #[.slice Ao14 y490.length co14, .int .i64 5] rfl (by (try simp only [List.map_toArray, List.map_cons, List.map_nil]); first | done | rfl | (simp only [List.length_drop, List.length_take]; rfl)) ?_; (with_reducible refine (redraftlaw02_taken.calls _ _ y490 5 t493 true _ ?side1 ?side2 A2.out).mono ?_); (case side1 => repeat (first | exact (Kd.R_reads' HO492.out).2.2 | (with_reducible refine Kd.C_alloc ?_ _) | (with_reducible refine Kd.C_drewN ?_ _) | (with_reducible refine Kd.C_drew ?_))); (case side2 => exact (Kd.R_reads' HO492.out).2.1); rintro e w15 ⟨v495, rfl, ho0, hb⟩; refine ⟨_, rfl, ?_⟩; have n0_ := Aside0.mk (Kd.R_below (by (with_reducible repeat (first | apply Kd.R_alloc | apply Kd.R_drewN | apply Kd.R_drew)); exact HO492.out) hb); have n1_ := Aside0.mk (Kd.R_lower ho0 (below_size (by repeat (first | (with_reducible first | exact HB.out | apply below_alloc | apply pw_below_drewN | apply below_drew1) | exact HB.out)))); have n2_ := Aside0.mk (below_step (by repeat (first | (with_reducible first | exact HB.out | apply below_alloc | apply pw_below_drewN | apply below_drew1) | exact HB.out)) hb); clear HO492; clear HB; have HO492 := n0_; have HO496 := n1_; have HB := n2_; clear n0_ n1_ n2_; (try clear hb); (try clear hb2); (try clear hk); (try clear hi); (try clear ho0); obtain ⟨Ao16, co16, eo16⟩ := Kd.R_slice HO496.out; subst eo16; have p497 : 0 ≤ (0 : Int) := (by omega); have q497 : 0 < (t493.length : Int) := of_decide_eq_true (by first | (with_reducible assumption) | assumption); obtain ⟨ad497, e497, hx497_0⟩ := Kd.at_int (Kd.R_reads' HO496.out).2.2 0 p497 q497; cases e497; have qi497 : (0 < t493.length) = True := eq_true (by omega); (try rw [show ((0 : Int)).toNat = 0 from rfl] at hx497_0); (try rw [Addr.add_zero'] at hx497_0); replace p497 := eq_true p497; replace q497 := eq_true q497; have p498 : 0 ≤ (1 : Int) := (by omega); have q498 : 1 < (t493.length : Int) := of_decide_eq_true (by first | (with_reducible assumption) | assumption); obtain ⟨ad498, e498, hx498_0⟩ := Kd.at_int (Kd.R_reads' HO496.out).2.2 1 p498 q498; obtain rfl : ad497 = ad498 := (by injection e498); (try simp only [show (1 : Int).toNat = 1 from rfl, Nat.reduceMul, Nat.reduceEqDiff, Go.Addr.add, ↓reduceIte] at hx498_0); have qi498 : (1 < t493.length) = True := eq_true (by omega); (try rw [show ((1 : Int)).toNat = 1 from rfl] at hx498_0); replace p498 := eq_true p498; replace q498 := eq_true q498; have p499 : 0 ≤ (2 : Int) := (by omega); have q499 : 2 < (t493.length : Int) := of_decide_eq_true (by first | (with_reducible assumption) | assumption); obtain ⟨ad499, e499, hx499_0⟩ := Kd.at_int (Kd.R_reads' HO496.out).2.2 2 p499 q499; obtain rfl : ad497 = ad499 := (by injection e499); (try simp only [show (2 : Int).toNat = 2 from rfl, Nat.reduceMul, Nat.reduceEqDiff, Go.Addr.add, ↓reduceIte] at hx499_0); have qi499 : (2 < t493.length) = True := eq_true (by omega); (try rw [show ((2 : Int)).toNat = 2 from rfl] at hx499_0); replace p499 := eq_true p499; replace q499 := eq_true q499) | (go_at_call 41; (with_reducible refine (redraftlaw02_upTo.calls k _ _ l0 11 11 t500 _ ?side1 ?side2 A11.out).mono ?_); (case side1 => repeat (first | exact (Kd.C_below HR0.out HB.out) | (with_reducible refine Kd.C_alloc ?_ _) | (with_reducible refine Kd.C_drewN ?_ _) | (with_reducible refine Kd.C_drew ?_))); (case side2 => exact HC0.out); rintro e w17 ⟨rfl, hb⟩; have n0_ := Aside0.mk (Kd.R_below (by (with_reducible repeat (first | apply Kd.R_alloc | apply Kd.R_drewN | apply Kd.R_drew)); exact HO492.out) hb); have n1_ := Aside0.mk (Kd.R_below (by (with_reducible repeat (first | apply Kd.R_alloc | apply Kd.R_drewN | apply Kd.R_drew)); exact HO496.out) hb); have n2_ := Aside0.mk (below_step (by repeat (first | (with_reducible first | exact HB.out | apply below_alloc | apply pw_below_drewN | apply below_drew1) | exact HB.out)) hb); clear HO492; clear HO496; clear HB; have HO492 := n0_; have HO496 := n1_; have HB := n2_; clear n0_ n1_ n2_; (try clear hb); (try clear hb2); (try clear hk); (try clear hi)))
         go_ret
         exact ⟨by first | rfl | (simp [errW_none, errW_some] <;> rfl) | (simp [*, errW_none, errW_some] <;> rfl), by repeat (first | (with_reducible first | exact HB.out | apply below_alloc | apply pw_below_drewN | apply below_drew1) | exact HB.out)⟩
        ·rw [if_neg c10] at H
         have c10b0 : ((rd t493 2) == 6) = false := beq_eq_false_iff_ne.mpr c10
         have c10b1 : ((rd t493 2) != 6) = true := bne_iff_ne.mpr c10
         obtain rfl := Option.some.inj H
         go_enter Try.func13, Try.ntmps13
         go_wp2_with (first | ((with_reducible refine gate_dst (N := 8) rfl ?_); (try (refine gate_guard (by rfl) ?_; dsimp only)); refine Kd.R_lit k36 _ 36 ?hg (N := 8) ?hd (xs := ([(⟨2, 4⟩ : S36), (⟨6, 7⟩ : S36)] : List (S36))) (inner := [.int .i64 2, .int .i64 4, .int .i64 6, .int .i64 7]) (ok := fun _ => True) (okp := fun _ => True) ?hr ?hp (fun _ hk => hk) trivial (Below.refl _ _) (Nat.le_refl _) (by simp) ?_; (case hd => rfl); (case hg => rfl); (case hr => first | (go_simp; done) | (go_simp; rfl)); (case hp => exact (Reps.c2 (show Kd.M k36 _ _ _ (⟨2, 4⟩ : S36) [.int .i64 2, .int .i64 4] from (k36_mkM _ _ _ (⟨2, 4⟩ : S36) )) (Reps.c2 (show Kd.M k36 _ _ _ (⟨6, 7⟩ : S36) [.int .i64 6, .int .i64 7] from (k36_mkM _ _ _ (⟨6, 7⟩ : S36) )) (Reps.none _ _)))); intro v491 w18 ho19 hb hg_ hnew_; clear hg_ hnew_; (first | rw [← Ny490.out] at ho19 | (simp only [Int.reduceToNat] at ho19; rw [← Ny490.out] at ho19)); have n0_ := Aside0.mk (Kd.R_lower ho19 (below_size (by repeat (first | (with_reducible first | exact HB.out | apply below_alloc | apply pw_below_drewN | apply below_drew1) | exact HB.out)))); have n1_ := Aside0.mk (below_step (by repeat (first | (with_reducible first | exact HB.out | apply below_alloc | apply pw_below_drewN | apply below_drew1) | exact HB.out)) hb); clear HB; have HO492 := n0_; have HB := n1_; clear n0_ n1_; clear hb ho19; obtain ⟨Ao20, co20, eo20⟩ := Kd.R_slice HO492.out; subst eo20) | ((with_reducible refine gate_callee (f := 42) rfl ?_); refine goesL_ (some 9) rfl rfl Try.func42 (by kernel_rfl) rfl #[.slice Ao20 y490.length co20, .int .i64 5] rfl (by (try simp only [List.map_toArray, List.map_cons, List.map_nil]); first | done | rfl | (simp only [List.length_drop, List.length_take]; rfl)) ?_; (with_reducible refine (redraftlaw02_taken.calls _ _ y490 5 t493 true _ ?side1 ?side2 A2.out).mono ?_); (case side1 => repeat (first | exact (Kd.R_reads' HO492.out).2.2 | (with_reducible refine Kd.C_alloc ?_ _) | (with_reducible refine Kd.C_drewN ?_ _) | (with_reducible refine Kd.C_drew ?_))); (case side2 => exact (Kd.R_reads' HO492.out).2.1); rintro e w21 ⟨v495, rfl, ho0, hb⟩; refine ⟨_, rfl, ?_⟩; have n0_ := Aside0.mk (Kd.R_below (by (with_reducible repeat (first | apply Kd.R_alloc | apply Kd.R_drewN | apply Kd.R_drew)); exact HO492.out) hb); have n1_ := Aside0.mk (Kd.R_lower ho0 (below_size (by repeat (first | (with_reducible first | exact HB.out | apply below_alloc | apply pw_below_drewN | apply below_drew1) | exact HB.out)))); have n2_ := Aside0.mk (below_step (by repeat (first | (with_reducible first | exact HB.out | apply below_alloc | apply pw_below_drewN | apply below_drew1) | exact HB.out)) hb); clear HO492; clear HB; have HO492 := n0_; have HO496 := n1_; have HB := n2_; clear n0_ n1_ n2_; (try clear hb); (try clear hb2); (try clear hk); (try clear hi); (try clear ho0); obtain ⟨Ao22, co22, eo22⟩ := Kd.R_slice HO496.out; subst eo22; have p497 : 0 ≤ (0 : Int) := (by omega); have q497 : 0 < (t493.length : Int) := of_decide_eq_true (by first | (with_reducible assumption) | assumption); obtain ⟨ad497, e497, hx497_0⟩ := Kd.at_int (Kd.R_reads' HO496.out).2.2 0 p497 q497; cases e497; have qi497 : (0 < t493.length) = True := eq_true (by omega); (try rw [show ((0 : Int)).toNat = 0 from rfl] at hx497_0); (try rw [Addr.add_zero'] at hx497_0); replace p497 := eq_true p497; replace q497 := eq_true q497; have p498 : 0 ≤ (1 : Int) := (by omega); have q498 : 1 < (t493.length : Int) := of_decide_eq_true (by first | (with_reducible assumption) | assumption); obtain ⟨ad498, e498, hx498_0⟩ := Kd.at_int (Kd.R_reads' HO496.out).2.2 1 p498 q498; obtain rfl : ad497 = ad498 := (by injection e498); (try simp only [show (1 : Int).toNat = 1 from rfl, Nat.reduceMul, Nat.reduceEqDiff, Go.Addr.add, ↓reduceIte] at hx498_0); have qi498 : (1 < t493.length) = True := eq_true (by omega); (try rw [show ((1 : Int)).toNat = 1 from rfl] at hx498_0); replace p498 := eq_true p498; replace q498 := eq_true q498; have p499 : 0 ≤ (2 : Int) := (by omega); have q499 : 2 < (t493.length : Int) := of_decide_eq_true (by first | (with_reducible assumption) | assumption); obtain ⟨ad499, e499, hx499_0⟩ := Kd.at_int (Kd.R_reads' HO496.out).2.2 2 p499 q499; obtain rfl : ad497 = ad499 := (by injection e499); (try simp only [show (2 : Int).toNat = 2 from rfl, Nat.reduceMul, Nat.reduceEqDiff, Go.Addr.add, ↓reduceIte] at hx499_0); have qi499 : (2 < t493.length) = True := eq_true (by omega); (try rw [show ((2 : Int)).toNat = 2 from rfl] at hx499_0); replace p499 := eq_true p499; replace q499 := eq_true q499))
         go_ret
         exact ⟨by first | rfl | (simp [errW_none, errW_some] <;> rfl) | (simp [*, errW_none, errW_some] <;> rfl), by repeat (first | (with_reducible first | exact HB.out | apply below_alloc | apply pw_below_drewN | apply below_drew1) | exact HB.out)⟩
       ·rw [if_neg c9] at H
        exact absurd H (by simp)
      ·rw [if_neg c8] at H
       have c8b0 : ((rd t493 1) == 3) = false := beq_eq_false_iff_ne.mpr c8
       have c8b1 : ((rd t493 1) != 3) = true := bne_iff_ne.mpr c8
       obtain rfl := Option.some.inj H
       go_enter Try.func13, Try.ntmps13
       go_wp2_with (first | ((with_reducible refine gate_dst (N := 8) rfl ?_); (try (refine gate_guard (by rfl) ?_; dsimp only)); refine Kd.R_lit k36 _ 36 ?hg (N := 8) ?hd (xs := ([(⟨2, 4⟩ : S36), (⟨6, 7⟩ : S36)] : List (S36))) (inner := [.int .i64 2, .int .i64 4, .int .i64 6, .int .i64 7]) (ok := fun _ => True) (okp := fun _ => True) ?hr ?hp (fun _ hk => hk) trivial (Below.refl _ _) (Nat.le_refl _) (by simp) ?_; (case hd => rfl); (case hg => rfl); (case hr => first | (go_simp; done) | (go_simp; rfl)); (case hp => exact (Reps.c2 (show Kd.M k36 _ _ _ (⟨2, 4⟩ : S36) [.int .i64 2, .int .i64 4] from (k36_mkM _ _ _ (⟨2, 4⟩ : S36) )) (Reps.c2 (show Kd.M k36 _ _ _ (⟨6, 7⟩ : S36) [.int .i64 6, .int .i64 7] from (k36_mkM _ _ _ (⟨6, 7⟩ : S36) )) (Reps.none _ _)))); intro v491 w23 ho24 hb hg_ hnew_; clear hg_ hnew_; (first | rw [← Ny490.out] at ho24 | (simp only [Int.reduceToNat] at ho24; rw [← Ny490.out] at ho24)); have n0_ := Aside0.mk (Kd.R_lower ho24 (below_size (by repeat (first | (with_reducible first | exact HB.out | apply below_alloc | apply pw_below_drewN | apply below_drew1) | exact HB.out)))); have n1_ := Aside0.mk (below_step (by repeat (first | (with_reducible first | exact HB.out | apply below_alloc | apply pw_below_drewN | apply below_drew1) | exact HB.out)) hb); clear HB; have HO492 := n0_; have HB := n1_; clear n0_ n1_; clear hb ho24; obtain ⟨Ao25, co25, eo25⟩ := Kd.R_slice HO492.out; subst eo25) | ((with_reducible refine gate_callee (f := 42) rfl ?_); refine goesL_ (some 9) rfl rfl Try.func42 (by kernel_rfl) rfl #[.slice Ao25 y490.length co25, .int .i64 5] rfl (by (try simp only [List.map_toArray, List.map_cons, List.map_nil]); first | done | rfl | (simp only [List.length_drop, List.length_take]; rfl)) ?_; (with_reducible refine (redraftlaw02_taken.calls _ _ y490 5 t493 true _ ?side1 ?side2 A2.out).mono ?_); (case side1 => repeat (first | exact (Kd.R_reads' HO492.out).2.2 | (with_reducible refine Kd.C_alloc ?_ _) | (with_reducible refine Kd.C_drewN ?_ _) | (with_reducible refine Kd.C_drew ?_))); (case side2 => exact (Kd.R_reads' HO492.out).2.1); rintro e w26 ⟨v495, rfl, ho0, hb⟩; refine ⟨_, rfl, ?_⟩; have n0_ := Aside0.mk (Kd.R_below (by (with_reducible repeat (first | apply Kd.R_alloc | apply Kd.R_drewN | apply Kd.R_drew)); exact HO492.out) hb); have n1_ := Aside0.mk (Kd.R_lower ho0 (below_size (by repeat (first | (with_reducible first | exact HB.out | apply below_alloc | apply pw_below_drewN | apply below_drew1) | exact HB.out)))); have n2_ := Aside0.mk (below_step (by repeat (first | (with_reducible first | exact HB.out | apply below_alloc | apply pw_below_drewN | apply below_drew1) | exact HB.out)) hb); clear HO492; clear HB; have HO492 := n0_; have HO496 := n1_; have HB := n2_; clear n0_ n1_ n2_; (try clear hb); (try clear hb2); (try clear hk); (try clear hi); (try clear ho0); obtain ⟨Ao27, co27, eo27⟩ := Kd.R_slice HO496.out; subst eo27; have p497 : 0 ≤ (0 : Int) := (by omega); have q497 : 0 < (t493.length : Int) := of_decide_eq_true (by first | (with_reducible assumption) | assumption); obtain ⟨ad497, e497, hx497_0⟩ := Kd.at_int (Kd.R_reads' HO496.out).2.2 0 p497 q497; cases e497; have qi497 : (0 < t493.length) = True := eq_true (by omega); (try rw [show ((0 : Int)).toNat = 0 from rfl] at hx497_0); (try rw [Addr.add_zero'] at hx497_0); replace p497 := eq_true p497; replace q497 := eq_true q497; have p498 : 0 ≤ (1 : Int) := (by omega); have q498 : 1 < (t493.length : Int) := of_decide_eq_true (by first | (with_reducible assumption) | assumption); obtain ⟨ad498, e498, hx498_0⟩ := Kd.at_int (Kd.R_reads' HO496.out).2.2 1 p498 q498; obtain rfl : ad497 = ad498 := (by injection e498); (try simp only [show (1 : Int).toNat = 1 from rfl, Nat.reduceMul, Nat.reduceEqDiff, Go.Addr.add, ↓reduceIte] at hx498_0); have qi498 : (1 < t493.length) = True := eq_true (by omega); (try rw [show ((1 : Int)).toNat = 1 from rfl] at hx498_0); replace p498 := eq_true p498; replace q498 := eq_true q498))
       go_ret
       exact ⟨by first | rfl | (simp [errW_none, errW_some] <;> rfl) | (simp [*, errW_none, errW_some] <;> rfl), by repeat (first | (with_reducible first | exact HB.out | apply below_alloc | apply pw_below_drewN | apply below_drew1) | exact HB.out)⟩
     ·rw [if_neg c7] at H
      exact absurd H (by simp)
    ·rw [if_neg c6] at H
     have c6b0 : ((rd t493 0) == 2) = false := beq_eq_false_iff_ne.mpr c6
     have c6b1 : ((rd t493 0) != 2) = true := bne_iff_ne.mpr c6
     obtain rfl := Option.some.inj H
     go_enter Try.func13, Try.ntmps13
     go_wp2_with (first | ((with_reducible refine gate_dst (N := 8) rfl ?_); (try (refine gate_guard (by rfl) ?_; dsimp only)); refine Kd.R_lit k36 _ 36 ?hg (N := 8) ?hd (xs := ([(⟨2, 4⟩ : S36), (⟨6, 7⟩ : S36)] : List (S36))) (inner := [.int .i64 2, .int .i64 4, .int .i64 6, .int .i64 7]) (ok := fun _ => True) (okp := fun _ => True) ?hr ?hp (fun _ hk => hk) trivial (Below.refl _ _) (Nat.le_refl _) (by simp) ?_; (case hd => rfl); (case hg => rfl); (case hr => first | (go_simp; done) | (go_simp; rfl)); (case hp => exact (Reps.c2 (show Kd.M k36 _ _ _ (⟨2, 4⟩ : S36) [.int .i64 2, .int .i64 4] from (k36_mkM _ _ _ (⟨2, 4⟩ : S36) )) (Reps.c2 (show Kd.M k36 _ _ _ (⟨6, 7⟩ : S36) [.int .i64 6, .int .i64 7] from (k36_mkM _ _ _ (⟨6, 7⟩ : S36) )) (Reps.none _ _)))); intro v491 w28 ho29 hb hg_ hnew_; clear hg_ hnew_; (first | rw [← Ny490.out] at ho29 | (simp only [Int.reduceToNat] at ho29; rw [← Ny490.out] at ho29)); have n0_ := Aside0.mk (Kd.R_lower ho29 (below_size (by repeat (first | (with_reducible first | exact HB.out | apply below_alloc | apply pw_below_drewN | apply below_drew1) | exact HB.out)))); have n1_ := Aside0.mk (below_step (by repeat (first | (with_reducible first | exact HB.out | apply below_alloc | apply pw_below_drewN | apply below_drew1) | exact HB.out)) hb); clear HB; have HO492 := n0_; have HB := n1_; clear n0_ n1_; clear hb ho29; obtain ⟨Ao30, co30, eo30⟩ := Kd.R_slice HO492.out; subst eo30) | ((with_reducible refine gate_callee (f := 42) rfl ?_); refine goesL_ (some 9) rfl rfl Try.func42 (by kernel_rfl) rfl #[.slice Ao30 y490.length co30, .int .i64 5] rfl (by (try simp only [List.map_toArray, List.map_cons, List.map_nil]); first | done | rfl | (simp only [List.length_drop, List.length_take]; rfl)) ?_; (with_reducible refine (redraftlaw02_taken.calls _ _ y490 5 t493 true _ ?side1 ?side2 A2.out).mono ?_); (case side1 => repeat (first | exact (Kd.R_reads' HO492.out).2.2 | (with_reducible refine Kd.C_alloc ?_ _) | (with_reducible refine Kd.C_drewN ?_ _) | (with_reducible refine Kd.C_drew ?_))); (case side2 => exact (Kd.R_reads' HO492.out).2.1); rintro e w31 ⟨v495, rfl, ho0, hb⟩; refine ⟨_, rfl, ?_⟩; have n0_ := Aside0.mk (Kd.R_below (by (with_reducible repeat (first | apply Kd.R_alloc | apply Kd.R_drewN | apply Kd.R_drew)); exact HO492.out) hb); have n1_ := Aside0.mk (Kd.R_lower ho0 (below_size (by repeat (first | (with_reducible first | exact HB.out | apply below_alloc | apply pw_below_drewN | apply below_drew1) | exact HB.out)))); have n2_ := Aside0.mk (below_step (by repeat (first | (with_reducible first | exact HB.out | apply below_alloc | apply pw_below_drewN | apply below_drew1) | exact HB.out)) hb); clear HO492; clear HB; have HO492 := n0_; have HO496 := n1_; have HB := n2_; clear n0_ n1_ n2_; (try clear hb); (try clear hb2); (try clear hk); (try clear hi); (try clear ho0); obtain ⟨Ao32, co32, eo32⟩ := Kd.R_slice HO496.out; subst eo32; have p497 : 0 ≤ (0 : Int) := (by omega); have q497 : 0 < (t493.length : Int) := of_decide_eq_true (by first | (with_reducible assumption) | assumption); obtain ⟨ad497, e497, hx497_0⟩ := Kd.at_int (Kd.R_reads' HO496.out).2.2 0 p497 q497; cases e497; have qi497 : (0 < t493.length) = True := eq_true (by omega); (try rw [show ((0 : Int)).toNat = 0 from rfl] at hx497_0); (try rw [Addr.add_zero'] at hx497_0); replace p497 := eq_true p497; replace q497 := eq_true q497))
     go_ret
     exact ⟨by first | rfl | (simp [errW_none, errW_some] <;> rfl) | (simp [*, errW_none, errW_some] <;> rfl), by repeat (first | (with_reducible first | exact HB.out | apply below_alloc | apply pw_below_drewN | apply below_drew1) | exact HB.out)⟩
   ·rw [if_neg c5] at H
    exact absurd H (by simp)
  ·rw [if_neg c4] at H
   have c4b0 : ((t493.length : Int) == 3) = false := beq_eq_false_iff_ne.mpr c4
   have c4b1 : ((t493.length : Int) != 3) = true := bne_iff_ne.mpr c4
   obtain rfl := Option.some.inj H
   go_enter Try.func13, Try.ntmps13
   go_wp2_with (first | ((with_reducible refine gate_dst (N := 8) rfl ?_); (try (refine gate_guard (by rfl) ?_; dsimp only)); refine Kd.R_lit k36 _ 36 ?hg (N := 8) ?hd (xs := ([(⟨2, 4⟩ : S36), (⟨6, 7⟩ : S36)] : List (S36))) (inner := [.int .i64 2, .int .i64 4, .int .i64 6, .int .i64 7]) (ok := fun _ => True) (okp := fun _ => True) ?hr ?hp (fun _ hk => hk) trivial (Below.refl _ _) (Nat.le_refl _) (by simp) ?_; (case hd => rfl); (case hg => rfl); (case hr => first | (go_simp; done) | (go_simp; rfl)); (case hp => exact (Reps.c2 (show Kd.M k36 _ _ _ (⟨2, 4⟩ : S36) [.int .i64 2, .int .i64 4] from (k36_mkM _ _ _ (⟨2, 4⟩ : S36) )) (Reps.c2 (show Kd.M k36 _ _ _ (⟨6, 7⟩ : S36) [.int .i64 6, .int .i64 7] from (k36_mkM _ _ _ (⟨6, 7⟩ : S36) )) (Reps.none _ _)))); intro v491 w33 ho34 hb hg_ hnew_; clear hg_ hnew_; (first | rw [← Ny490.out] at ho34 | (simp only [Int.reduceToNat] at ho34; rw [← Ny490.out] at ho34)); have n0_ := Aside0.mk (Kd.R_lower ho34 (below_size (by repeat (first | (with_reducible first | exact HB.out | apply below_alloc | apply pw_below_drewN | apply below_drew1) | exact HB.out)))); have n1_ := Aside0.mk (below_step (by repeat (first | (with_reducible first | exact HB.out | apply below_alloc | apply pw_below_drewN | apply below_drew1) | exact HB.out)) hb); clear HB; have HO492 := n0_; have HB := n1_; clear n0_ n1_; clear hb ho34; obtain ⟨Ao35, co35, eo35⟩ := Kd.R_slice HO492.out; subst eo35) | ((with_reducible refine gate_callee (f := 42) rfl ?_); refine goesL_ (some 9) rfl rfl Try.func42 (by kernel_rfl) rfl #[.slice Ao35 y490.length co35, .int .i64 5] rfl (by (try simp only [List.map_toArray, List.map_cons, List.map_nil]); first | done | rfl | (simp only [List.length_drop, List.length_take]; rfl)) ?_; (with_reducible refine (redraftlaw02_taken.calls _ _ y490 5 t493 true _ ?side1 ?side2 A2.out).mono ?_); (case side1 => repeat (first | exact (Kd.R_reads' HO492.out).2.2 | (with_reducible refine Kd.C_alloc ?_ _) | (with_reducible refine Kd.C_drewN ?_ _) | (with_reducible refine Kd.C_drew ?_))); (case side2 => exact (Kd.R_reads' HO492.out).2.1); rintro e w36 ⟨v495, rfl, ho0, hb⟩; refine ⟨_, rfl, ?_⟩; have n0_ := Aside0.mk (Kd.R_below (by (with_reducible repeat (first | apply Kd.R_alloc | apply Kd.R_drewN | apply Kd.R_drew)); exact HO492.out) hb); have n1_ := Aside0.mk (Kd.R_lower ho0 (below_size (by repeat (first | (with_reducible first | exact HB.out | apply below_alloc | apply pw_below_drewN | apply below_drew1) | exact HB.out)))); have n2_ := Aside0.mk (below_step (by repeat (first | (with_reducible first | exact HB.out | apply below_alloc | apply pw_below_drewN | apply below_drew1) | exact HB.out)) hb); clear HO492; clear HB; have HO492 := n0_; have HO496 := n1_; have HB := n2_; clear n0_ n1_ n2_; (try clear hb); (try clear hb2); (try clear hk); (try clear hi); (try clear ho0); obtain ⟨Ao37, co37, eo37⟩ := Kd.R_slice HO496.out; subst eo37))
   go_ret
   exact ⟨by first | rfl | (simp [errW_none, errW_some] <;> rfl) | (simp [*, errW_none, errW_some] <;> rfl), by repeat (first | (with_reducible first | exact HB.out | apply below_alloc | apply pw_below_drewN | apply below_drew1) | exact HB.out)⟩
 ·replace c3 := Bool.eq_false_iff.mpr c3
  subst c3
  have H1 : (some false) = some r := by rw [if_neg (show ¬ (false = true) by decide)] at H; exact H
  clear H
  have H := H1
  clear H1
  obtain rfl := Option.some.inj H
  go_enter Try.func13, Try.ntmps13
  go_wp2_with (first | ((with_reducible refine gate_dst (N := 8) rfl ?_); (try (refine gate_guard (by rfl) ?_; dsimp only)); refine Kd.R_lit k36 _ 36 ?hg (N := 8) ?hd (xs := ([(⟨2, 4⟩ : S36), (⟨6, 7⟩ : S36)] : List (S36))) (inner := [.int .i64 2, .int .i64 4, .int .i64 6, .int .i64 7]) (ok := fun _ => True) (okp := fun _ => True) ?hr ?hp (fun _ hk => hk) trivial (Below.refl _ _) (Nat.le_refl _) (by simp) ?_; (case hd => rfl); (case hg => rfl); (case hr => first | (go_simp; done) | (go_simp; rfl)); (case hp => exact (Reps.c2 (show Kd.M k36 _ _ _ (⟨2, 4⟩ : S36) [.int .i64 2, .int .i64 4] from (k36_mkM _ _ _ (⟨2, 4⟩ : S36) )) (Reps.c2 (show Kd.M k36 _ _ _ (⟨6, 7⟩ : S36) [.int .i64 6, .int .i64 7] from (k36_mkM _ _ _ (⟨6, 7⟩ : S36) )) (Reps.none _ _)))); intro v491 w38 ho39 hb hg_ hnew_; clear hg_ hnew_; (first | rw [← Ny490.out] at ho39 | (simp only [Int.reduceToNat] at ho39; rw [← Ny490.out] at ho39)); have n0_ := Aside0.mk (Kd.R_lower ho39 (below_size (by repeat (first | (with_reducible first | exact HB.out | apply below_alloc | apply pw_below_drewN | apply below_drew1) | exact HB.out)))); have n1_ := Aside0.mk (below_step (by repeat (first | (with_reducible first | exact HB.out | apply below_alloc | apply pw_below_drewN | apply below_drew1) | exact HB.out)) hb); clear HB; have HO492 := n0_; have HB := n1_; clear n0_ n1_; clear hb ho39; obtain ⟨Ao40, co40, eo40⟩ := Kd.R_slice HO492.out; subst eo40) | ((with_reducible refine gate_callee (f := 42) rfl ?_); refine goesL_ (some 9) rfl rfl Try.func42 (by kernel_rfl) rfl #[.slice Ao40 y490.length co40, .int .i64 5] rfl (by (try simp only [List.map_toArray, List.map_cons, List.map_nil]); first | done | rfl | (simp only [List.length_drop, List.length_take]; rfl)) ?_; (with_reducible refine (redraftlaw02_taken.calls _ _ y490 5 t493 false _ ?side1 ?side2 A2.out).mono ?_); (case side1 => repeat (first | exact (Kd.R_reads' HO492.out).2.2 | (with_reducible refine Kd.C_alloc ?_ _) | (with_reducible refine Kd.C_drewN ?_ _) | (with_reducible refine Kd.C_drew ?_))); (case side2 => exact (Kd.R_reads' HO492.out).2.1); rintro e w41 ⟨v495, rfl, ho0, hb⟩; refine ⟨_, rfl, ?_⟩; have n0_ := Aside0.mk (Kd.R_below (by (with_reducible repeat (first | apply Kd.R_alloc | apply Kd.R_drewN | apply Kd.R_drew)); exact HO492.out) hb); have n1_ := Aside0.mk (Kd.R_lower ho0 (below_size (by repeat (first | (with_reducible first | exact HB.out | apply below_alloc | apply pw_below_drewN | apply below_drew1) | exact HB.out)))); have n2_ := Aside0.mk (below_step (by repeat (first | (with_reducible first | exact HB.out | apply below_alloc | apply pw_below_drewN | apply below_drew1) | exact HB.out)) hb); clear HO492; clear HB; have HO492 := n0_; have HO496 := n1_; have HB := n2_; clear n0_ n1_ n2_; (try clear hb); (try clear hb2); (try clear hk); (try clear hi); (try clear ho0)))
  go_ret
  exact ⟨by first | rfl | (simp [errW_none, errW_some] <;> rfl) | (simp [*, errW_none, errW_some] <;> rfl), by repeat (first | (with_reducible first | exact HB.out | apply below_alloc | apply pw_below_drewN | apply below_drew1) | exact HB.out)⟩
end Go.Proofs.Ytmidiifgdloojaa.Kg
end
section
namespace Go.Proofs.Ytmidiifgdloojaa.SpanFnsKg
open Go.Proofs.Ytmidiifgdloojaa.Kg
open Go.RowKit Go.Proofs.YtmidiifgdloojaaW.PrintWords Go.Proofs.YtmidiifgdloojaaW.PrintMore Go.Proofs.Ytmidiifgdloojaa.Pr Go.Proofs.Ytmidiifgdloojaa.SpanMath Go.Proofs.Ytmidiifgdloojaa.SpanReads Go.Proofs.Ytmidiifgdloojaa.SpanFns
theorem upTo_l0 {lo hi : Int} : ∀ (suf pre : List S76), (pre ++ suf).length < 8796093022208 →
    (∀ o ∈ suf, lo ≤ o.f0 → o.f0 ≤ hi → Ev (fun k => Kg.redraftlaw02_plays.f k o.f0 o.f1 o.f2 o.f3 o.f4) true) → Ev (fun k => Kg.redraftlaw02_upTo.l0 k (pre ++ suf) lo hi (pre.length : Int)) true
  | [], pre, _, _ => Ev.step (f := fun _ => some true) (fun k => by simp only [Kg.redraftlaw02_upTo.l0]; rw [if_neg (by simp)]) (Ev.now _)
  | o :: suf, pre, hl, h => by
    have hl1 : (pre ++ o :: suf).length = pre.length + 1 + suf.length := by simp; omega
    have ih := upTo_l0 suf (pre ++ [o]) (by rw [List.append_assoc]; exact hl) (fun x hx => h x (List.mem_cons_of_mem _ hx))
    rw [List.append_assoc, List.singleton_append] at ih
    have e1 : wrap64 ((pre.length : Int) + 1) = ((pre ++ [o]).length : Int) := by rw [w64 (by omega) (by omega)]; simp
    have key : ∀ b : Bool, b = decide (lo ≤ o.f0 ∧ o.f0 ≤ hi) → Ev (fun k => Kg.redraftlaw02_upTo.j1 k (pre ++ o :: suf) lo hi (pre.length : Int) b o.f0 o.f1 o.f2 o.f3 o.f4) true := by
      rintro b rfl
      by_cases c : lo ≤ o.f0 ∧ o.f0 ≤ hi
      · refine Ev.step (f := fun k => (Kg.redraftlaw02_plays.f k o.f0 o.f1 o.f2 o.f3 o.f4).bind fun t => if t = true then Kg.redraftlaw02_upTo.l0 k (pre ++ o :: suf) lo hi (wrap64 ((pre.length : Int) + 1)) else some false) (fun k => by simp only [Kg.redraftlaw02_upTo.j1]; rw [if_pos (by simpa using c)]) ?_
        refine Ev.bind (h o List.mem_cons_self c.1 c.2) ?_
        simp only [if_true, e1]
        exact ih
      · refine Ev.step (f := fun k => Kg.redraftlaw02_upTo.l0 k (pre ++ o :: suf) lo hi (wrap64 ((pre.length : Int) + 1))) (fun k => by simp only [Kg.redraftlaw02_upTo.j1]; rw [if_neg (by simpa using c)]) ?_
        simp only [e1]
        exact ih
    by_cases c : lo ≤ o.f0
    · refine Ev.step (f := fun k => Kg.redraftlaw02_upTo.j1 k (pre ++ o :: suf) lo hi (pre.length : Int) (decide (o.f0 ≤ hi)) o.f0 o.f1 o.f2 o.f3 o.f4) (fun k => by simp only [Kg.redraftlaw02_upTo.l0]; rw [if_pos (by omega), if_pos (by omega), rd76_at, if_pos c]) ?_
      exact key _ (by simp [c])
    · refine Ev.step (f := fun k => Kg.redraftlaw02_upTo.j1 k (pre ++ o :: suf) lo hi (pre.length : Int) false o.f0 o.f1 o.f2 o.f3 o.f4) (fun k => by simp only [Kg.redraftlaw02_upTo.l0]; rw [if_pos (by omega), if_pos (by omega), rd76_at, if_neg c]) ?_
      exact key _ (by simp [c])
theorem upTo_ev {lo hi : Int} {ops : List S76} (hl : ops.length < 8796093022208) (h : ∀ o ∈ ops, lo ≤ o.f0 → o.f0 ≤ hi → Ev (fun k => Kg.redraftlaw02_plays.f k o.f0 o.f1 o.f2 o.f3 o.f4) true) : Ev (fun k => Kg.redraftlaw02_upTo.f k ops lo hi) true :=
  upTo_l0 ops [] hl h
theorem plays_gives {l m : List S36} (kd a b : Int) (h : WfL l) (hk : kd = 11) : Ev (fun k => Kg.redraftlaw02_plays.f k kd l m a b) true := by
  subst hk
  have hc := gives_ev (m := m) 11 a b (wfl_short h)
  have j2 : Ev (fun k => Kg.redraftlaw02_plays.j2 k 11 false 11 l m a b) true := by
    refine Ev.step (f := fun k => (redraftlaw02_gives.f k 11 l m a b).bind fun t => some t) (fun k => by simp [Kg.redraftlaw02_plays.j2]) ?_
    exact Ev.bind hc (Ev.now _)
  have j1 : Ev (fun k => Kg.redraftlaw02_plays.j1 k 11 false 11 l m a b) true :=
    Ev.step (f := fun k => Kg.redraftlaw02_plays.j2 k 11 false 11 l m a b) (fun k => by simp [Kg.redraftlaw02_plays.j1]) j2
  have j0 : Ev (fun k => Kg.redraftlaw02_plays.j0 k 11 false 11 l m a b) true :=
    Ev.step (f := fun k => Kg.redraftlaw02_plays.j1 k 11 false 11 l m a b) (fun k => by simp [Kg.redraftlaw02_plays.j0]) j1
  refine Ev.congr (f := fun k => Kg.redraftlaw02_plays.j0 k 11 false 11 l m a b) (fun k => ?_) j0
  simp [Kg.redraftlaw02_plays.f]
theorem SpanGives_pure (ops : List S76) (h : ops.length * 72 ≤ 140737488351232 ∧ ∀ o ∈ ops, WfOp o) : ∃ k, Kg.redraftlaw02_SpanGives.f k ops = some true := by
  refine Ev.rounds (g := fun k => Kg.redraftlaw02_SpanGives.f k ops) ?_
  unfold Kg.redraftlaw02_SpanGives.f
  simp only [taken_first, Option.bind_some]
  have hu : Ev (fun k => Kg.redraftlaw02_upTo.f k ops 11 11) true := upTo_ev (by have := h.1; omega) (fun o ho h1 h2 => plays_gives o.f0 o.f3 o.f4 (h.2 o ho).2.1 (by omega))
  simpa [rd] using Ev.bind hu (Ev.now true)
end Go.Proofs.Ytmidiifgdloojaa.SpanFnsKg
end
