/- SpanMoves, for every script: the law answers true and its argument reads as before; no condition. -/
import Derived.Test.YtmidiifgdloojaaClaimMoves2
section
namespace Go.Proofs.Ytmidiifgdloojaa.Pr
open Go.RowKit Go.Proofs.YtmidiifgdloojaaW.PrintWords Go.Proofs.YtmidiifgdloojaaW.PrintLast Go.Proofs.YtmidiifgdloojaaW.PrintMore
attribute [local go_sem] max2_int min2_int max_two min_two max_three min_three max_four min_four
set_option linter.unusedVariables false
set_option linter.unusedSimpArgs false
mutual
def redraftref02_Places.l0 : Nat → List (S36) → List Int → List Int → Int → Option ((List (S36)))
 | 0, _, _, _, _ => none
 | k + 1, x0, x3, x4, x5 => if x5 < (x0.length : Int) then (if 0 ≤ x5 then (if x3.length < 17592186044416 then (if x4.length < 17592186044416 then (redraftref02_Places.l0 k x0 (x3 ++ [(rd_T36 x0 x5).f0]) (x4 ++ [(rd_T36 x0 x5).f1]) (wrap64 (x5 + 1))) else (none)) else (none)) else (none)) else ((redraftref02_Sorted.f k x3).bind fun t857 => ((redraftref02_Sorted.f k x4).bind fun t860 => (if ([] : List Int).length + t857.length < 17592186044416 then ((some (([] : List Int) ++ t857 : List Int)).bind fun y863 => (if y863.length + t860.length < 17592186044416 then ((redraftref02_Sorted.f k (y863 ++ t860)).bind fun t869 => (if 0 ≤ (t869.length : Int) then (if ((t869.length : Int) : Int).toNat ≤ 281474976710656 then (redraftref02_Places.l1 k t857 t860 t869 (List.replicate ((t869.length : Int) : Int).toNat false) 0) else (none)) else (none))) else (none))) else (none))))
def redraftref02_Places.l1 : Nat → List Int → List Int → List Int → List Bool → Int → Option ((List (S36)))
 | 0, _, _, _, _, _ => none
 | k + 1, x3, x4, x6, x7, x8 => if x8 < (x6.length : Int) then (if 0 ≤ x8 then ((redraftref02_upTo.f k x3 (rd x6 x8)).bind fun t876 => ((redraftref02_upTo.f k x4 (rd x6 x8)).bind fun t878 => (if x8 < (x7.length : Int) then (redraftref02_Places.l1 k x3 x4 x6 (x7.set (x8 : Int).toNat (decide (t876 > t878))) (wrap64 (x8 + 1))) else (none)))) else (none)) else ((redraftref02_joined.f k x6 x7).bind fun t880 => (some t880))
end
def redraftref02_Places.f (k : Nat) (l0 : List (S36)) : Option ((List (S36))) := redraftref02_Places.l0 k l0 ([] : List Int) ([] : List Int) 0
theorem redraftref02_Places.mono_l : ∀ k, (∀ y0 y1 y2 y3, LeO (redraftref02_Places.l0 k y0 y1 y2 y3) (redraftref02_Places.l0 (k + 1) y0 y1 y2 y3)) ∧ (∀ y0 y1 y2 y3 y4, LeO (redraftref02_Places.l1 k y0 y1 y2 y3 y4) (redraftref02_Places.l1 (k + 1) y0 y1 y2 y3 y4))
 | 0 => ⟨fun _ _ _ _ r h => by simp [redraftref02_Places.l0] at h, fun _ _ _ _ _ r h => by simp [redraftref02_Places.l1] at h⟩
 | k + 1 => by
  obtain ⟨ih0, ih1⟩ := redraftref02_Places.mono_l k
  refine ⟨?_, ?_⟩
  ·intro y0 y1 y2 y3
   unfold redraftref02_Places.l0
   repeat' first
   | (with_reducible exact ih0 _ _ _ _)
   | (with_reducible exact ih1 _ _ _ _ _)
   | (with_reducible exact redraftref02_Sorted.mono _ _)
   | (with_reducible exact redraftref02_joined.mono _ _ _)
   | (with_reducible exact redraftref02_upTo.mono _ _ _)
   | (with_reducible exact LeO.refl _)
   | (with_reducible exact LeO.none _)
   | (with_reducible refine LeO.ite ?_ ?_)
   | (with_reducible refine LeO.bind ?_ (fun _ => ?_))
   | exact ih0 _ _ _ _
   | exact ih1 _ _ _ _ _
   | exact redraftref02_Sorted.mono _ _
   | exact redraftref02_joined.mono _ _ _
   | exact redraftref02_upTo.mono _ _ _
   | exact LeO.none _
   | refine LeO.ite ?_ ?_
   | refine LeO.bind ?_ (fun _ => ?_)
  ·intro y0 y1 y2 y3 y4
   unfold redraftref02_Places.l1
   repeat' first
   | (with_reducible exact ih0 _ _ _ _)
   | (with_reducible exact ih1 _ _ _ _ _)
   | (with_reducible exact redraftref02_Sorted.mono _ _)
   | (with_reducible exact redraftref02_joined.mono _ _ _)
   | (with_reducible exact redraftref02_upTo.mono _ _ _)
   | (with_reducible exact LeO.refl _)
   | (with_reducible exact LeO.none _)
   | (with_reducible refine LeO.ite ?_ ?_)
   | (with_reducible refine LeO.bind ?_ (fun _ => ?_))
   | exact ih0 _ _ _ _
   | exact ih1 _ _ _ _ _
   | exact redraftref02_Sorted.mono _ _
   | exact redraftref02_joined.mono _ _ _
   | exact redraftref02_upTo.mono _ _ _
   | exact LeO.none _
   | refine LeO.ite ?_ ?_
   | refine LeO.bind ?_ (fun _ => ?_)
theorem redraftref02_Places.mono : ∀ a0 k, LeO (redraftref02_Places.f k a0) (redraftref02_Places.f (k + 1) a0) := by
 intro a0 k
 obtain ⟨ih0, ih1⟩ := redraftref02_Places.mono_l k
 unfold redraftref02_Places.f
 repeat' first
   | (with_reducible exact ih0 _ _ _ _)
   | (with_reducible exact ih1 _ _ _ _ _)
   | (with_reducible exact redraftref02_Sorted.mono _ _)
   | (with_reducible exact redraftref02_joined.mono _ _ _)
   | (with_reducible exact redraftref02_upTo.mono _ _ _)
   | (with_reducible exact LeO.refl _)
   | (with_reducible exact LeO.none _)
   | (with_reducible refine LeO.ite ?_ ?_)
   | (with_reducible refine LeO.bind ?_ (fun _ => ?_))
   | exact ih0 _ _ _ _
   | exact ih1 _ _ _ _ _
   | exact redraftref02_Sorted.mono _ _
   | exact redraftref02_joined.mono _ _ _
   | exact redraftref02_upTo.mono _ _ _
   | exact LeO.none _
   | refine LeO.ite ?_ ?_
   | refine LeO.bind ?_ (fun _ => ?_)
set_option maxHeartbeats 8000000 in
set_option maxRecDepth 100000 in
theorem redraftref02_Places.calls (k : Nat) (A0 : Option Addr) (c0 : Nat) (l0 : List (S36)) (r : List (S36)) (w : World) (hr0 : Kd.C k36 w A0 l0.length l0) (hc0 : l0.length ≤ c0) (h : redraftref02_Places.f k l0 = some r) :
  Calls Try.prog 91 #[.slice A0 l0.length c0] w fun e w' => ∃ v0_ : Value, e = .returned (v0_) ∧ Kd.R k36 36 w' w.heap.size (fun _ => True) v0_ r ∧ Below w.heap.size w w' := by
 have HR0 := Aside0.mk hr0
 have HC0 := Aside0.mk hc0
 clear hr0 hc0
 have HB := Aside0.mk (Below.refl w.heap.size w)
 have H : (redraftref02_Places.l0 k l0 ([] : List Int) ([] : List Int) 0) = some r := h
 clear h
 have H' := Aside0.mk H
 clear H
 go_enter Try.func91, Try.ntmps91
 go_wp2
 go_loopg [3, 4, 5] k (fun kq v3 v4 v5 w' => ∃ (x3_1 : List Int) (x4_1 : List Int) (x5_1 : Int), v5 = .int .i64 x5_1 ∧ Aside0 (redraftref02_Places.l0 kq l0 x3_1 x4_1 x5_1 = some r) ∧ Aside0 (kq ≤ k) ∧ Aside0 (Kd.R (Kd.int .i64) 3 w' w.heap.size (fun k_ => some k_ ≠ (v4 : Value).ownBlock) v3 x3_1) ∧ Aside0 (Kd.R (Kd.int .i64) 3 w' w.heap.size (fun k_ => some k_ ≠ (v3 : Value).ownBlock) v4 x4_1) ∧ Aside0 (Below w.heap.size w w'))
 case atStart => exact ⟨(([] : List Int)), (([] : List Int)), (0), (by first | rfl | (simp; done) | (simp [*]; done)), H', ⟨Nat.le_refl _⟩, ⟨by first | exact Kd.R_nil _ _ _ _ _ | exact Kd.N_nil _ _ _ _ _ | exact Kd.V_nil _ _ _ _ _ | exact Kd.Q_nil _ _ _ _ _ | exact Kd.S_nil _ _ _ _ _⟩, ⟨by first | exact Kd.R_nil _ _ _ _ _ | exact Kd.N_nil _ _ _ _ _ | exact Kd.V_nil _ _ _ _ _ | exact Kd.Q_nil _ _ _ _ _ | exact Kd.S_nil _ _ _ _ _⟩, ⟨by repeat (first | (with_reducible first | exact HB.out | apply below_alloc | apply pw_below_drewN | apply below_drew1) | exact HB.out)⟩⟩
 case round =>
  clear H'
  obtain ⟨x3_1, x4_1, x5_1, rfl, HA, HK1, HO_3, HO_4, HB⟩ := hrel
  cases gk with
  | zero => exact absurd HA.out (by simp [redraftref02_Places.l0])
  | succ k1 =>
   have H := HA.out
   clear HA
   simp only [redraftref02_Places.l0] at H
   by_cases c2 : x5_1 < (l0.length : Int)
   ·rw [if_pos c2] at H
    have c2b0 : decide (x5_1 < (l0.length : Int)) = true := decide_eq_true c2
    clear c2
    by_cases c3 : 0 ≤ x5_1
    ·rw [if_pos c3] at H
     have c3b0 : decide (0 ≤ x5_1) = true := decide_eq_true c3
     clear c3
     by_cases c4 : x3_1.length < 17592186044416
     ·rw [if_pos c4] at H
      have LMc4 := Aside0.mk c4
      clear c4
      obtain ⟨y850, hy850⟩ : ∃ y_ : List Int, y_ = (x3_1 ++ [(rd_T36 l0 x5_1).f0]) := ⟨_, rfl⟩
      replace H : (if x4_1.length < 17592186044416 then (redraftref02_Places.l0 k1 l0 y850 (x4_1 ++ [(rd_T36 l0 x5_1).f1]) (wrap64 (x5_1 + 1))) else (none)) = some r := by first | (rw [hy850]; with_reducible exact H) | (have H2_ := (Option.bind_some _ _).symm.trans H; rw [hy850]; with_reducible exact H2_) | (have H2_ := (Option.bind_some _ _).symm.trans H; with_reducible exact H2_) | with_reducible exact H | (rw [hy850]; exact H) | exact H
      have Ny850 := Aside0.mk hy850
      clear hy850
      by_cases c5 : x4_1.length < 17592186044416
      ·rw [if_pos c5] at H
       have LMc5 := Aside0.mk c5
       clear c5
       obtain ⟨y854, hy854⟩ : ∃ y_ : List Int, y_ = (x4_1 ++ [(rd_T36 l0 x5_1).f1]) := ⟨_, rfl⟩
       replace H : (redraftref02_Places.l0 k1 l0 y850 y854 (wrap64 (x5_1 + 1))) = some r := by first | (rw [hy854]; with_reducible exact H) | (have H2_ := (Option.bind_some _ _).symm.trans H; rw [hy854]; with_reducible exact H2_) | (have H2_ := (Option.bind_some _ _).symm.trans H; with_reducible exact H2_) | with_reducible exact H | (rw [hy854]; exact H) | exact H
       have Ny854 := Aside0.mk hy854
       clear hy854
       have H' := Aside0.mk H
       clear H
       have p849 : 0 ≤ (x5_1 : Int) := of_decide_eq_true (by first | (with_reducible assumption) | assumption)
       have q849 : x5_1 < (l0.length : Int) := of_decide_eq_true (by first | (with_reducible assumption) | assumption)
       obtain ⟨ad849, e849, hx849_0, hx849_1⟩ := at_T36 HR0.out x5_1 p849 q849
       cases e849
       replace hx849_0 := (HB.out.cell (World.block_lt_of_cell? w _ hx849_0)).trans hx849_0
       replace hx849_1 := (HB.out.cell (World.block_lt_of_cell? w _ hx849_1)).trans hx849_1
       replace p849 := eq_true p849
       replace q849 := eq_true q849
       go_wp2_with (first | ((with_reducible refine gate_builtin (b := .append) (xs := #[.tmp 17, .tmp 23]) rfl ?_); at_builtin; refine Kd.R_append (Kd.int .i64) (w0 := w) w.heap.size rfl (.tmp 17) (.tmp 23) 23 3 (.int .i64 0) 8 rfl Try.underlying23 info3 rfl (by decide) (by omega) u3 x3_1 ((rd_T36 l0 x5_1).f0) [.int .i64 ((rd_T36 l0 x5_1).f0)] (fun k_ => some k_ ≠ (u4 : Value).ownBlock) (fun _ => False) rfl rfl ?aP (fun _ hk => hk.elim) ?aF ?aO ?aB ?aS ?aL ?_; (case aP => exact rfl); (case aB => exact (by repeat (first | (with_reducible first | exact HB.out | apply below_alloc | apply pw_below_drewN | apply below_drew1) | exact HB.out))); (case aF => exact (fun k_ hk => Kd.fresh' (Kd.R_lt (by (with_reducible repeat (first | apply Kd.R_alloc | apply Kd.R_drewN | apply Kd.R_drew)); exact HO_4.out)) k_ hk)); (case aO => exact (by (with_reducible repeat (first | apply Kd.R_alloc | apply Kd.R_drewN | apply Kd.R_drew)); exact HO_3.out)); (case aS => exact (below_size (by repeat (first | (with_reducible first | exact HB.out | apply below_alloc | apply pw_below_drewN | apply below_drew1) | exact HB.out)))); (case aL => have := LMc4.out; omega); intro v851 w6 ho hb hg hat; rw [← Ny850.out] at ho; have n0_ := Aside0.mk (Kd.R_after (ok := (fun _ => True)) (by (with_reducible repeat (first | apply Kd.R_alloc | apply Kd.R_drewN | apply Kd.R_drew)); exact Kd.R_mono HO_4.out (fun _ hk => ⟨trivial, hk⟩)) hg hat); have n1_ := Aside0.mk (hb); have n2_ := Aside0.mk (ho); clear HO_4; clear HB; clear HO_3; have HO_4 := n0_; have HB := n1_; have HO852 := n2_; clear n0_ n1_ n2_; clear ho hb hg hat; have p853 : 0 ≤ (x5_1 : Int) := of_decide_eq_true (by first | (with_reducible assumption) | assumption); have q853 : x5_1 < (l0.length : Int) := of_decide_eq_true (by first | (with_reducible assumption) | assumption); obtain ⟨ad853, e853, hx853_0, hx853_1⟩ := at_T36 HR0.out x5_1 p853 q853; obtain rfl : ad849 = ad853 := (by injection e853); replace hx853_0 := (HB.out.cell (World.block_lt_of_cell? w _ hx853_0)).trans hx853_0; replace hx853_1 := (HB.out.cell (World.block_lt_of_cell? w _ hx853_1)).trans hx853_1; replace p853 := eq_true p853; replace q853 := eq_true q853) | ((with_reducible refine gate_builtin (b := .append) (xs := #[.tmp 25, .tmp 31]) rfl ?_); at_builtin; refine Kd.R_append (Kd.int .i64) (w0 := w) w.heap.size rfl (.tmp 25) (.tmp 31) 23 3 (.int .i64 0) 8 rfl Try.underlying23 info3 rfl (by decide) (by omega) u4 x4_1 ((rd_T36 l0 x5_1).f1) [.int .i64 ((rd_T36 l0 x5_1).f1)] (fun k_ => some k_ ≠ (v851 : Value).ownBlock) (fun _ => False) rfl rfl ?aP (fun _ hk => hk.elim) ?aF ?aO ?aB ?aS ?aL ?_; (case aP => exact rfl); (case aB => exact (by repeat (first | (with_reducible first | exact HB.out | apply below_alloc | apply pw_below_drewN | apply below_drew1) | exact HB.out))); (case aF => exact (fun k_ hk => Kd.fresh' (Kd.R_lt (by (with_reducible repeat (first | apply Kd.R_alloc | apply Kd.R_drewN | apply Kd.R_drew)); exact HO852.out)) k_ hk)); (case aO => exact (by (with_reducible repeat (first | apply Kd.R_alloc | apply Kd.R_drewN | apply Kd.R_drew)); exact Kd.R_mono HO_4.out (fun _ hk => hk.2))); (case aS => exact (below_size (by repeat (first | (with_reducible first | exact HB.out | apply below_alloc | apply pw_below_drewN | apply below_drew1) | exact HB.out)))); (case aL => have := LMc5.out; omega); intro v855 w7 ho hb hg hat; rw [← Ny854.out] at ho; have n0_ := Aside0.mk (Kd.R_after (ok := (fun _ => True)) (by (with_reducible repeat (first | apply Kd.R_alloc | apply Kd.R_drewN | apply Kd.R_drew)); exact Kd.R_mono HO852.out (fun _ hk => ⟨trivial, hk⟩)) hg hat); have n1_ := Aside0.mk (hb); have n2_ := Aside0.mk (ho); clear HO852; clear HB; clear HO_4; have HO852 := n0_; have HB := n1_; have HO856 := n2_; clear n0_ n1_ n2_; clear ho hb hg hat))
       go_roundg k1
       case measure => have := HK1.out; omega
       case rel => exact ⟨(y850), (y854), (wrap64 (x5_1 + 1)), (by first | rfl | (simp; done) | (simp [*]; done)), H', ⟨by have := HK1.out; omega⟩, ⟨by (with_reducible repeat (first | apply Kd.R_alloc | apply Kd.R_drewN | apply Kd.R_drew)); exact Kd.R_mono HO852.out (fun _ hk => hk.2)⟩, ⟨by (with_reducible repeat (first | apply Kd.R_alloc | apply Kd.R_drewN | apply Kd.R_drew)); exact HO856.out⟩, ⟨by repeat (first | (with_reducible first | exact HB.out | apply below_alloc | apply pw_below_drewN | apply below_drew1) | exact HB.out)⟩⟩
      ·rw [if_neg c5] at H
       exact absurd H (by simp)
     ·rw [if_neg c4] at H
      exact absurd H (by simp)
    ·rw [if_neg c3] at H
     exact absurd H (by simp)
   ·rw [if_neg c2] at H
    have c2b0 : decide (x5_1 < (l0.length : Int)) = false := decide_eq_false c2
    clear c2
    replace H := Option.bind_eq_some_iff.mp H
    obtain ⟨t857, A80, H⟩ := H
    replace H : ((redraftref02_Sorted.f k1 x4_1).bind fun t860 => (if ([] : List Int).length + t857.length < 17592186044416 then ((some (([] : List Int) ++ t857 : List Int)).bind fun y863 => (if y863.length + t860.length < 17592186044416 then ((redraftref02_Sorted.f k1 (y863 ++ t860)).bind fun t869 => (if 0 ≤ (t869.length : Int) then (if ((t869.length : Int) : Int).toNat ≤ 281474976710656 then (redraftref02_Places.l1 k1 t857 t860 t869 (List.replicate ((t869.length : Int) : Int).toNat false) 0) else (none)) else (none))) else (none))) else (none))) = some r := H
    have A8 := Aside0.mk A80
    clear A80
    replace H := Option.bind_eq_some_iff.mp H
    obtain ⟨t860, A90, H⟩ := H
    replace H : (if ([] : List Int).length + t857.length < 17592186044416 then ((some (([] : List Int) ++ t857 : List Int)).bind fun y863 => (if y863.length + t860.length < 17592186044416 then ((redraftref02_Sorted.f k1 (y863 ++ t860)).bind fun t869 => (if 0 ≤ (t869.length : Int) then (if ((t869.length : Int) : Int).toNat ≤ 281474976710656 then (redraftref02_Places.l1 k1 t857 t860 t869 (List.replicate ((t869.length : Int) : Int).toNat false) 0) else (none)) else (none))) else (none))) else (none)) = some r := H
    have A9 := Aside0.mk A90
    clear A90
    by_cases c10 : ([] : List Int).length + t857.length < 17592186044416
    ·rw [if_pos c10] at H
     have LMc10 := Aside0.mk c10
     clear c10
     obtain ⟨y863, hy863⟩ : ∃ y_ : List Int, y_ = (([] : List Int) ++ t857) := ⟨_, rfl⟩
     replace H : (if y863.length + t860.length < 17592186044416 then ((redraftref02_Sorted.f k1 (y863 ++ t860)).bind fun t869 => (if 0 ≤ (t869.length : Int) then (if ((t869.length : Int) : Int).toNat ≤ 281474976710656 then (redraftref02_Places.l1 k1 t857 t860 t869 (List.replicate ((t869.length : Int) : Int).toNat false) 0) else (none)) else (none))) else (none)) = some r := by first | (rw [hy863]; with_reducible exact H) | (have H2_ := (Option.bind_some _ _).symm.trans H; rw [hy863]; with_reducible exact H2_) | (have H2_ := (Option.bind_some _ _).symm.trans H; with_reducible exact H2_) | with_reducible exact H | (rw [hy863]; exact H) | exact H
     have Ny863 := Aside0.mk hy863
     clear hy863
     by_cases c11 : y863.length + t860.length < 17592186044416
     ·rw [if_pos c11] at H
      have LMc11 := Aside0.mk c11
      clear c11
      obtain ⟨y866, hy866⟩ : ∃ y_ : List Int, y_ = (y863 ++ t860) := ⟨_, rfl⟩
      replace H : ((redraftref02_Sorted.f k1 y866).bind fun t869 => (if 0 ≤ (t869.length : Int) then (if ((t869.length : Int) : Int).toNat ≤ 281474976710656 then (redraftref02_Places.l1 k1 t857 t860 t869 (List.replicate ((t869.length : Int) : Int).toNat false) 0) else (none)) else (none))) = some r := by first | (rw [hy866]; with_reducible exact H) | (have H2_ := (Option.bind_some _ _).symm.trans H; rw [hy866]; with_reducible exact H2_) | (have H2_ := (Option.bind_some _ _).symm.trans H; with_reducible exact H2_) | with_reducible exact H | (rw [hy866]; exact H) | exact H
      have Ny866 := Aside0.mk hy866
      clear hy866
      replace H := Option.bind_eq_some_iff.mp H
      obtain ⟨t869, A120, H⟩ := H
      replace H : (if 0 ≤ (t869.length : Int) then (if ((t869.length : Int) : Int).toNat ≤ 281474976710656 then (redraftref02_Places.l1 k1 t857 t860 t869 (List.replicate ((t869.length : Int) : Int).toNat false) 0) else (none)) else (none)) = some r := H
      have A12 := Aside0.mk A120
      clear A120
      by_cases c13 : 0 ≤ (t869.length : Int)
      ·rw [if_pos c13] at H
       have c13b0 := eq_true c13
       have c13b1 : decide (0 ≤ (t869.length : Int)) = true := decide_eq_true c13
       clear c13
       by_cases c14 : ((t869.length : Int) : Int).toNat ≤ 281474976710656
       ·rw [if_pos c14] at H
        have c14b0 := eq_true c14
        have c14b1 : decide (((t869.length : Int) : Int).toNat ≤ 281474976710656) = true := decide_eq_true c14
        clear c14
        obtain ⟨y872, hy872⟩ : ∃ y_ : List Bool, y_ = (List.replicate ((t869.length : Int) : Int).toNat false) := ⟨_, rfl⟩
        replace H : (redraftref02_Places.l1 k1 t857 t860 t869 y872 0) = some r := by first | (rw [hy872]; with_reducible exact H) | (have H2_ := (Option.bind_some _ _).symm.trans H; rw [hy872]; with_reducible exact H2_) | (have H2_ := (Option.bind_some _ _).symm.trans H; with_reducible exact H2_) | with_reducible exact H | (rw [hy872]; exact H) | exact H
        have Ny872 := Aside0.mk hy872
        clear hy872
        have H' := Aside0.mk H
        clear H
        obtain ⟨Ao15, co15, eo15⟩ := Kd.R_slice HO_3.out
        subst eo15
        go_wp2_with (first | ((with_reducible refine gate_callee (f := 95) rfl ?_); refine goesL_ (some 34) rfl rfl Try.func95 (by kernel_rfl) rfl #[.slice Ao15 x3_1.length co15] rfl (by (try simp only [List.map_toArray, List.map_cons, List.map_nil]); first | done | rfl | (simp only [List.length_drop, List.length_take]; rfl)) ?_; (with_reducible refine (redraftref02_Sorted.calls k1 _ _ x3_1 t857 _ ?side1 ?side2 A8.out).mono ?_); (case side1 => repeat (first | exact (Kd.R_reads' HO_3.out).2.2 | (with_reducible refine Kd.C_alloc ?_ _) | (with_reducible refine Kd.C_drewN ?_ _) | (with_reducible refine Kd.C_drew ?_))); (case side2 => exact (Kd.R_reads' HO_3.out).2.1); rintro e w16 ⟨v858, rfl, ho0, hb⟩; refine ⟨_, rfl, ?_⟩; have n0_ := Aside0.mk (Kd.R_elder' (by (with_reducible repeat (first | apply Kd.R_alloc | apply Kd.R_drewN | apply Kd.R_drew)); exact HO_3.out) (Kd.R_base ho0) hb); have n1_ := Aside0.mk (Kd.R_elder' (by (with_reducible repeat (first | apply Kd.R_alloc | apply Kd.R_drewN | apply Kd.R_drew)); exact HO_4.out) (Kd.R_base ho0) hb); have n2_ := Aside0.mk (Kd.R_lower (Kd.R_new' (Kd.R_new' ho0 (Kd.R_lt (by (with_reducible repeat (first | apply Kd.R_alloc | apply Kd.R_drewN | apply Kd.R_drew)); exact HO_3.out))) (Kd.R_lt (by (with_reducible repeat (first | apply Kd.R_alloc | apply Kd.R_drewN | apply Kd.R_drew)); exact HO_4.out))) (below_size (by repeat (first | (with_reducible first | exact HB.out | apply below_alloc | apply pw_below_drewN | apply below_drew1) | exact HB.out)))); have n3_ := Aside0.mk (below_step (by repeat (first | (with_reducible first | exact HB.out | apply below_alloc | apply pw_below_drewN | apply below_drew1) | exact HB.out)) hb); clear HO_3; clear HO_4; clear HB; have HO_3 := n0_; have HO_4 := n1_; have HO859 := n2_; have HB := n3_; clear n0_ n1_ n2_ n3_; (try clear hb); (try clear hb2); (try clear hk); (try clear hi); (try clear ho0); obtain ⟨Ao17, co17, eo17⟩ := Kd.R_slice HO_4.out; subst eo17) | ((with_reducible refine gate_callee (f := 95) rfl ?_); refine goesL_ (some 36) rfl rfl Try.func95 (by kernel_rfl) rfl #[.slice Ao17 x4_1.length co17] rfl (by (try simp only [List.map_toArray, List.map_cons, List.map_nil]); first | done | rfl | (simp only [List.length_drop, List.length_take]; rfl)) ?_; (with_reducible refine (redraftref02_Sorted.calls k1 _ _ x4_1 t860 _ ?side1 ?side2 A9.out).mono ?_); (case side1 => repeat (first | exact (Kd.R_reads' HO_4.out).2.2 | (with_reducible refine Kd.C_alloc ?_ _) | (with_reducible refine Kd.C_drewN ?_ _) | (with_reducible refine Kd.C_drew ?_))); (case side2 => exact (Kd.R_reads' HO_4.out).2.1); rintro e w18 ⟨v861, rfl, ho0, hb⟩; refine ⟨_, rfl, ?_⟩; have n0_ := Aside0.mk (Kd.R_elder' (by (with_reducible repeat (first | apply Kd.R_alloc | apply Kd.R_drewN | apply Kd.R_drew)); exact HO_3.out) (Kd.R_base ho0) hb); have n1_ := Aside0.mk (Kd.R_elder' (by (with_reducible repeat (first | apply Kd.R_alloc | apply Kd.R_drewN | apply Kd.R_drew)); exact HO_4.out) (Kd.R_base ho0) hb); have n2_ := Aside0.mk (Kd.R_elder' (by (with_reducible repeat (first | apply Kd.R_alloc | apply Kd.R_drewN | apply Kd.R_drew)); exact HO859.out) (Kd.R_base ho0) hb); have n3_ := Aside0.mk (Kd.R_lower (Kd.R_new' (Kd.R_new' (Kd.R_new' ho0 (Kd.R_lt (by (with_reducible repeat (first | apply Kd.R_alloc | apply Kd.R_drewN | apply Kd.R_drew)); exact HO_3.out))) (Kd.R_lt (by (with_reducible repeat (first | apply Kd.R_alloc | apply Kd.R_drewN | apply Kd.R_drew)); exact HO_4.out))) (Kd.R_lt (by (with_reducible repeat (first | apply Kd.R_alloc | apply Kd.R_drewN | apply Kd.R_drew)); exact HO859.out))) (below_size (by repeat (first | (with_reducible first | exact HB.out | apply below_alloc | apply pw_below_drewN | apply below_drew1) | exact HB.out)))); have n4_ := Aside0.mk (below_step (by repeat (first | (with_reducible first | exact HB.out | apply below_alloc | apply pw_below_drewN | apply below_drew1) | exact HB.out)) hb); clear HO_3; clear HO_4; clear HO859; clear HB; have HO_3 := n0_; have HO_4 := n1_; have HO859 := n2_; have HO862 := n3_; have HB := n4_; clear n0_ n1_ n2_ n3_ n4_; (try clear hb); (try clear hb2); (try clear hk); (try clear hi); (try clear ho0); obtain ⟨Ao20, co20, eo20⟩ := Kd.R_slice HO859.out; subst eo20) | ((with_reducible refine gate_builtin (b := .append) (xs := #[.const (.slice none 0 0), .tmp 37]) rfl ?_); at_builtin; refine Kd.R_append_rows (Kd.int .i64) (w0 := w) w.heap.size rfl (.const (.slice none 0 0)) (.tmp 37) 23 3 (.int .i64 0) 8 rfl Try.underlying23 info3 rfl (by decide) (by omega) (.slice none 0 0) ([] : List Int) t857 _ _ _ (fun k_ => some k_ ≠ (.slice Ao15 x3_1.length co15 : Value).ownBlock ∧ some k_ ≠ (.slice Ao17 x4_1.length co17 : Value).ownBlock ∧ some k_ ≠ (.slice Ao20 t857.length co20 : Value).ownBlock ∧ some k_ ≠ (v861 : Value).ownBlock) (fun _ => False) rfl rfl ?aO ?aR (fun _ _ h => h) (fun _ h => h.elim) ?aF ?aB ?aS ?aL ?_; (case aR => repeat (first | exact (Kd.R_reads' HO859.out).2.2 | (with_reducible refine Kd.C_alloc ?_ _) | (with_reducible refine Kd.C_drewN ?_ _) | (with_reducible refine Kd.C_drew ?_))); (case aB => exact (by repeat (first | (with_reducible first | exact HB.out | apply below_alloc | apply pw_below_drewN | apply below_drew1) | exact HB.out))); (case aF => exact (fun k_ hk => ⟨Kd.fresh' (Kd.R_lt (by (with_reducible repeat (first | apply Kd.R_alloc | apply Kd.R_drewN | apply Kd.R_drew)); exact HO_3.out)) k_ hk, Kd.fresh' (Kd.R_lt (by (with_reducible repeat (first | apply Kd.R_alloc | apply Kd.R_drewN | apply Kd.R_drew)); exact HO_4.out)) k_ hk, Kd.fresh' (Kd.R_lt (by (with_reducible repeat (first | apply Kd.R_alloc | apply Kd.R_drewN | apply Kd.R_drew)); exact HO859.out)) k_ hk, Kd.fresh' (Kd.R_lt (by (with_reducible repeat (first | apply Kd.R_alloc | apply Kd.R_drewN | apply Kd.R_drew)); exact HO862.out)) k_ hk⟩)); (case aO => exact ((Kd.R_nil _ _ _ _ (fun k_ => some k_ ≠ (.slice Ao15 x3_1.length co15 : Value).ownBlock ∧ some k_ ≠ (.slice Ao17 x4_1.length co17 : Value).ownBlock ∧ some k_ ≠ (.slice Ao20 t857.length co20 : Value).ownBlock ∧ some k_ ≠ (v861 : Value).ownBlock)))); (case aS => exact (below_size (by repeat (first | (with_reducible first | exact HB.out | apply below_alloc | apply pw_below_drewN | apply below_drew1) | exact HB.out)))); (case aL => have := LMc10.out; omega); intro v864 w19 ho hb hg hat; rw [← Ny863.out] at ho; have n0_ := Aside0.mk (Kd.R_after (Kd.R_apart_nil (by (with_reducible repeat (first | apply Kd.R_alloc | apply Kd.R_drewN | apply Kd.R_drew)); exact HO_3.out)) hg hat); have n1_ := Aside0.mk (Kd.R_after (Kd.R_apart_nil (by (with_reducible repeat (first | apply Kd.R_alloc | apply Kd.R_drewN | apply Kd.R_drew)); exact HO_4.out)) hg hat); have n2_ := Aside0.mk (Kd.R_after (Kd.R_apart_nil (by (with_reducible repeat (first | apply Kd.R_alloc | apply Kd.R_drewN | apply Kd.R_drew)); exact HO859.out)) hg hat); have n3_ := Aside0.mk (Kd.R_after (Kd.R_apart_nil (by (with_reducible repeat (first | apply Kd.R_alloc | apply Kd.R_drewN | apply Kd.R_drew)); exact HO862.out)) hg hat); have n4_ := Aside0.mk (hb); have n5_ := Aside0.mk (ho); clear HO_3; clear HO_4; clear HO859; clear HO862; clear HB; have HO_3 := n0_; have HO_4 := n1_; have HO859 := n2_; have HO862 := n3_; have HB := n4_; have HO865 := n5_; clear n0_ n1_ n2_ n3_ n4_ n5_; clear ho hb hg hat; obtain ⟨Ao22, co22, eo22⟩ := Kd.R_slice HO862.out; subst eo22) | ((with_reducible refine gate_builtin (b := .append) (xs := #[.tmp 38, .tmp 39]) rfl ?_); at_builtin; refine Kd.R_append_rows (Kd.int .i64) (w0 := w) w.heap.size rfl (.tmp 38) (.tmp 39) 23 3 (.int .i64 0) 8 rfl Try.underlying23 info3 rfl (by decide) (by omega) v864 y863 t860 _ _ _ (fun k_ => some k_ ≠ (.slice Ao15 x3_1.length co15 : Value).ownBlock ∧ some k_ ≠ (.slice Ao17 x4_1.length co17 : Value).ownBlock ∧ some k_ ≠ (.slice Ao20 t857.length co20 : Value).ownBlock ∧ some k_ ≠ (.slice Ao22 t860.length co22 : Value).ownBlock) (fun _ => False) rfl rfl ?aO ?aR (fun _ _ h => h) (fun _ h => h.elim) ?aF ?aB ?aS ?aL ?_; (case aR => repeat (first | exact (Kd.R_reads' HO862.out).2.2 | (with_reducible refine Kd.C_alloc ?_ _) | (with_reducible refine Kd.C_drewN ?_ _) | (with_reducible refine Kd.C_drew ?_))); (case aB => exact (by repeat (first | (with_reducible first | exact HB.out | apply below_alloc | apply pw_below_drewN | apply below_drew1) | exact HB.out))); (case aF => exact (fun k_ hk => ⟨Kd.fresh' (Kd.R_lt (by (with_reducible repeat (first | apply Kd.R_alloc | apply Kd.R_drewN | apply Kd.R_drew)); exact HO_3.out)) k_ hk, Kd.fresh' (Kd.R_lt (by (with_reducible repeat (first | apply Kd.R_alloc | apply Kd.R_drewN | apply Kd.R_drew)); exact HO_4.out)) k_ hk, Kd.fresh' (Kd.R_lt (by (with_reducible repeat (first | apply Kd.R_alloc | apply Kd.R_drewN | apply Kd.R_drew)); exact HO859.out)) k_ hk, Kd.fresh' (Kd.R_lt (by (with_reducible repeat (first | apply Kd.R_alloc | apply Kd.R_drewN | apply Kd.R_drew)); exact HO862.out)) k_ hk⟩)); (case aO => exact (by (with_reducible repeat (first | apply Kd.R_alloc | apply Kd.R_drewN | apply Kd.R_drew)); exact HO865.out)); (case aS => exact (below_size (by repeat (first | (with_reducible first | exact HB.out | apply below_alloc | apply pw_below_drewN | apply below_drew1) | exact HB.out)))); (case aL => have := LMc11.out; omega); intro v867 w21 ho hb hg hat; rw [← Ny866.out] at ho; have n0_ := Aside0.mk (Kd.R_after (ok := (fun k_ => some k_ ≠ (.slice Ao17 x4_1.length co17 : Value).ownBlock ∧ some k_ ≠ (.slice Ao20 t857.length co20 : Value).ownBlock ∧ some k_ ≠ (.slice Ao22 t860.length co22 : Value).ownBlock)) (by (with_reducible repeat (first | apply Kd.R_alloc | apply Kd.R_drewN | apply Kd.R_drew)); exact Kd.R_mono HO_3.out (fun _ hk => ⟨⟨hk.1.1.1, ⟨hk.1.1.2, hk.1.2⟩⟩, hk.2⟩)) hg hat); have n1_ := Aside0.mk (Kd.R_after (ok := (fun k_ => some k_ ≠ (.slice Ao15 x3_1.length co15 : Value).ownBlock ∧ some k_ ≠ (.slice Ao20 t857.length co20 : Value).ownBlock ∧ some k_ ≠ (.slice Ao22 t860.length co22 : Value).ownBlock)) (by (with_reducible repeat (first | apply Kd.R_alloc | apply Kd.R_drewN | apply Kd.R_drew)); exact Kd.R_mono HO_4.out (fun _ hk => ⟨⟨hk.1.1.1, ⟨hk.1.1.2, hk.1.2⟩⟩, hk.2⟩)) hg hat); have n2_ := Aside0.mk (Kd.R_after (ok := (fun k_ => some k_ ≠ (.slice Ao15 x3_1.length co15 : Value).ownBlock ∧ some k_ ≠ (.slice Ao17 x4_1.length co17 : Value).ownBlock ∧ some k_ ≠ (.slice Ao22 t860.length co22 : Value).ownBlock)) (by (with_reducible repeat (first | apply Kd.R_alloc | apply Kd.R_drewN | apply Kd.R_drew)); exact Kd.R_mono HO859.out (fun _ hk => ⟨⟨hk.1.1.1.2, ⟨hk.1.1.2, hk.1.2⟩⟩, hk.2⟩)) hg hat); have n3_ := Aside0.mk (Kd.R_after (ok := (fun k_ => some k_ ≠ (.slice Ao15 x3_1.length co15 : Value).ownBlock ∧ some k_ ≠ (.slice Ao17 x4_1.length co17 : Value).ownBlock ∧ some k_ ≠ (.slice Ao20 t857.length co20 : Value).ownBlock)) (by (with_reducible repeat (first | apply Kd.R_alloc | apply Kd.R_drewN | apply Kd.R_drew)); exact Kd.R_mono HO862.out (fun _ hk => ⟨⟨hk.1.1.1.2, ⟨hk.1.1.2, hk.1.2⟩⟩, hk.2⟩)) hg hat); have n4_ := Aside0.mk (hb); have n5_ := Aside0.mk (ho); clear HO_3; clear HO_4; clear HO859; clear HO862; clear HB; clear HO865; have HO_3 := n0_; have HO_4 := n1_; have HO859 := n2_; have HO862 := n3_; have HB := n4_; have HO868 := n5_; clear n0_ n1_ n2_ n3_ n4_ n5_; clear ho hb hg hat; obtain ⟨Ao23, co23, eo23⟩ := Kd.R_slice HO868.out; subst eo23) | ((with_reducible refine gate_callee (f := 95) rfl ?_); refine goesL_ (some 41) rfl rfl Try.func95 (by kernel_rfl) rfl #[.slice Ao23 y866.length co23] rfl (by (try simp only [List.map_toArray, List.map_cons, List.map_nil]); first | done | rfl | (simp only [List.length_drop, List.length_take]; rfl)) ?_; (with_reducible refine (redraftref02_Sorted.calls k1 _ _ y866 t869 _ ?side1 ?side2 A12.out).mono ?_); (case side1 => repeat (first | exact (Kd.R_reads' HO868.out).2.2 | (with_reducible refine Kd.C_alloc ?_ _) | (with_reducible refine Kd.C_drewN ?_ _) | (with_reducible refine Kd.C_drew ?_))); (case side2 => exact (Kd.R_reads' HO868.out).2.1); rintro e w24 ⟨v870, rfl, ho0, hb⟩; refine ⟨_, rfl, ?_⟩; have n0_ := Aside0.mk (Kd.R_elder' (by (with_reducible repeat (first | apply Kd.R_alloc | apply Kd.R_drewN | apply Kd.R_drew)); exact HO_3.out) (Kd.R_base ho0) hb); have n1_ := Aside0.mk (Kd.R_elder' (by (with_reducible repeat (first | apply Kd.R_alloc | apply Kd.R_drewN | apply Kd.R_drew)); exact HO_4.out) (Kd.R_base ho0) hb); have n2_ := Aside0.mk (Kd.R_elder' (by (with_reducible repeat (first | apply Kd.R_alloc | apply Kd.R_drewN | apply Kd.R_drew)); exact HO859.out) (Kd.R_base ho0) hb); have n3_ := Aside0.mk (Kd.R_elder' (by (with_reducible repeat (first | apply Kd.R_alloc | apply Kd.R_drewN | apply Kd.R_drew)); exact HO862.out) (Kd.R_base ho0) hb); have n4_ := Aside0.mk (Kd.R_elder' (by (with_reducible repeat (first | apply Kd.R_alloc | apply Kd.R_drewN | apply Kd.R_drew)); exact HO868.out) (Kd.R_base ho0) hb); have n5_ := Aside0.mk (Kd.R_lower (Kd.R_new' (Kd.R_new' (Kd.R_new' (Kd.R_new' (Kd.R_new' ho0 (Kd.R_lt (by (with_reducible repeat (first | apply Kd.R_alloc | apply Kd.R_drewN | apply Kd.R_drew)); exact HO_3.out))) (Kd.R_lt (by (with_reducible repeat (first | apply Kd.R_alloc | apply Kd.R_drewN | apply Kd.R_drew)); exact HO_4.out))) (Kd.R_lt (by (with_reducible repeat (first | apply Kd.R_alloc | apply Kd.R_drewN | apply Kd.R_drew)); exact HO859.out))) (Kd.R_lt (by (with_reducible repeat (first | apply Kd.R_alloc | apply Kd.R_drewN | apply Kd.R_drew)); exact HO862.out))) (Kd.R_lt (by (with_reducible repeat (first | apply Kd.R_alloc | apply Kd.R_drewN | apply Kd.R_drew)); exact HO868.out))) (below_size (by repeat (first | (with_reducible first | exact HB.out | apply below_alloc | apply pw_below_drewN | apply below_drew1) | exact HB.out)))); have n6_ := Aside0.mk (below_step (by repeat (first | (with_reducible first | exact HB.out | apply below_alloc | apply pw_below_drewN | apply below_drew1) | exact HB.out)) hb); clear HO_3; clear HO_4; clear HO859; clear HO862; clear HO868; clear HB; have HO_3 := n0_; have HO_4 := n1_; have HO859 := n2_; have HO862 := n3_; have HO868 := n4_; have HO871 := n5_; have HB := n6_; clear n0_ n1_ n2_ n3_ n4_ n5_ n6_; (try clear hb); (try clear hb2); (try clear hk); (try clear hi); (try clear ho0); obtain ⟨Ao25, co25, eo25⟩ := Kd.R_slice HO871.out; subst eo25) | ((with_reducible refine gate_dst (N := 44) rfl ?_); refine Kd.R_make Kd.bool _ 4 rfl (N := 44) rfl 112 _ _ rfl (t869.length : Int) rfl rfl Try.underlying112 (.bool false) 1 info4 rfl (by decide) (by omega) false (ok := fun _ => True) (okp := fun _ => True) rfl (fun _ hk => hk) trivial (of_decide_eq_true (by first | (with_reducible assumption) | assumption)) (Nat.le_trans (Nat.mul_le_mul_right _ (of_decide_eq_true (by first | (with_reducible assumption) | assumption) : (t869.length : Int).toNat ≤ 281474976710656)) (by omega)) (Below.refl _ _) (Nat.le_refl _) ?_; intro v873 w26 ho27 hb hg_ hnew_; clear hg_ hnew_; (first | rw [← Ny872.out] at ho27 | (simp only [Int.reduceToNat] at ho27; rw [← Ny872.out] at ho27)); have n0_ := Aside0.mk (Kd.R_below (by (with_reducible repeat (first | apply Kd.R_alloc | apply Kd.R_drewN | apply Kd.R_drew)); exact HO_3.out) hb); have n1_ := Aside0.mk (Kd.R_below (by (with_reducible repeat (first | apply Kd.R_alloc | apply Kd.R_drewN | apply Kd.R_drew)); exact HO_4.out) hb); have n2_ := Aside0.mk (Kd.R_below (by (with_reducible repeat (first | apply Kd.R_alloc | apply Kd.R_drewN | apply Kd.R_drew)); exact HO859.out) hb); have n3_ := Aside0.mk (Kd.R_below (by (with_reducible repeat (first | apply Kd.R_alloc | apply Kd.R_drewN | apply Kd.R_drew)); exact HO862.out) hb); have n4_ := Aside0.mk (Kd.R_below (by (with_reducible repeat (first | apply Kd.R_alloc | apply Kd.R_drewN | apply Kd.R_drew)); exact HO868.out) hb); have n5_ := Aside0.mk (Kd.R_below (by (with_reducible repeat (first | apply Kd.R_alloc | apply Kd.R_drewN | apply Kd.R_drew)); exact HO871.out) hb); have n6_ := Aside0.mk (Kd.R_lower ho27 (below_size (by repeat (first | (with_reducible first | exact HB.out | apply below_alloc | apply pw_below_drewN | apply below_drew1) | exact HB.out)))); have n7_ := Aside0.mk (below_step (by repeat (first | (with_reducible first | exact HB.out | apply below_alloc | apply pw_below_drewN | apply below_drew1) | exact HB.out)) hb); clear HO_3; clear HO_4; clear HO859; clear HO862; clear HO868; clear HO871; clear HB; have HO_3 := n0_; have HO_4 := n1_; have HO859 := n2_; have HO862 := n3_; have HO868 := n4_; have HO871 := n5_; have HO874 := n6_; have HB := n7_; clear n0_ n1_ n2_ n3_ n4_ n5_ n6_ n7_; clear hb ho27))
        go_loopg [8] k1 (fun kq v8 w' => ∃ (x7_2 : List Bool) (x8_2 : Int), v8 = .int .i64 x8_2 ∧ Aside0 (redraftref02_Places.l1 kq t857 t860 t869 x7_2 x8_2 = some r) ∧ Aside0 (kq ≤ k1) ∧ Aside0 (Kd.R (Kd.int .i64) 3 w' w.heap.size (fun k_ => some k_ ≠ ((.slice Ao22 t860.length co22) : Value).ownBlock ∧ some k_ ≠ ((.slice Ao25 t869.length co25) : Value).ownBlock) (.slice Ao20 t857.length co20) t857) ∧ Aside0 (Kd.R (Kd.int .i64) 3 w' w.heap.size (fun k_ => some k_ ≠ ((.slice Ao20 t857.length co20) : Value).ownBlock ∧ some k_ ≠ ((.slice Ao25 t869.length co25) : Value).ownBlock) (.slice Ao22 t860.length co22) t860) ∧ Aside0 (Kd.R (Kd.int .i64) 3 w' w.heap.size (fun k_ => some k_ ≠ ((.slice Ao20 t857.length co20) : Value).ownBlock ∧ some k_ ≠ ((.slice Ao22 t860.length co22) : Value).ownBlock) (.slice Ao25 t869.length co25) t869) ∧ Aside0 (Kd.R Kd.bool 4 w' w.heap.size (fun _ => True) v873 x7_2) ∧ Aside0 (Below w.heap.size w w'))
        case atStart => exact ⟨(y872), (0), (by first | rfl | (simp; done) | (simp [*]; done)), H', ⟨Nat.le_refl _⟩, ⟨by (with_reducible repeat (first | apply Kd.R_alloc | apply Kd.R_drewN | apply Kd.R_drew)); exact Kd.R_mono HO859.out (fun _ hk => ⟨hk.1.1.2.2, hk.2⟩)⟩, ⟨by (with_reducible repeat (first | apply Kd.R_alloc | apply Kd.R_drewN | apply Kd.R_drew)); exact Kd.R_mono HO862.out (fun _ hk => ⟨hk.1.1.2.2, hk.2⟩)⟩, ⟨by (with_reducible repeat (first | apply Kd.R_alloc | apply Kd.R_drewN | apply Kd.R_drew)); exact Kd.R_mono HO871.out (fun _ hk => ⟨hk.1.1.2, hk.1.2⟩)⟩, ⟨by (with_reducible repeat (first | apply Kd.R_alloc | apply Kd.R_drewN | apply Kd.R_drew)); exact HO874.out⟩, ⟨by repeat (first | (with_reducible first | exact HB.out | apply below_alloc | apply pw_below_drewN | apply below_drew1) | exact HB.out)⟩⟩
        case round =>
         clear H'
         try clear c1
         try clear c2
         try clear c2b0
         try clear p2
         try clear c3
         try clear c3b0
         try clear c4
         try clear c5
         try clear p6
         try clear p8
         try clear q8
         try clear hx8
         try clear c9
         try clear c10
         try clear c11
         try clear c13
         try clear c13b0
         try clear c13b1
         try clear c14
         try clear c14b0
         try clear c14b1
         try clear hx849_0
         try clear hx849_1
         try clear hx853_0
         try clear hx853_1
         try clear p849
         try clear p853
         try clear q849
         try clear q853
         obtain ⟨x7_2, x8_2, rfl, HA, HK2, HO_3, HO_4, HO_6, HO_7, HB⟩ := hrel
         cases gk with
         | zero => exact absurd HA.out (by simp [redraftref02_Places.l1])
         | succ k2 =>
          have H := HA.out
          clear HA
          simp only [redraftref02_Places.l1] at H
          by_cases c28 : x8_2 < (t869.length : Int)
          ·rw [if_pos c28] at H
           have c28b0 : decide (x8_2 < (t869.length : Int)) = true := decide_eq_true c28
           clear c28
           by_cases c29 : 0 ≤ x8_2
           ·rw [if_pos c29] at H
            have c29b0 : decide (0 ≤ x8_2) = true := decide_eq_true c29
            clear c29
            replace H := Option.bind_eq_some_iff.mp H
            obtain ⟨t876, A300, H⟩ := H
            replace H : ((redraftref02_upTo.f k2 t860 (rd t869 x8_2)).bind fun t878 => (if x8_2 < (x7_2.length : Int) then (redraftref02_Places.l1 k2 t857 t860 t869 (x7_2.set (x8_2 : Int).toNat (decide (t876 > t878))) (wrap64 (x8_2 + 1))) else (none))) = some r := H
            have A30 := Aside0.mk A300
            clear A300
            replace H := Option.bind_eq_some_iff.mp H
            obtain ⟨t878, A310, H⟩ := H
            replace H : (if x8_2 < (x7_2.length : Int) then (redraftref02_Places.l1 k2 t857 t860 t869 (x7_2.set (x8_2 : Int).toNat (decide (t876 > t878))) (wrap64 (x8_2 + 1))) else (none)) = some r := H
            have A31 := Aside0.mk A310
            clear A310
            by_cases c32 : x8_2 < (x7_2.length : Int)
            ·rw [if_pos c32] at H
             have c32b0 : decide (x8_2 < (x7_2.length : Int)) = true := decide_eq_true c32
             clear c32
             obtain ⟨y879, hy879⟩ : ∃ y_ : List Bool, y_ = (x7_2.set (x8_2 : Int).toNat (decide (t876 > t878))) := ⟨_, rfl⟩
             replace H : (redraftref02_Places.l1 k2 t857 t860 t869 y879 (wrap64 (x8_2 + 1))) = some r := by first | (rw [hy879]; with_reducible exact H) | (have H2_ := (Option.bind_some _ _).symm.trans H; rw [hy879]; with_reducible exact H2_) | (have H2_ := (Option.bind_some _ _).symm.trans H; with_reducible exact H2_) | with_reducible exact H | (rw [hy879]; exact H) | exact H
             have Ny879 := Aside0.mk hy879
             clear hy879
             have H' := Aside0.mk H
             clear H
             have p875 : 0 ≤ (x8_2 : Int) := of_decide_eq_true (by first | (with_reducible assumption) | assumption)
             have q875 : x8_2 < (t869.length : Int) := of_decide_eq_true (by first | (with_reducible assumption) | assumption)
             obtain ⟨ad875, e875, hx875_0⟩ := Kd.at_int (Kd.R_reads' HO_6.out).2.2 x8_2 p875 q875
             cases e875
             replace p875 := eq_true p875
             replace q875 := eq_true q875
             go_wp2_with (first | ((with_reducible refine gate_callee (f := 96) rfl ?_); refine goesL_ (some 56) rfl rfl Try.func96 (by kernel_rfl) rfl #[.slice Ao20 t857.length co20, .int .i64 (rd t869 x8_2)] rfl (by (try simp only [List.map_toArray, List.map_cons, List.map_nil]); first | done | rfl | (simp only [List.length_drop, List.length_take]; rfl)) ?_; (with_reducible refine (redraftref02_upTo.calls k2 _ _ t857 (rd t869 x8_2) t876 _ ?side1 ?side2 A30.out).mono ?_); (case side1 => repeat (first | exact (Kd.R_reads' HO_3.out).2.2 | (with_reducible refine Kd.C_alloc ?_ _) | (with_reducible refine Kd.C_drewN ?_ _) | (with_reducible refine Kd.C_drew ?_))); (case side2 => exact (Kd.R_reads' HO_3.out).2.1); rintro e w' ⟨rfl, ⟨nd, rfl⟩⟩; refine ⟨_, rfl, ?_⟩; (try (rw [drewN_self wr]; generalize hq_ : World.drewN wr _ = wr; have n0_ : Aside0 (Kd.R (Kd.int .i64) 3 wr w.heap.size (fun k_ => some k_ ≠ (.slice Ao22 t860.length co22 : Value).ownBlock ∧ some k_ ≠ (.slice (some ad875) t869.length co25 : Value).ownBlock) (.slice Ao20 t857.length co20) t857) := ⟨by rw [← hq_]; exact (by (with_reducible repeat (first | apply Kd.R_alloc | apply Kd.R_drewN | apply Kd.R_drew)); exact HO_3.out)⟩; have n1_ : Aside0 (Kd.R (Kd.int .i64) 3 wr w.heap.size (fun k_ => some k_ ≠ (.slice Ao20 t857.length co20 : Value).ownBlock ∧ some k_ ≠ (.slice (some ad875) t869.length co25 : Value).ownBlock) (.slice Ao22 t860.length co22) t860) := ⟨by rw [← hq_]; exact (by (with_reducible repeat (first | apply Kd.R_alloc | apply Kd.R_drewN | apply Kd.R_drew)); exact HO_4.out)⟩; have n2_ : Aside0 (Kd.R (Kd.int .i64) 3 wr w.heap.size (fun k_ => some k_ ≠ (.slice Ao20 t857.length co20 : Value).ownBlock ∧ some k_ ≠ (.slice Ao22 t860.length co22 : Value).ownBlock) (.slice (some ad875) t869.length co25) t869) := ⟨by rw [← hq_]; exact (by (with_reducible repeat (first | apply Kd.R_alloc | apply Kd.R_drewN | apply Kd.R_drew)); exact HO_6.out)⟩; have n3_ : Aside0 (Kd.R Kd.bool 4 wr w.heap.size (fun _ => True) v873 x7_2) := ⟨by rw [← hq_]; exact (by (with_reducible repeat (first | apply Kd.R_alloc | apply Kd.R_drewN | apply Kd.R_drew)); exact HO_7.out)⟩; have n4_ : Aside0 (Below w.heap.size w wr) := ⟨by rw [← hq_]; exact (by repeat (first | (with_reducible first | exact HB.out | apply below_alloc | apply pw_below_drewN | apply below_drew1) | exact HB.out))⟩; clear HO_3 HO_4 HO_6 HO_7 HB hq_; have HO_3 := n0_; have HO_4 := n1_; have HO_6 := n2_; have HO_7 := n3_; have HB := n4_; clear n0_ n1_ n2_ n3_ n4_)); have p877 : 0 ≤ (x8_2 : Int) := of_decide_eq_true (by first | (with_reducible assumption) | assumption); have q877 : x8_2 < (t869.length : Int) := of_decide_eq_true (by first | (with_reducible assumption) | assumption); obtain ⟨ad877, e877, hx877_0⟩ := Kd.at_int (Kd.R_reads' HO_6.out).2.2 x8_2 p877 q877; obtain rfl : ad875 = ad877 := (by injection e877); replace p877 := eq_true p877; replace q877 := eq_true q877) | ((with_reducible refine gate_callee (f := 96) rfl ?_); refine goesL_ (some 62) rfl rfl Try.func96 (by kernel_rfl) rfl #[.slice Ao22 t860.length co22, .int .i64 (rd t869 x8_2)] rfl (by (try simp only [List.map_toArray, List.map_cons, List.map_nil]); first | done | rfl | (simp only [List.length_drop, List.length_take]; rfl)) ?_; (with_reducible refine (redraftref02_upTo.calls k2 _ _ t860 (rd t869 x8_2) t878 _ ?side1 ?side2 A31.out).mono ?_); (case side1 => repeat (first | exact (Kd.R_reads' HO_4.out).2.2 | (with_reducible refine Kd.C_alloc ?_ _) | (with_reducible refine Kd.C_drewN ?_ _) | (with_reducible refine Kd.C_drew ?_))); (case side2 => exact (Kd.R_reads' HO_4.out).2.1); rintro e w' ⟨rfl, ⟨nd, rfl⟩⟩; refine ⟨_, rfl, ?_⟩; (try (rw [drewN_self wr]; generalize hq_ : World.drewN wr _ = wr; have n0_ : Aside0 (Kd.R (Kd.int .i64) 3 wr w.heap.size (fun k_ => some k_ ≠ (.slice Ao22 t860.length co22 : Value).ownBlock ∧ some k_ ≠ (.slice (some ad875) t869.length co25 : Value).ownBlock) (.slice Ao20 t857.length co20) t857) := ⟨by rw [← hq_]; exact (by (with_reducible repeat (first | apply Kd.R_alloc | apply Kd.R_drewN | apply Kd.R_drew)); exact HO_3.out)⟩; have n1_ : Aside0 (Kd.R (Kd.int .i64) 3 wr w.heap.size (fun k_ => some k_ ≠ (.slice Ao20 t857.length co20 : Value).ownBlock ∧ some k_ ≠ (.slice (some ad875) t869.length co25 : Value).ownBlock) (.slice Ao22 t860.length co22) t860) := ⟨by rw [← hq_]; exact (by (with_reducible repeat (first | apply Kd.R_alloc | apply Kd.R_drewN | apply Kd.R_drew)); exact HO_4.out)⟩; have n2_ : Aside0 (Kd.R (Kd.int .i64) 3 wr w.heap.size (fun k_ => some k_ ≠ (.slice Ao20 t857.length co20 : Value).ownBlock ∧ some k_ ≠ (.slice Ao22 t860.length co22 : Value).ownBlock) (.slice (some ad875) t869.length co25) t869) := ⟨by rw [← hq_]; exact (by (with_reducible repeat (first | apply Kd.R_alloc | apply Kd.R_drewN | apply Kd.R_drew)); exact HO_6.out)⟩; have n3_ : Aside0 (Kd.R Kd.bool 4 wr w.heap.size (fun _ => True) v873 x7_2) := ⟨by rw [← hq_]; exact (by (with_reducible repeat (first | apply Kd.R_alloc | apply Kd.R_drewN | apply Kd.R_drew)); exact HO_7.out)⟩; have n4_ : Aside0 (Below w.heap.size w wr) := ⟨by rw [← hq_]; exact (by repeat (first | (with_reducible first | exact HB.out | apply below_alloc | apply pw_below_drewN | apply below_drew1) | exact HB.out))⟩; clear HO_3 HO_4 HO_6 HO_7 HB hq_; have HO_3 := n0_; have HO_4 := n1_; have HO_6 := n2_; have HO_7 := n3_; have HB := n4_; clear n0_ n1_ n2_ n3_ n4_)); have p33 : 0 ≤ (x8_2 : Int) := of_decide_eq_true (by first | (with_reducible assumption) | assumption); have q33 : (x8_2 : Int) < ((x7_2.length : Int) : Int) := of_decide_eq_true (by first | (with_reducible assumption) | assumption); obtain ⟨go33, co33, eo33, gb33, gl33, cl33, HG33⟩ := Kd.R_form HO_7.out (by omega); (first | cases eo33 | (injection eo33 with ea_ en_ ec_; (first | subst ea_ | (injection ea_ with ea_; subst ea_)); subst ec_; clear en_)); have GB33 := Aside0.mk gb33; have GG33 := Aside0.mk HG33; clear gb33 gl33 HG33; obtain ⟨hx33_0, hf33_0⟩ := Kd.R_celln false HO_7.out (x8_2 : Int) p33 q33; replace p33 := eq_true p33; replace q33 := eq_true q33; obtain ⟨hy34_, hz34_⟩ := Kd.R_celln false HO_7.out (x8_2 : Int) (of_decide_eq_true (by first | (with_reducible assumption) | assumption)) (of_decide_eq_true (by first | (with_reducible assumption) | assumption)); have HP34 := Kd.R_putg HO_7.out (x8_2 : Int) (decide (t876 > t878))) | ((with_reducible refine gate_store (t := 4) (p := 68) rfl ?_); refine store_event (t := 4) (p := 68) (v := ?vo_w35) (w1 := (wr.setCell ⟨go33, (x8_2 : Int).toNat, none⟩ (.bool (decide (t876 > t878))))) ?hg ?ho ?hn ?hr ?_; (case ho => rfl); (case hg => rfl); (case hn => rfl); (case hr => first | (go_simp; done) | (go_simp; rfl)); intro w35 hw; have hg : wr.grownBy w35 (some go33) := (by rw [hw]; exact HP34.2); have hp_ : Kd.R Kd.bool 4 w35 w.heap.size (fun _ => True) (.slice (some ⟨go33, 0, none⟩) x7_2.length co33) y879 := (by rw [hw, Ny879.out]; exact HP34.1); clear HP34; have n0_ := Aside0.mk (Kd.R_over' (v := (.slice (some ⟨go33, 0, none⟩) x7_2.length co33)) (by (with_reducible repeat (first | apply Kd.R_alloc | apply Kd.R_drewN | apply Kd.R_drew)); exact HO_3.out) (Kd.R_typed HO_7.out) (by decide) hg); have n1_ := Aside0.mk (Kd.R_over' (v := (.slice (some ⟨go33, 0, none⟩) x7_2.length co33)) (by (with_reducible repeat (first | apply Kd.R_alloc | apply Kd.R_drewN | apply Kd.R_drew)); exact HO_4.out) (Kd.R_typed HO_7.out) (by decide) hg); have n2_ := Aside0.mk (Kd.R_over' (v := (.slice (some ⟨go33, 0, none⟩) x7_2.length co33)) (by (with_reducible repeat (first | apply Kd.R_alloc | apply Kd.R_drewN | apply Kd.R_drew)); exact HO_6.out) (Kd.R_typed HO_7.out) (by decide) hg); have n3_ := Aside0.mk (hp_); have n4_ := Aside0.mk ((by rw [hw]; exact below_set (HB.out) GB33.out : Below w.heap.size w w35)); clear HO_3; clear HO_4; clear HO_6; clear HO_7; clear HB; have HO_3 := n0_; have HO_4 := n1_; have HO_6 := n2_; have HO_7 := n3_; have HB := n4_; clear n0_ n1_ n2_ n3_ n4_; clear hg hw hp_))
             go_roundg k2
             case measure => have := HK1.out; have := HK2.out; omega
             case rel => exact ⟨(y879), (wrap64 (x8_2 + 1)), (by first | rfl | (simp; done) | (simp [*]; done)), H', ⟨by have := HK1.out; have := HK2.out; omega⟩, ⟨by (with_reducible repeat (first | apply Kd.R_alloc | apply Kd.R_drewN | apply Kd.R_drew)); exact HO_3.out⟩, ⟨by (with_reducible repeat (first | apply Kd.R_alloc | apply Kd.R_drewN | apply Kd.R_drew)); exact HO_4.out⟩, ⟨by (with_reducible repeat (first | apply Kd.R_alloc | apply Kd.R_drewN | apply Kd.R_drew)); exact HO_6.out⟩, ⟨by (with_reducible repeat (first | apply Kd.R_alloc | apply Kd.R_drewN | apply Kd.R_drew)); exact HO_7.out⟩, ⟨by repeat (first | (with_reducible first | exact HB.out | apply below_alloc | apply pw_below_drewN | apply below_drew1) | exact HB.out)⟩⟩
            ·rw [if_neg c32] at H
             exact absurd H (by simp)
           ·rw [if_neg c29] at H
            exact absurd H (by simp)
          ·rw [if_neg c28] at H
           have c28b0 : decide (x8_2 < (t869.length : Int)) = false := decide_eq_false c28
           clear c28
           replace H := Option.bind_eq_some_iff.mp H
           obtain ⟨t880, A360, H⟩ := H
           replace H : (some t880) = some r := H
           have A36 := Aside0.mk A360
           clear A360
           obtain rfl := Option.some.inj H
           obtain ⟨Ao37, co37, eo37⟩ := Kd.R_slice HO_7.out
           subst eo37
           go_wp2_with (first | ((with_reducible refine gate_callee (f := 97) rfl ?_); refine goesL_ (some 71) rfl rfl Try.func97 (by kernel_rfl) rfl #[.slice Ao25 t869.length co25, .slice Ao37 x7_2.length co37] rfl (by (try simp only [List.map_toArray, List.map_cons, List.map_nil]); first | done | rfl | (simp only [List.length_drop, List.length_take]; rfl)) ?_; (with_reducible refine (redraftref02_joined.calls k2 _ _ t869 _ _ x7_2 t880 _ ?side1 ?side2 ?side3 ?side4 A36.out).mono ?_); (case side1 => repeat (first | exact (Kd.R_reads' HO_6.out).2.2 | (with_reducible refine Kd.C_alloc ?_ _) | (with_reducible refine Kd.C_drewN ?_ _) | (with_reducible refine Kd.C_drew ?_))); (case side2 => exact (Kd.R_reads' HO_6.out).2.1); (case side3 => repeat (first | exact (Kd.R_reads' HO_7.out).2.2 | (with_reducible refine Kd.C_alloc ?_ _) | (with_reducible refine Kd.C_drewN ?_ _) | (with_reducible refine Kd.C_drew ?_))); (case side4 => exact (Kd.R_reads' HO_7.out).2.1); rintro e w38 ⟨v881, rfl, ho0, hb⟩; refine ⟨_, rfl, ?_⟩; have n0_ := Aside0.mk (Kd.R_below (by (with_reducible repeat (first | apply Kd.R_alloc | apply Kd.R_drewN | apply Kd.R_drew)); exact HO_3.out) hb); have n1_ := Aside0.mk (Kd.R_below (by (with_reducible repeat (first | apply Kd.R_alloc | apply Kd.R_drewN | apply Kd.R_drew)); exact HO_4.out) hb); have n2_ := Aside0.mk (Kd.R_below (by (with_reducible repeat (first | apply Kd.R_alloc | apply Kd.R_drewN | apply Kd.R_drew)); exact HO_6.out) hb); have n3_ := Aside0.mk (Kd.R_below (by (with_reducible repeat (first | apply Kd.R_alloc | apply Kd.R_drewN | apply Kd.R_drew)); exact HO_7.out) hb); have n4_ := Aside0.mk (Kd.R_lower ho0 (below_size (by repeat (first | (with_reducible first | exact HB.out | apply below_alloc | apply pw_below_drewN | apply below_drew1) | exact HB.out)))); have n5_ := Aside0.mk (below_step (by repeat (first | (with_reducible first | exact HB.out | apply below_alloc | apply pw_below_drewN | apply below_drew1) | exact HB.out)) hb); clear HO_3; clear HO_4; clear HO_6; clear HO_7; clear HB; have HO_3 := n0_; have HO_4 := n1_; have HO_6 := n2_; have HO_7 := n3_; have HO882 := n4_; have HB := n5_; clear n0_ n1_ n2_ n3_ n4_ n5_; (try clear hb); (try clear hb2); (try clear hk); (try clear hi); (try clear ho0)))
           go_ret
           exact ⟨_, by first | rfl | (simp [errW_none, errW_some] <;> rfl) | (simp [*, errW_none, errW_some] <;> rfl), by (with_reducible repeat (first | apply Kd.R_alloc | apply Kd.R_drewN | apply Kd.R_drew)); exact HO882.out, by repeat (first | (with_reducible first | exact HB.out | apply below_alloc | apply pw_below_drewN | apply below_drew1) | exact HB.out)⟩
       ·rw [if_neg c14] at H
        exact absurd H (by simp)
      ·rw [if_neg c13] at H
       exact absurd H (by simp)
     ·rw [if_neg c11] at H
      exact absurd H (by simp)
    ·rw [if_neg c10] at H
     exact absurd H (by simp)
end Go.Proofs.Ytmidiifgdloojaa.Pr
end
section
namespace Go.Proofs.Ytmidiifgdloojaa.Pr
open Go.RowKit Go.Proofs.YtmidiifgdloojaaW.PrintWords Go.Proofs.YtmidiifgdloojaaW.PrintLast Go.Proofs.YtmidiifgdloojaaW.PrintMore
attribute [local go_sem] max2_int min2_int max_two min_two max_three min_three max_four min_four
set_option linter.unusedVariables false
set_option linter.unusedSimpArgs false
mutual
def redraftref02_Through.j0 : Nat → List (S36) → Int → Int → Bool → Option ((List (S36)) × Int)
 | 0, _, _, _, _ => none
 | k + 1, x0, x1, x2, x35 => if x35 = true then (some (([] : List (S36)), 12)) else (redraftref02_Through.l0 k x0 x1 x2 ([] : List (S36)) 0)
def redraftref02_Through.l0 : Nat → List (S36) → Int → Int → List (S36) → Int → Option ((List (S36)) × Int)
 | 0, _, _, _, _, _ => none
 | k + 1, x0, x1, x2, x10, x11 => if x11 < (x0.length : Int) then (if 0 ≤ x11 then (if ((rd_T36 x0 x11).f0) < x1 then (if x10.length < 8796093022208 then (redraftref02_Through.j2 k x0 x1 x2 (x10 ++ [(⟨(rd_T36 x0 x11).f0, mn ((rd_T36 x0 x11).f1) x1⟩ : S36)]) x11 ((rd_T36 x0 x11).f0) ((rd_T36 x0 x11).f1)) else (none)) else (redraftref02_Through.j2 k x0 x1 x2 x10 x11 ((rd_T36 x0 x11).f0) ((rd_T36 x0 x11).f1))) else (none)) else ((redraftref02_Places.f k x10).bind fun t1062 => ((redraftref02_few.f t1062).bind fun bt1065 => (some (bt1065.1, bt1065.2))))
def redraftref02_Through.j2 : Nat → List (S36) → Int → Int → List (S36) → Int → Int → Int → Option ((List (S36)) × Int)
 | 0, _, _, _, _, _, _, _ => none
 | k + 1, x0, x1, x2, x10, x11, x12, x13 => if x13 > x1 then (if (wrap64 (x13 + x2)) > 1048576 then (some (([] : List (S36)), 24)) else (if x10.length < 8796093022208 then (redraftref02_Through.l0 k x0 x1 x2 (x10 ++ [(⟨wrap64 ((mx x12 x1) + x2), wrap64 (x13 + x2)⟩ : S36)]) (wrap64 (x11 + 1))) else (none))) else (redraftref02_Through.l0 k x0 x1 x2 x10 (wrap64 (x11 + 1)))
end
def redraftref02_Through.f (k : Nat) (l0 : List (S36)) (a1 : Int) (a2 : Int) : Option ((List (S36)) × Int) := (redraftref02_Check.f k l0).bind fun bt1060 => (if bt1060.2 = 0 then (if a1 < 0 then (redraftref02_Through.j0 k l0 a1 a2 true) else (if a2 < 0 then (redraftref02_Through.j0 k l0 a1 a2 true) else (if a1 > 1048576 then (redraftref02_Through.j0 k l0 a1 a2 true) else (redraftref02_Through.j0 k l0 a1 a2 (decide (a2 > 1048576)))))) else (some (([] : List (S36)), bt1060.2)))
theorem redraftref02_Through.mono_l : ∀ k, (∀ y0 y1 y2 y3, LeO (redraftref02_Through.j0 k y0 y1 y2 y3) (redraftref02_Through.j0 (k + 1) y0 y1 y2 y3)) ∧ (∀ y0 y1 y2 y3 y4, LeO (redraftref02_Through.l0 k y0 y1 y2 y3 y4) (redraftref02_Through.l0 (k + 1) y0 y1 y2 y3 y4)) ∧ (∀ y0 y1 y2 y3 y4 y5 y6, LeO (redraftref02_Through.j2 k y0 y1 y2 y3 y4 y5 y6) (redraftref02_Through.j2 (k + 1) y0 y1 y2 y3 y4 y5 y6))
 | 0 => ⟨fun _ _ _ _ r h => by simp [redraftref02_Through.j0] at h, fun _ _ _ _ _ r h => by simp [redraftref02_Through.l0] at h, fun _ _ _ _ _ _ _ r h => by simp [redraftref02_Through.j2] at h⟩
 | k + 1 => by
  obtain ⟨ih0, ih1, ih2⟩ := redraftref02_Through.mono_l k
  refine ⟨?_, ?_, ?_⟩
  ·intro y0 y1 y2 y3
   unfold redraftref02_Through.j0
   repeat' first
   | (with_reducible exact ih0 _ _ _ _)
   | (with_reducible exact ih1 _ _ _ _ _)
   | (with_reducible exact ih2 _ _ _ _ _ _ _)
   | (with_reducible exact redraftref02_Check.mono _ _)
   | (with_reducible exact redraftref02_Places.mono _ _)
   | (with_reducible exact LeO.refl _)
   | (with_reducible exact LeO.none _)
   | (with_reducible refine LeO.ite ?_ ?_)
   | (with_reducible refine LeO.bind ?_ (fun _ => ?_))
   | exact ih0 _ _ _ _
   | exact ih1 _ _ _ _ _
   | exact ih2 _ _ _ _ _ _ _
   | exact redraftref02_Check.mono _ _
   | exact redraftref02_Places.mono _ _
   | exact LeO.none _
   | refine LeO.ite ?_ ?_
   | refine LeO.bind ?_ (fun _ => ?_)
  ·intro y0 y1 y2 y3 y4
   unfold redraftref02_Through.l0
   repeat' first
   | (with_reducible exact ih0 _ _ _ _)
   | (with_reducible exact ih1 _ _ _ _ _)
   | (with_reducible exact ih2 _ _ _ _ _ _ _)
   | (with_reducible exact redraftref02_Check.mono _ _)
   | (with_reducible exact redraftref02_Places.mono _ _)
   | (with_reducible exact LeO.refl _)
   | (with_reducible exact LeO.none _)
   | (with_reducible refine LeO.ite ?_ ?_)
   | (with_reducible refine LeO.bind ?_ (fun _ => ?_))
   | exact ih0 _ _ _ _
   | exact ih1 _ _ _ _ _
   | exact ih2 _ _ _ _ _ _ _
   | exact redraftref02_Check.mono _ _
   | exact redraftref02_Places.mono _ _
   | exact LeO.none _
   | refine LeO.ite ?_ ?_
   | refine LeO.bind ?_ (fun _ => ?_)
  ·intro y0 y1 y2 y3 y4 y5 y6
   unfold redraftref02_Through.j2
   repeat' first
   | (with_reducible exact ih0 _ _ _ _)
   | (with_reducible exact ih1 _ _ _ _ _)
   | (with_reducible exact ih2 _ _ _ _ _ _ _)
   | (with_reducible exact redraftref02_Check.mono _ _)
   | (with_reducible exact redraftref02_Places.mono _ _)
   | (with_reducible exact LeO.refl _)
   | (with_reducible exact LeO.none _)
   | (with_reducible refine LeO.ite ?_ ?_)
   | (with_reducible refine LeO.bind ?_ (fun _ => ?_))
   | exact ih0 _ _ _ _
   | exact ih1 _ _ _ _ _
   | exact ih2 _ _ _ _ _ _ _
   | exact redraftref02_Check.mono _ _
   | exact redraftref02_Places.mono _ _
   | exact LeO.none _
   | refine LeO.ite ?_ ?_
   | refine LeO.bind ?_ (fun _ => ?_)
theorem redraftref02_Through.mono : ∀ a0 a1 a2 k, LeO (redraftref02_Through.f k a0 a1 a2) (redraftref02_Through.f (k + 1) a0 a1 a2) := by
 intro a0 a1 a2 k
 obtain ⟨ih0, ih1, ih2⟩ := redraftref02_Through.mono_l k
 unfold redraftref02_Through.f
 repeat' first
   | (with_reducible exact ih0 _ _ _ _)
   | (with_reducible exact ih1 _ _ _ _ _)
   | (with_reducible exact ih2 _ _ _ _ _ _ _)
   | (with_reducible exact redraftref02_Check.mono _ _)
   | (with_reducible exact redraftref02_Places.mono _ _)
   | (with_reducible exact LeO.refl _)
   | (with_reducible exact LeO.none _)
   | (with_reducible refine LeO.ite ?_ ?_)
   | (with_reducible refine LeO.bind ?_ (fun _ => ?_))
   | exact ih0 _ _ _ _
   | exact ih1 _ _ _ _ _
   | exact ih2 _ _ _ _ _ _ _
   | exact redraftref02_Check.mono _ _
   | exact redraftref02_Places.mono _ _
   | exact LeO.none _
   | refine LeO.ite ?_ ?_
   | refine LeO.bind ?_ (fun _ => ?_)
set_option maxHeartbeats 8000000 in
set_option maxRecDepth 100000 in
theorem redraftref02_Through.calls (k : Nat) (A0 : Option Addr) (c0 : Nat) (l0 : List (S36)) (a1 : Int) (a2 : Int) (r1 : List (S36)) (r2 : Int) (w : World) (hr0 : Kd.C k36 w A0 l0.length l0) (hc0 : l0.length ≤ c0) (h : redraftref02_Through.f k l0 a1 a2 = some (r1, r2)) :
  Calls Try.prog 83 #[.slice A0 l0.length c0, .int .i64 a1, .int .i64 a2] w fun e w' => ∃ v0_ : Value, e = .returned (.tuple #[v0_, .int .i64 r2]) ∧ Kd.R k36 36 w' w.heap.size (fun _ => True) v0_ r1 ∧ Below w.heap.size w w' := by
 have hu36 := Try.underlying36
 have HR0 := Aside0.mk hr0
 have HC0 := Aside0.mk hc0
 clear hr0 hc0
 have HB := Aside0.mk (Below.refl w.heap.size w)
 have H : ((redraftref02_Check.f k l0).bind fun bt1060 => (if bt1060.2 = 0 then (if a1 < 0 then (redraftref02_Through.j0 k l0 a1 a2 true) else (if a2 < 0 then (redraftref02_Through.j0 k l0 a1 a2 true) else (if a1 > 1048576 then (redraftref02_Through.j0 k l0 a1 a2 true) else (redraftref02_Through.j0 k l0 a1 a2 (decide (a2 > 1048576)))))) else (some (([] : List (S36)), bt1060.2)))) = some (r1, r2) := h
 clear h
 replace H := Option.bind_eq_some_iff.mp H
 obtain ⟨⟨t1060, t1061⟩, A40, H⟩ := H
 replace H : (if t1061 = 0 then (if a1 < 0 then (redraftref02_Through.j0 k l0 a1 a2 true) else (if a2 < 0 then (redraftref02_Through.j0 k l0 a1 a2 true) else (if a1 > 1048576 then (redraftref02_Through.j0 k l0 a1 a2 true) else (redraftref02_Through.j0 k l0 a1 a2 (decide (a2 > 1048576)))))) else (some (([] : List (S36)), t1061))) = some (r1, r2) := H
 have A4 := Aside0.mk A40
 clear A40
 by_cases c5 : t1061 = 0
 ·rw [if_pos c5] at H
  have c5b0 : (t1061 == 0) = true := beq_iff_eq.mpr c5
  have c5b1 : (t1061 != 0) = false := bne_eq_false_iff_eq.mpr c5
  clear c5
  have HC6 := Aside0.mk H
  clear H
  go_enter Try.func83, Try.ntmps83
  go_upto_region 4 with (first | ((with_reducible refine gate_callee (f := 54) rfl ?_); refine goesL_ (some 16) rfl rfl Try.func54 (by kernel_rfl) rfl #[.slice A0 l0.length c0] rfl (by (try simp only [List.map_toArray, List.map_cons, List.map_nil]); first | done | rfl | (simp only [List.length_drop, List.length_take]; rfl)) ?_; (with_reducible refine (redraftref02_Check.calls k _ _ l0 t1060 t1061 _ ?side1 ?side2 A4.out).mono ?_); (case side1 => repeat (first | exact HR0.out | (with_reducible refine Kd.C_alloc ?_ _) | (with_reducible refine Kd.C_drewN ?_ _) | (with_reducible refine Kd.C_drew ?_))); (case side2 => exact HC0.out); rintro e w' ⟨rfl, ⟨nd, rfl⟩⟩; refine ⟨_, rfl, ?_⟩))
  (try simp only [Act.put, List.setIfInBounds_toArray, List.set_cons_zero, List.set_cons_succ])
  go_cut [35] (fun v35 wc => ∃ (kq : Nat) (x35_5 : Bool), v35 = .bool x35_5 ∧ Aside0 (redraftref02_Through.j0 kq l0 a1 a2 x35_5 = some (r1, r2)) ∧ Aside0 (kq ≤ k) ∧ Aside0 (Below w.heap.size w wc))
  case first =>
   have H := HC6.out
   clear HC6
   by_cases c7 : a1 < 0
   ·rw [if_pos c7] at H
    have c7b0 : decide (a1 < 0) = true := decide_eq_true c7
    clear c7
    (first | rw [c7b0] | (simp only [i64_w, i32_w]; rw [c7b0]) | skip)
    have H' := Aside0.mk H
    clear H
    go_wp2
    go_meet
    case rel => exact ⟨_, (true), (by first | rfl | (simp; done) | (simp [*]; done)), H', ⟨by first | omega | exact Nat.le_refl _⟩, ⟨by repeat (first | (with_reducible first | exact HB.out | apply below_alloc | apply pw_below_drewN | apply below_drew1) | exact HB.out)⟩⟩
   ·rw [if_neg c7] at H
    have c7b0 : decide (a1 < 0) = false := decide_eq_false c7
    clear c7
    (first | rw [c7b0] | (simp only [i64_w, i32_w]; rw [c7b0]) | skip)
    by_cases c8 : a2 < 0
    ·rw [if_pos c8] at H
     have c8b0 : decide (a2 < 0) = true := decide_eq_true c8
     clear c8
     have H' := Aside0.mk H
     clear H
     go_wp2
     go_meet
     case rel => exact ⟨_, (true), (by first | rfl | (simp; done) | (simp [*]; done)), H', ⟨by first | omega | exact Nat.le_refl _⟩, ⟨by repeat (first | (with_reducible first | exact HB.out | apply below_alloc | apply pw_below_drewN | apply below_drew1) | exact HB.out)⟩⟩
    ·rw [if_neg c8] at H
     have c8b0 : decide (a2 < 0) = false := decide_eq_false c8
     clear c8
     by_cases c9 : a1 > 1048576
     ·rw [if_pos c9] at H
      have c9b0 : decide (1048576 < a1) = true := decide_eq_true c9
      clear c9
      have H' := Aside0.mk H
      clear H
      go_wp2
      go_meet
      case rel => exact ⟨_, (true), (by first | rfl | (simp; done) | (simp [*]; done)), H', ⟨by first | omega | exact Nat.le_refl _⟩, ⟨by repeat (first | (with_reducible first | exact HB.out | apply below_alloc | apply pw_below_drewN | apply below_drew1) | exact HB.out)⟩⟩
     ·rw [if_neg c9] at H
      have c9b0 : decide (1048576 < a1) = false := decide_eq_false c9
      clear c9
      have H' := Aside0.mk H
      clear H
      go_wp2
      go_meet
      case rel => exact ⟨_, (decide (a2 > 1048576)), (by first | rfl | (simp; done) | (simp [*]; done)), H', ⟨by first | omega | exact Nat.le_refl _⟩, ⟨by repeat (first | (with_reducible first | exact HB.out | apply below_alloc | apply pw_below_drewN | apply below_drew1) | exact HB.out)⟩⟩
  case rest =>
   clear HC6
   try clear p2
   try clear c5
   try clear c5b0
   try clear c5b1
   try clear c7
   try clear c7b0
   try clear c8
   try clear c8b0
   try clear c9
   try clear c9b0
   obtain ⟨kq, x35_5, rfl, HA, HJ5, HB⟩ := hcut
   cases kq with
   | zero => exact absurd HA.out (by simp [redraftref02_Through.j0])
   | succ kj5 =>
    have H := HA.out
    clear HA
    simp only [redraftref02_Through.j0] at H
    by_cases c10 : x35_5 = true
    ·subst c10
     have H1 : (some (([] : List (S36)), 12)) = some (r1, r2) := by rw [if_pos rfl] at H; exact H
     clear H
     have H := H1
     clear H1
     simp only [Option.some.injEq, Prod.mk.injEq] at H
     obtain ⟨rfl, rfl⟩ := H
     go_wp2
     go_ret2
     exact ⟨_, by first | rfl | (simp [errW_none, errW_some] <;> rfl) | (simp [*, errW_none, errW_some] <;> rfl), by first | exact Kd.R_nil _ _ _ _ _ | exact Kd.N_nil _ _ _ _ _ | exact Kd.V_nil _ _ _ _ _ | exact Kd.Q_nil _ _ _ _ _ | exact Kd.S_nil _ _ _ _ _, by repeat (first | (with_reducible first | exact HB.out | apply below_alloc | apply pw_below_drewN | apply below_drew1) | exact HB.out)⟩
    ·replace c10 := Bool.eq_false_iff.mpr c10
     subst c10
     have H1 : (redraftref02_Through.l0 kj5 l0 a1 a2 ([] : List (S36)) 0) = some (r1, r2) := by rw [if_neg (show ¬ (false = true) by decide)] at H; exact H
     clear H
     have H := H1
     clear H1
     have H' := Aside0.mk H
     clear H
     go_wp2
     go_loopg [10, 11] kj5 (fun kq v10 v11 w' => ∃ (x10_2 : List (S36)) (x11_2 : Int), v11 = .int .i64 x11_2 ∧ Aside0 (redraftref02_Through.l0 kq l0 a1 a2 x10_2 x11_2 = some (r1, r2)) ∧ Aside0 (kq ≤ kj5) ∧ Aside0 (Kd.R k36 36 w' w.heap.size (fun _ => True) v10 x10_2) ∧ Aside0 (Below w.heap.size w w'))
     case atStart => exact ⟨(([] : List (S36))), (0), (by first | rfl | (simp; done) | (simp [*]; done)), H', ⟨Nat.le_refl _⟩, ⟨by first | exact Kd.R_nil _ _ _ _ _ | exact Kd.N_nil _ _ _ _ _ | exact Kd.V_nil _ _ _ _ _ | exact Kd.Q_nil _ _ _ _ _ | exact Kd.S_nil _ _ _ _ _⟩, ⟨by repeat (first | (with_reducible first | exact HB.out | apply below_alloc | apply pw_below_drewN | apply below_drew1) | exact HB.out)⟩⟩
     case round =>
      clear H'
      try clear c1
      try clear p2
      try clear c5
      try clear c5b0
      try clear c5b1
      try clear c7
      try clear c7b0
      try clear c8
      try clear c8b0
      try clear c9
      try clear c9b0
      try clear c10
      try clear p2
      obtain ⟨x10_2, x11_2, rfl, HA, HK2, HO_10, HB⟩ := hrel
      cases gk with
      | zero => exact absurd HA.out (by simp [redraftref02_Through.l0])
      | succ k2 =>
       have H := HA.out
       clear HA
       simp only [redraftref02_Through.l0] at H
       by_cases c11 : x11_2 < (l0.length : Int)
       ·rw [if_pos c11] at H
        have c11b0 : decide (x11_2 < (l0.length : Int)) = true := decide_eq_true c11
        clear c11
        by_cases c12 : 0 ≤ x11_2
        ·rw [if_pos c12] at H
         have c12b0 : decide (0 ≤ x11_2) = true := decide_eq_true c12
         clear c12
         have HC13 := Aside0.mk H
         clear H
         have p1069 : 0 ≤ (x11_2 : Int) := of_decide_eq_true (by first | (with_reducible assumption) | assumption)
         have q1069 : x11_2 < (l0.length : Int) := of_decide_eq_true (by first | (with_reducible assumption) | assumption)
         obtain ⟨ad1069, e1069, hx1069_0, hx1069_1⟩ := at_T36 HR0.out x11_2 p1069 q1069
         cases e1069
         replace hx1069_0 := (HB.out.cell (World.block_lt_of_cell? w _ hx1069_0)).trans hx1069_0
         replace hx1069_1 := (HB.out.cell (World.block_lt_of_cell? w _ hx1069_1)).trans hx1069_1
         replace p1069 := eq_true p1069
         replace q1069 := eq_true q1069
         have p1070 : 0 ≤ (x11_2 : Int) := of_decide_eq_true (by first | (with_reducible assumption) | assumption)
         have q1070 : x11_2 < (l0.length : Int) := of_decide_eq_true (by first | (with_reducible assumption) | assumption)
         obtain ⟨ad1070, e1070, hx1070_0, hx1070_1⟩ := at_T36 HR0.out x11_2 p1070 q1070
         obtain rfl : ad1069 = ad1070 := (by injection e1070)
         replace hx1070_0 := (HB.out.cell (World.block_lt_of_cell? w _ hx1070_0)).trans hx1070_0
         replace hx1070_1 := (HB.out.cell (World.block_lt_of_cell? w _ hx1070_1)).trans hx1070_1
         replace p1070 := eq_true p1070
         replace q1070 := eq_true q1070
         go_upto_if 54 with (fail)
         go_cut [10] (fun v10 wc => ∃ (kq : Nat) (x10_12 : List (S36)), Aside0 (redraftref02_Through.j2 kq l0 a1 a2 x10_12 x11_2 ((rd_T36 l0 x11_2).f0) ((rd_T36 l0 x11_2).f1) = some (r1, r2)) ∧ Aside0 (kq ≤ k2) ∧ Aside0 (Kd.R k36 36 wc w.heap.size (fun _ => True) v10 x10_12) ∧ Aside0 (Below w.heap.size w wc))
         case first =>
          have H := HC13.out
          clear HC13
          by_cases c14 : ((rd_T36 l0 x11_2).f0) < a1
          ·rw [if_pos c14] at H
           have c14b0 : decide (((rd_T36 l0 x11_2).f0) < a1) = true := decide_eq_true c14
           clear c14
           (first | rw [c14b0] | (simp only [i64_w, i32_w]; rw [c14b0]) | skip)
           obtain ⟨ji15, hji15⟩ : ∃ j_ : Int, (mn ((rd_T36 l0 x11_2).f1) a1) = j_ := ⟨_, rfl⟩
           replace H : (if x10_2.length < 8796093022208 then (redraftref02_Through.j2 k2 l0 a1 a2 (x10_2 ++ [(⟨(rd_T36 l0 x11_2).f0, ji15⟩ : S36)]) x11_2 ((rd_T36 l0 x11_2).f0) ((rd_T36 l0 x11_2).f1)) else (none)) = some (r1, r2) := by first | (rw [hji15] at H; exact H) | (simp only [hji15] at H ⊢; exact H)
           have hji15_ : (if a1 < ((rd_T36 l0 x11_2).f1) then a1 else ((rd_T36 l0 x11_2).f1)) = ji15 := hji15
           by_cases c16 : x10_2.length < 8796093022208
           ·rw [if_pos c16] at H
            have LMc16 := Aside0.mk c16
            clear c16
            obtain ⟨y1071, hy1071⟩ : ∃ y_ : List (S36), y_ = (x10_2 ++ [(⟨(rd_T36 l0 x11_2).f0, ji15⟩ : S36)]) := ⟨_, rfl⟩
            replace H : (redraftref02_Through.j2 k2 l0 a1 a2 y1071 x11_2 ((rd_T36 l0 x11_2).f0) ((rd_T36 l0 x11_2).f1)) = some (r1, r2) := by first | (rw [hy1071]; with_reducible exact H) | (have H2_ := (Option.bind_some _ _).symm.trans H; rw [hy1071]; with_reducible exact H2_) | (have H2_ := (Option.bind_some _ _).symm.trans H; with_reducible exact H2_) | with_reducible exact H | (rw [hy1071]; exact H) | exact H
            have Ny1071 := Aside0.mk hy1071
            clear hy1071
            have H' := Aside0.mk H
            clear H
            go_wp2_with (first | ((with_reducible refine gate_builtin (b := .append) (xs := #[.tmp 55, .tmp 61]) rfl ?_); at_builtin; refine Kd.R_append k36 (w0 := w) w.heap.size rfl (.tmp 55) (.tmp 61) 22 36 (.agg #[(.int .i64 0), (.int .i64 0)]) 16 rfl Try.underlying22 info36 rfl (by decide) (by omega) u10 x10_2 (⟨(rd_T36 l0 x11_2).f0, ji15⟩ : S36) [.int .i64 ((rd_T36 l0 x11_2).f0), .int .i64 ji15] (fun _ => True) (fun _ => False) rfl rfl ?aP (fun _ hk => hk.elim) ?aF ?aO ?aB ?aS ?aL ?_; (case aP => exact k36_mkM _ _ _ (⟨(rd_T36 l0 x11_2).f0, ji15⟩ : S36)); (case aB => exact (by repeat (first | (with_reducible first | exact HB.out | apply below_alloc | apply pw_below_drewN | apply below_drew1) | exact HB.out))); (case aF => exact (fun _ _ => trivial)); (case aO => exact (by (with_reducible repeat (first | apply Kd.R_alloc | apply Kd.R_drewN | apply Kd.R_drew)); exact HO_10.out)); (case aS => exact (below_size (by repeat (first | (with_reducible first | exact HB.out | apply below_alloc | apply pw_below_drewN | apply below_drew1) | exact HB.out)))); (case aL => have := LMc16.out; omega); intro v1072 w17 ho hb hg hat; rw [← Ny1071.out] at ho; have n0_ := Aside0.mk (hb); have n1_ := Aside0.mk (ho); clear HB; clear HO_10; have HB := n0_; have HO1073 := n1_; clear n0_ n1_; clear ho hb hg hat))
            go_meet
            case rel => exact ⟨_, (y1071), H', ⟨by have := HJ5.out; have := HK2.out; first | omega | exact Nat.le_refl _⟩, ⟨by (with_reducible repeat (first | apply Kd.R_alloc | apply Kd.R_drewN | apply Kd.R_drew)); exact HO1073.out⟩, ⟨by repeat (first | (with_reducible first | exact HB.out | apply below_alloc | apply pw_below_drewN | apply below_drew1) | exact HB.out)⟩⟩
           ·rw [if_neg c16] at H
            exact absurd H (by simp)
          ·rw [if_neg c14] at H
           have c14b0 : decide (((rd_T36 l0 x11_2).f0) < a1) = false := decide_eq_false c14
           clear c14
           (first | rw [c14b0] | (simp only [i64_w, i32_w]; rw [c14b0]) | skip)
           have H' := Aside0.mk H
           clear H
           go_wp2
           go_meet
           case rel => exact ⟨_, (x10_2), H', ⟨by have := HJ5.out; have := HK2.out; first | omega | exact Nat.le_refl _⟩, ⟨by (with_reducible repeat (first | apply Kd.R_alloc | apply Kd.R_drewN | apply Kd.R_drew)); exact HO_10.out⟩, ⟨by repeat (first | (with_reducible first | exact HB.out | apply below_alloc | apply pw_below_drewN | apply below_drew1) | exact HB.out)⟩⟩
         case rest =>
          clear HC13
          try clear c1
          try clear p1
          try clear q1
          try clear hx1
          try clear p2
          try clear c5
          try clear c5b0
          try clear c5b1
          try clear c7
          try clear c7b0
          try clear c8
          try clear c8b0
          try clear c9
          try clear c9b0
          try clear c10
          try clear p10
          try clear q10
          try clear hx10
          try clear c11
          try clear c11b0
          try clear c12
          try clear c12b0
          try clear c14
          try clear c14b0
          try clear c16
          try clear hx1069_0
          try clear hx1069_1
          try clear hx1070_0
          try clear hx1070_1
          try clear p1069
          try clear p1070
          try clear p2
          try clear q1069
          try clear q1070
          obtain ⟨kq, x10_12, HA, HJ12, HO_10, HB⟩ := hcut
          cases kq with
          | zero => exact absurd HA.out (by simp [redraftref02_Through.j2])
          | succ kj12 =>
           have H := HA.out
           clear HA
           simp only [redraftref02_Through.j2] at H
           by_cases c18 : ((rd_T36 l0 x11_2).f1) > a1
           ·rw [if_pos c18] at H
            have c18b0 : decide (a1 < ((rd_T36 l0 x11_2).f1)) = true := decide_eq_true c18
            clear c18
            by_cases c19 : (wrap64 (((rd_T36 l0 x11_2).f1) + a2)) > 1048576
            ·rw [if_pos c19] at H
             have c19b0 : decide (1048576 < (wrap64 (((rd_T36 l0 x11_2).f1) + a2))) = true := decide_eq_true c19
             clear c19
             simp only [Option.some.injEq, Prod.mk.injEq] at H
             obtain ⟨rfl, rfl⟩ := H
             go_wp2
             go_ret2
             exact ⟨_, by first | rfl | (simp [errW_none, errW_some] <;> rfl) | (simp [*, errW_none, errW_some] <;> rfl), by first | exact Kd.R_nil _ _ _ _ _ | exact Kd.N_nil _ _ _ _ _ | exact Kd.V_nil _ _ _ _ _ | exact Kd.Q_nil _ _ _ _ _ | exact Kd.S_nil _ _ _ _ _, by repeat (first | (with_reducible first | exact HB.out | apply below_alloc | apply pw_below_drewN | apply below_drew1) | exact HB.out)⟩
            ·rw [if_neg c19] at H
             have c19b0 : decide (1048576 < (wrap64 (((rd_T36 l0 x11_2).f1) + a2))) = false := decide_eq_false c19
             clear c19
             obtain ⟨ji20, hji20⟩ : ∃ j_ : Int, (mx ((rd_T36 l0 x11_2).f0) a1) = j_ := ⟨_, rfl⟩
             replace H : (if x10_12.length < 8796093022208 then (redraftref02_Through.l0 kj12 l0 a1 a2 (x10_12 ++ [(⟨wrap64 ((ji20) + a2), wrap64 (((rd_T36 l0 x11_2).f1) + a2)⟩ : S36)]) (wrap64 (x11_2 + 1))) else (none)) = some (r1, r2) := by first | (rw [hji20] at H; exact H) | (simp only [hji20] at H ⊢; exact H)
             have hji20_ : (if ((rd_T36 l0 x11_2).f0) < a1 then a1 else ((rd_T36 l0 x11_2).f0)) = ji20 := hji20
             by_cases c21 : x10_12.length < 8796093022208
             ·rw [if_pos c21] at H
              have LMc21 := Aside0.mk c21
              clear c21
              obtain ⟨y1074, hy1074⟩ : ∃ y_ : List (S36), y_ = (x10_12 ++ [(⟨wrap64 ((ji20) + a2), wrap64 (((rd_T36 l0 x11_2).f1) + a2)⟩ : S36)]) := ⟨_, rfl⟩
              replace H : (redraftref02_Through.l0 kj12 l0 a1 a2 y1074 (wrap64 (x11_2 + 1))) = some (r1, r2) := by first | (rw [hy1074]; with_reducible exact H) | (have H2_ := (Option.bind_some _ _).symm.trans H; rw [hy1074]; with_reducible exact H2_) | (have H2_ := (Option.bind_some _ _).symm.trans H; with_reducible exact H2_) | with_reducible exact H | (rw [hy1074]; exact H) | exact H
              have Ny1074 := Aside0.mk hy1074
              clear hy1074
              have H' := Aside0.mk H
              clear H
              go_wp2_with (first | ((with_reducible refine gate_builtin (b := .append) (xs := #[.tmp 70, .tmp 80]) rfl ?_); at_builtin; refine Kd.R_append k36 (w0 := w) w.heap.size rfl (.tmp 70) (.tmp 80) 22 36 (.agg #[(.int .i64 0), (.int .i64 0)]) 16 rfl Try.underlying22 info36 rfl (by decide) (by omega) u10 x10_12 (⟨wrap64 ((ji20) + a2), wrap64 (((rd_T36 l0 x11_2).f1) + a2)⟩ : S36) [.int .i64 (wrap64 ((ji20) + a2)), .int .i64 (wrap64 (((rd_T36 l0 x11_2).f1) + a2))] (fun _ => True) (fun _ => False) rfl rfl ?aP (fun _ hk => hk.elim) ?aF ?aO ?aB ?aS ?aL ?_; (case aP => exact k36_mkM _ _ _ (⟨wrap64 ((ji20) + a2), wrap64 (((rd_T36 l0 x11_2).f1) + a2)⟩ : S36)); (case aB => exact (by repeat (first | (with_reducible first | exact HB.out | apply below_alloc | apply pw_below_drewN | apply below_drew1) | exact HB.out))); (case aF => exact (fun _ _ => trivial)); (case aO => exact (by (with_reducible repeat (first | apply Kd.R_alloc | apply Kd.R_drewN | apply Kd.R_drew)); exact HO_10.out)); (case aS => exact (below_size (by repeat (first | (with_reducible first | exact HB.out | apply below_alloc | apply pw_below_drewN | apply below_drew1) | exact HB.out)))); (case aL => have := LMc21.out; omega); intro v1075 w22 ho hb hg hat; rw [← Ny1074.out] at ho; have n0_ := Aside0.mk (hb); have n1_ := Aside0.mk (ho); clear HB; clear HO_10; have HB := n0_; have HO1076 := n1_; clear n0_ n1_; clear ho hb hg hat))
              go_roundg kj12
              case measure => have := HJ5.out; have := HK2.out; have := HJ12.out; omega
              case rel => exact ⟨(y1074), (wrap64 (x11_2 + 1)), (by first | rfl | (simp; done) | (simp [*]; done)), H', ⟨by have := HJ5.out; have := HK2.out; have := HJ12.out; omega⟩, ⟨by (with_reducible repeat (first | apply Kd.R_alloc | apply Kd.R_drewN | apply Kd.R_drew)); exact HO1076.out⟩, ⟨by repeat (first | (with_reducible first | exact HB.out | apply below_alloc | apply pw_below_drewN | apply below_drew1) | exact HB.out)⟩⟩
             ·rw [if_neg c21] at H
              exact absurd H (by simp)
           ·rw [if_neg c18] at H
            have c18b0 : decide (a1 < ((rd_T36 l0 x11_2).f1)) = false := decide_eq_false c18
            clear c18
            have H' := Aside0.mk H
            clear H
            go_wp2
            go_roundg kj12
            case measure => have := HJ5.out; have := HK2.out; have := HJ12.out; omega
            case rel => exact ⟨(x10_12), (wrap64 (x11_2 + 1)), (by first | rfl | (simp; done) | (simp [*]; done)), H', ⟨by have := HJ5.out; have := HK2.out; have := HJ12.out; omega⟩, ⟨by (with_reducible repeat (first | apply Kd.R_alloc | apply Kd.R_drewN | apply Kd.R_drew)); exact HO_10.out⟩, ⟨by repeat (first | (with_reducible first | exact HB.out | apply below_alloc | apply pw_below_drewN | apply below_drew1) | exact HB.out)⟩⟩
        ·rw [if_neg c12] at H
         exact absurd H (by simp)
       ·rw [if_neg c11] at H
        have c11b0 : decide (x11_2 < (l0.length : Int)) = false := decide_eq_false c11
        clear c11
        replace H := Option.bind_eq_some_iff.mp H
        obtain ⟨t1062, A230, H⟩ := H
        replace H : ((redraftref02_few.f t1062).bind fun bt1065 => (some (bt1065.1, bt1065.2))) = some (r1, r2) := H
        have A23 := Aside0.mk A230
        clear A230
        replace H := Option.bind_eq_some_iff.mp H
        obtain ⟨⟨t1065, t1068⟩, A240, H⟩ := H
        replace H : (some (t1065, t1068)) = some (r1, r2) := H
        have A24 := Aside0.mk A240
        clear A240
        simp only [Option.some.injEq, Prod.mk.injEq] at H
        obtain ⟨rfl, rfl⟩ := H
        obtain ⟨Ao25, co25, eo25⟩ := Kd.R_slice HO_10.out
        subst eo25
        go_wp2_with (first | ((with_reducible refine gate_callee (f := 91) rfl ?_); refine goesL_ (some 83) rfl rfl Try.func91 (by kernel_rfl) rfl #[.slice Ao25 x10_2.length co25] rfl (by (try simp only [List.map_toArray, List.map_cons, List.map_nil]); first | done | rfl | (simp only [List.length_drop, List.length_take]; rfl)) ?_; (with_reducible refine (redraftref02_Places.calls k2 _ _ x10_2 t1062 _ ?side1 ?side2 A23.out).mono ?_); (case side1 => repeat (first | exact (Kd.R_reads' HO_10.out).2.2 | (with_reducible refine Kd.C_alloc ?_ _) | (with_reducible refine Kd.C_drewN ?_ _) | (with_reducible refine Kd.C_drew ?_))); (case side2 => exact (Kd.R_reads' HO_10.out).2.1); rintro e w26 ⟨v1063, rfl, ho0, hb⟩; refine ⟨_, rfl, ?_⟩; have n0_ := Aside0.mk (Kd.R_elder' (by (with_reducible repeat (first | apply Kd.R_alloc | apply Kd.R_drewN | apply Kd.R_drew)); exact HO_10.out) (Kd.R_base ho0) hb); have n1_ := Aside0.mk (Kd.R_lower (Kd.R_new' ho0 (Kd.R_lt (by (with_reducible repeat (first | apply Kd.R_alloc | apply Kd.R_drewN | apply Kd.R_drew)); exact HO_10.out))) (below_size (by repeat (first | (with_reducible first | exact HB.out | apply below_alloc | apply pw_below_drewN | apply below_drew1) | exact HB.out)))); have n2_ := Aside0.mk (below_step (by repeat (first | (with_reducible first | exact HB.out | apply below_alloc | apply pw_below_drewN | apply below_drew1) | exact HB.out)) hb); clear HO_10; clear HB; have HO_10 := n0_; have HO1064 := n1_; have HB := n2_; clear n0_ n1_ n2_; (try clear hb); (try clear hb2); (try clear hk); (try clear hi); (try clear ho0); obtain ⟨Ao27, co27, eo27⟩ := Kd.R_slice HO1064.out; subst eo27) | ((with_reducible refine gate_callee (f := 90) rfl ?_); refine goesL_ (some 84) rfl rfl Try.func90 (by kernel_rfl) rfl #[.slice Ao27 t1062.length co27] rfl (by (try simp only [List.map_toArray, List.map_cons, List.map_nil]); first | done | rfl | (simp only [List.length_drop, List.length_take]; rfl)) ?_; (with_reducible refine (redraftref02_few.calls (fun k_ => some k_ = (.slice Ao27 t1062.length co27 : Value).ownBlock) (.slice Ao27 t1062.length co27) t1062 t1065 t1068 w _ ?side1 ?side2 A24.out).mono ?_); (case side1 => repeat (first | (with_reducible first | exact HB.out | apply below_alloc | apply pw_below_drewN | apply below_drew1) | exact HB.out)); (case side2 => exact Kd.R_tight rfl HO1064.out); rintro e w28 ⟨v1066, rfl, ho0, hb, hkp⟩; refine ⟨_, rfl, ?_⟩; have n0_ := Aside0.mk (Kd.R_mono (ok' := fun k_ => some k_ ≠ (v1066 : Value).ownBlock) (Kd.R_keptB (HO_10.out) hkp (fun k_ hk_ hs_ => (hk_.2) hs_)) (fun k_ hk_ => fun e_ => Or.elim (ho0.1 k_ e_.symm) (fun hs_ => hk_.2.1 hs_) (fun hn_ => Nat.not_le.2 hk_.2.2 hn_))); have n1_ := Aside0.mk (Kd.R_mono (ok' := fun k_ => some k_ ≠ (.slice Ao25 x10_2.length co25 : Value).ownBlock) ho0 (fun k_ hk_ => Or.elim hk_ (fun hs_ => fun e_ => (((HO_10.out).1 k_ e_.symm).2) hs_) (fun hn_ => (Kd.fresh' (Kd.R_lt (by (with_reducible repeat (first | apply Kd.R_alloc | apply Kd.R_drewN | apply Kd.R_drew)); exact HO_10.out)) k_ hn_)))); have n2_ := Aside0.mk (hb); clear HO_10; clear HB; clear HO1064; have HO_10 := n0_; have HO1067 := n1_; have HB := n2_; clear n0_ n1_ n2_; (try clear hb); (try clear hkp); (try clear ho0)))
        go_ret2
        exact ⟨_, by first | rfl | (simp [errW_none, errW_some] <;> rfl) | (simp [*, errW_none, errW_some] <;> rfl), by (with_reducible repeat (first | apply Kd.R_alloc | apply Kd.R_drewN | apply Kd.R_drew)); exact Kd.R_mono HO1067.out (fun _ hk => trivial), by repeat (first | (with_reducible first | exact HB.out | apply below_alloc | apply pw_below_drewN | apply below_drew1) | exact HB.out)⟩
 ·rw [if_neg c5] at H
  have c5b0 : (t1061 == 0) = false := beq_eq_false_iff_ne.mpr c5
  have c5b1 : (t1061 != 0) = true := bne_iff_ne.mpr c5
  simp only [Option.some.injEq, Prod.mk.injEq] at H
  obtain ⟨rfl, rfl⟩ := H
  go_enter Try.func83, Try.ntmps83
  go_wp2_with (first | ((with_reducible refine gate_callee (f := 54) rfl ?_); refine goesL_ (some 16) rfl rfl Try.func54 (by kernel_rfl) rfl #[.slice A0 l0.length c0] rfl (by (try simp only [List.map_toArray, List.map_cons, List.map_nil]); first | done | rfl | (simp only [List.length_drop, List.length_take]; rfl)) ?_; (with_reducible refine (redraftref02_Check.calls k _ _ l0 t1060 t1061 _ ?side1 ?side2 A4.out).mono ?_); (case side1 => repeat (first | exact HR0.out | (with_reducible refine Kd.C_alloc ?_ _) | (with_reducible refine Kd.C_drewN ?_ _) | (with_reducible refine Kd.C_drew ?_))); (case side2 => exact HC0.out); rintro e w' ⟨rfl, ⟨nd, rfl⟩⟩; refine ⟨_, rfl, ?_⟩))
  go_ret2
  exact ⟨_, by first | rfl | (simp [errW_none, errW_some] <;> rfl) | (simp [*, errW_none, errW_some] <;> rfl), by first | exact Kd.R_nil _ _ _ _ _ | exact Kd.N_nil _ _ _ _ _ | exact Kd.V_nil _ _ _ _ _ | exact Kd.Q_nil _ _ _ _ _ | exact Kd.S_nil _ _ _ _ _, by repeat (first | (with_reducible first | exact HB.out | apply below_alloc | apply pw_below_drewN | apply below_drew1) | exact HB.out)⟩
end Go.Proofs.Ytmidiifgdloojaa.Pr
end
section
namespace Go.Proofs.Ytmidiifgdloojaa.Pr
open Go.RowKit Go.Proofs.YtmidiifgdloojaaW.PrintWords Go.Proofs.YtmidiifgdloojaaW.PrintLast Go.Proofs.YtmidiifgdloojaaW.PrintMore
attribute [local go_sem] max2_int min2_int max_two min_two max_three min_three max_four min_four
set_option linter.unusedVariables false
set_option linter.unusedSimpArgs false
mutual
def redraftref02_Back.j0 : Nat → List (S36) → Int → Int → Bool → Option ((List (S36)) × (List (S36)) × Int)
 | 0, _, _, _, _ => none
 | k + 1, x0, x1, x2, x43 => if x43 = true then (some (([] : List (S36)), ([] : List (S36)), 12)) else (redraftref02_Back.l0 k x0 x1 x2 ([] : List (S36)) ([] : List (S36)) 0)
def redraftref02_Back.l0 : Nat → List (S36) → Int → Int → List (S36) → List (S36) → Int → Option ((List (S36)) × (List (S36)) × Int)
 | 0, _, _, _, _, _, _ => none
 | k + 1, x0, x1, x2, x11, x12, x13 => if x13 < (x0.length : Int) then (if 0 ≤ x13 then (if ((rd_T36 x0 x13).f0) < x1 then (if x11.length < 8796093022208 then (redraftref02_Back.j2 k x0 x1 x2 (x11 ++ [(⟨(rd_T36 x0 x13).f0, mn ((rd_T36 x0 x13).f1) x1⟩ : S36)]) x12 x13 ((rd_T36 x0 x13).f0) ((rd_T36 x0 x13).f1)) else (none)) else (redraftref02_Back.j2 k x0 x1 x2 x11 x12 x13 ((rd_T36 x0 x13).f0) ((rd_T36 x0 x13).f1))) else (none)) else ((redraftref02_Places.f k x11).bind fun t1079 => ((redraftref02_Places.f k x12).bind fun t1082 => (some (t1079, t1082, 0))))
def redraftref02_Back.j2 : Nat → List (S36) → Int → Int → List (S36) → List (S36) → Int → Int → Int → Option ((List (S36)) × (List (S36)) × Int)
 | 0, _, _, _, _, _, _, _, _ => none
 | k + 1, x0, x1, x2, x11, x12, x13, x14, x15 => if x15 > x1 then (redraftref02_Back.j3 k x0 x1 x2 x11 x12 x13 x14 x15 (decide (x14 < (wrap64 (x1 + x2))))) else (redraftref02_Back.j3 k x0 x1 x2 x11 x12 x13 x14 x15 false)
def redraftref02_Back.j3 : Nat → List (S36) → Int → Int → List (S36) → List (S36) → Int → Int → Int → Bool → Option ((List (S36)) × (List (S36)) × Int)
 | 0, _, _, _, _, _, _, _, _, _ => none
 | k + 1, x0, x1, x2, x11, x12, x13, x14, x15, x80 => if x80 = true then (if x12.length < 8796093022208 then ((some (x12 ++ [(⟨wrap64 ((mx x14 x1) - x1), wrap64 ((mn x15 (wrap64 (x1 + x2))) - x1)⟩ : S36)] : List (S36))).bind fun y1090 => (if x15 > (wrap64 (x1 + x2)) then (if x11.length < 8796093022208 then (redraftref02_Back.l0 k x0 x1 x2 (x11 ++ [(⟨wrap64 ((mx x14 (wrap64 (x1 + x2))) - x2), wrap64 (x15 - x2)⟩ : S36)]) y1090 (wrap64 (x13 + 1))) else (none)) else (redraftref02_Back.l0 k x0 x1 x2 x11 y1090 (wrap64 (x13 + 1))))) else (none)) else (if x15 > (wrap64 (x1 + x2)) then (if x11.length < 8796093022208 then (redraftref02_Back.l0 k x0 x1 x2 (x11 ++ [(⟨wrap64 ((mx x14 (wrap64 (x1 + x2))) - x2), wrap64 (x15 - x2)⟩ : S36)]) x12 (wrap64 (x13 + 1))) else (none)) else (redraftref02_Back.l0 k x0 x1 x2 x11 x12 (wrap64 (x13 + 1))))
end
def redraftref02_Back.f (k : Nat) (l0 : List (S36)) (a1 : Int) (a2 : Int) : Option ((List (S36)) × (List (S36)) × Int) := (redraftref02_Check.f k l0).bind fun bt1077 => (if bt1077.2 = 0 then (if a1 < 0 then (redraftref02_Back.j0 k l0 a1 a2 true) else (if a2 < 0 then (redraftref02_Back.j0 k l0 a1 a2 true) else (if a1 > 1048576 then (redraftref02_Back.j0 k l0 a1 a2 true) else (if a2 > 1048576 then (redraftref02_Back.j0 k l0 a1 a2 true) else (redraftref02_Back.j0 k l0 a1 a2 (decide ((wrap64 (a1 + a2)) > 1048576))))))) else (some (([] : List (S36)), ([] : List (S36)), bt1077.2)))
theorem redraftref02_Back.mono_l : ∀ k, (∀ y0 y1 y2 y3, LeO (redraftref02_Back.j0 k y0 y1 y2 y3) (redraftref02_Back.j0 (k + 1) y0 y1 y2 y3)) ∧ (∀ y0 y1 y2 y3 y4 y5, LeO (redraftref02_Back.l0 k y0 y1 y2 y3 y4 y5) (redraftref02_Back.l0 (k + 1) y0 y1 y2 y3 y4 y5)) ∧ (∀ y0 y1 y2 y3 y4 y5 y6 y7, LeO (redraftref02_Back.j2 k y0 y1 y2 y3 y4 y5 y6 y7) (redraftref02_Back.j2 (k + 1) y0 y1 y2 y3 y4 y5 y6 y7)) ∧ (∀ y0 y1 y2 y3 y4 y5 y6 y7 y8, LeO (redraftref02_Back.j3 k y0 y1 y2 y3 y4 y5 y6 y7 y8) (redraftref02_Back.j3 (k + 1) y0 y1 y2 y3 y4 y5 y6 y7 y8))
 | 0 => ⟨fun _ _ _ _ r h => by simp [redraftref02_Back.j0] at h, fun _ _ _ _ _ _ r h => by simp [redraftref02_Back.l0] at h, fun _ _ _ _ _ _ _ _ r h => by simp [redraftref02_Back.j2] at h, fun _ _ _ _ _ _ _ _ _ r h => by simp [redraftref02_Back.j3] at h⟩
 | k + 1 => by
  obtain ⟨ih0, ih1, ih2, ih3⟩ := redraftref02_Back.mono_l k
  refine ⟨?_, ?_, ?_, ?_⟩
  ·intro y0 y1 y2 y3
   unfold redraftref02_Back.j0
   repeat' first
   | (with_reducible exact ih0 _ _ _ _)
   | (with_reducible exact ih1 _ _ _ _ _ _)
   | (with_reducible exact ih2 _ _ _ _ _ _ _ _)
   | (with_reducible exact ih3 _ _ _ _ _ _ _ _ _)
   | (with_reducible exact redraftref02_Check.mono _ _)
   | (with_reducible exact redraftref02_Places.mono _ _)
   | (with_reducible exact LeO.refl _)
   | (with_reducible exact LeO.none _)
   | (with_reducible refine LeO.ite ?_ ?_)
   | (with_reducible refine LeO.bind ?_ (fun _ => ?_))
   | exact ih0 _ _ _ _
   | exact ih1 _ _ _ _ _ _
   | exact ih2 _ _ _ _ _ _ _ _
   | exact ih3 _ _ _ _ _ _ _ _ _
   | exact redraftref02_Check.mono _ _
   | exact redraftref02_Places.mono _ _
   | exact LeO.none _
   | refine LeO.ite ?_ ?_
   | refine LeO.bind ?_ (fun _ => ?_)
  ·intro y0 y1 y2 y3 y4 y5
   unfold redraftref02_Back.l0
   repeat' first
   | (with_reducible exact ih0 _ _ _ _)
   | (with_reducible exact ih1 _ _ _ _ _ _)
   | (with_reducible exact ih2 _ _ _ _ _ _ _ _)
   | (with_reducible exact ih3 _ _ _ _ _ _ _ _ _)
   | (with_reducible exact redraftref02_Check.mono _ _)
   | (with_reducible exact redraftref02_Places.mono _ _)
   | (with_reducible exact LeO.refl _)
   | (with_reducible exact LeO.none _)
   | (with_reducible refine LeO.ite ?_ ?_)
   | (with_reducible refine LeO.bind ?_ (fun _ => ?_))
   | exact ih0 _ _ _ _
   | exact ih1 _ _ _ _ _ _
   | exact ih2 _ _ _ _ _ _ _ _
   | exact ih3 _ _ _ _ _ _ _ _ _
   | exact redraftref02_Check.mono _ _
   | exact redraftref02_Places.mono _ _
   | exact LeO.none _
   | refine LeO.ite ?_ ?_
   | refine LeO.bind ?_ (fun _ => ?_)
  ·intro y0 y1 y2 y3 y4 y5 y6 y7
   unfold redraftref02_Back.j2
   repeat' first
   | (with_reducible exact ih0 _ _ _ _)
   | (with_reducible exact ih1 _ _ _ _ _ _)
   | (with_reducible exact ih2 _ _ _ _ _ _ _ _)
   | (with_reducible exact ih3 _ _ _ _ _ _ _ _ _)
   | (with_reducible exact redraftref02_Check.mono _ _)
   | (with_reducible exact redraftref02_Places.mono _ _)
   | (with_reducible exact LeO.refl _)
   | (with_reducible exact LeO.none _)
   | (with_reducible refine LeO.ite ?_ ?_)
   | (with_reducible refine LeO.bind ?_ (fun _ => ?_))
   | exact ih0 _ _ _ _
   | exact ih1 _ _ _ _ _ _
   | exact ih2 _ _ _ _ _ _ _ _
   | exact ih3 _ _ _ _ _ _ _ _ _
   | exact redraftref02_Check.mono _ _
   | exact redraftref02_Places.mono _ _
   | exact LeO.none _
   | refine LeO.ite ?_ ?_
   | refine LeO.bind ?_ (fun _ => ?_)
  ·intro y0 y1 y2 y3 y4 y5 y6 y7 y8
   unfold redraftref02_Back.j3
   repeat' first
   | (with_reducible exact ih0 _ _ _ _)
   | (with_reducible exact ih1 _ _ _ _ _ _)
   | (with_reducible exact ih2 _ _ _ _ _ _ _ _)
   | (with_reducible exact ih3 _ _ _ _ _ _ _ _ _)
   | (with_reducible exact redraftref02_Check.mono _ _)
   | (with_reducible exact redraftref02_Places.mono _ _)
   | (with_reducible exact LeO.refl _)
   | (with_reducible exact LeO.none _)
   | (with_reducible refine LeO.ite ?_ ?_)
   | (with_reducible refine LeO.bind ?_ (fun _ => ?_))
   | exact ih0 _ _ _ _
   | exact ih1 _ _ _ _ _ _
   | exact ih2 _ _ _ _ _ _ _ _
   | exact ih3 _ _ _ _ _ _ _ _ _
   | exact redraftref02_Check.mono _ _
   | exact redraftref02_Places.mono _ _
   | exact LeO.none _
   | refine LeO.ite ?_ ?_
   | refine LeO.bind ?_ (fun _ => ?_)
theorem redraftref02_Back.mono : ∀ a0 a1 a2 k, LeO (redraftref02_Back.f k a0 a1 a2) (redraftref02_Back.f (k + 1) a0 a1 a2) := by
 intro a0 a1 a2 k
 obtain ⟨ih0, ih1, ih2, ih3⟩ := redraftref02_Back.mono_l k
 unfold redraftref02_Back.f
 repeat' first
   | (with_reducible exact ih0 _ _ _ _)
   | (with_reducible exact ih1 _ _ _ _ _ _)
   | (with_reducible exact ih2 _ _ _ _ _ _ _ _)
   | (with_reducible exact ih3 _ _ _ _ _ _ _ _ _)
   | (with_reducible exact redraftref02_Check.mono _ _)
   | (with_reducible exact redraftref02_Places.mono _ _)
   | (with_reducible exact LeO.refl _)
   | (with_reducible exact LeO.none _)
   | (with_reducible refine LeO.ite ?_ ?_)
   | (with_reducible refine LeO.bind ?_ (fun _ => ?_))
   | exact ih0 _ _ _ _
   | exact ih1 _ _ _ _ _ _
   | exact ih2 _ _ _ _ _ _ _ _
   | exact ih3 _ _ _ _ _ _ _ _ _
   | exact redraftref02_Check.mono _ _
   | exact redraftref02_Places.mono _ _
   | exact LeO.none _
   | refine LeO.ite ?_ ?_
   | refine LeO.bind ?_ (fun _ => ?_)
set_option maxHeartbeats 8000000 in
set_option maxRecDepth 100000 in
theorem redraftref02_Back.calls (k : Nat) (A0 : Option Addr) (c0 : Nat) (l0 : List (S36)) (a1 : Int) (a2 : Int) (r1 : List (S36)) (r2 : List (S36)) (r3 : Int) (w : World) (hr0 : Kd.C k36 w A0 l0.length l0) (hc0 : l0.length ≤ c0) (h : redraftref02_Back.f k l0 a1 a2 = some (r1, r2, r3)) :
  Calls Try.prog 84 #[.slice A0 l0.length c0, .int .i64 a1, .int .i64 a2] w fun e w' => ∃ v0_ v1_ : Value, e = .returned (.tuple #[v0_, v1_, .int .i64 r3]) ∧ Kd.R k36 36 w' w.heap.size (fun k_ => some k_ ≠ (v1_ : Value).ownBlock) v0_ r1 ∧ Kd.R k36 36 w' w.heap.size (fun k_ => some k_ ≠ (v0_ : Value).ownBlock) v1_ r2 ∧ Below w.heap.size w w' := by
 have hu36 := Try.underlying36
 have HR0 := Aside0.mk hr0
 have HC0 := Aside0.mk hc0
 clear hr0 hc0
 have HB := Aside0.mk (Below.refl w.heap.size w)
 have H : ((redraftref02_Check.f k l0).bind fun bt1077 => (if bt1077.2 = 0 then (if a1 < 0 then (redraftref02_Back.j0 k l0 a1 a2 true) else (if a2 < 0 then (redraftref02_Back.j0 k l0 a1 a2 true) else (if a1 > 1048576 then (redraftref02_Back.j0 k l0 a1 a2 true) else (if a2 > 1048576 then (redraftref02_Back.j0 k l0 a1 a2 true) else (redraftref02_Back.j0 k l0 a1 a2 (decide ((wrap64 (a1 + a2)) > 1048576))))))) else (some (([] : List (S36)), ([] : List (S36)), bt1077.2)))) = some (r1, r2, r3) := h
 clear h
 replace H := Option.bind_eq_some_iff.mp H
 obtain ⟨⟨t1077, t1078⟩, A40, H⟩ := H
 replace H : (if t1078 = 0 then (if a1 < 0 then (redraftref02_Back.j0 k l0 a1 a2 true) else (if a2 < 0 then (redraftref02_Back.j0 k l0 a1 a2 true) else (if a1 > 1048576 then (redraftref02_Back.j0 k l0 a1 a2 true) else (if a2 > 1048576 then (redraftref02_Back.j0 k l0 a1 a2 true) else (redraftref02_Back.j0 k l0 a1 a2 (decide ((wrap64 (a1 + a2)) > 1048576))))))) else (some (([] : List (S36)), ([] : List (S36)), t1078))) = some (r1, r2, r3) := H
 have A4 := Aside0.mk A40
 clear A40
 by_cases c5 : t1078 = 0
 ·rw [if_pos c5] at H
  have c5b0 : (t1078 == 0) = true := beq_iff_eq.mpr c5
  have c5b1 : (t1078 != 0) = false := bne_eq_false_iff_eq.mpr c5
  clear c5
  have HC6 := Aside0.mk H
  clear H
  go_enter Try.func84, Try.ntmps84
  go_upto_region 4 with (first | ((with_reducible refine gate_callee (f := 54) rfl ?_); refine goesL_ (some 18) rfl rfl Try.func54 (by kernel_rfl) rfl #[.slice A0 l0.length c0] rfl (by (try simp only [List.map_toArray, List.map_cons, List.map_nil]); first | done | rfl | (simp only [List.length_drop, List.length_take]; rfl)) ?_; (with_reducible refine (redraftref02_Check.calls k _ _ l0 t1077 t1078 _ ?side1 ?side2 A4.out).mono ?_); (case side1 => repeat (first | exact HR0.out | (with_reducible refine Kd.C_alloc ?_ _) | (with_reducible refine Kd.C_drewN ?_ _) | (with_reducible refine Kd.C_drew ?_))); (case side2 => exact HC0.out); rintro e w' ⟨rfl, ⟨nd, rfl⟩⟩; refine ⟨_, rfl, ?_⟩))
  (try simp only [Act.put, List.setIfInBounds_toArray, List.set_cons_zero, List.set_cons_succ])
  go_cut [43] (fun v43 wc => ∃ (kq : Nat) (x43_5 : Bool), v43 = .bool x43_5 ∧ Aside0 (redraftref02_Back.j0 kq l0 a1 a2 x43_5 = some (r1, r2, r3)) ∧ Aside0 (kq ≤ k) ∧ Aside0 (Below w.heap.size w wc))
  case first =>
   have H := HC6.out
   clear HC6
   by_cases c7 : a1 < 0
   ·rw [if_pos c7] at H
    have c7b0 : decide (a1 < 0) = true := decide_eq_true c7
    clear c7
    (first | rw [c7b0] | (simp only [i64_w, i32_w]; rw [c7b0]) | skip)
    have H' := Aside0.mk H
    clear H
    go_wp2
    go_meet
    case rel => exact ⟨_, (true), (by first | rfl | (simp; done) | (simp [*]; done)), H', ⟨by first | omega | exact Nat.le_refl _⟩, ⟨by repeat (first | (with_reducible first | exact HB.out | apply below_alloc | apply pw_below_drewN | apply below_drew1) | exact HB.out)⟩⟩
   ·rw [if_neg c7] at H
    have c7b0 : decide (a1 < 0) = false := decide_eq_false c7
    clear c7
    (first | rw [c7b0] | (simp only [i64_w, i32_w]; rw [c7b0]) | skip)
    by_cases c8 : a2 < 0
    ·rw [if_pos c8] at H
     have c8b0 : decide (a2 < 0) = true := decide_eq_true c8
     clear c8
     have H' := Aside0.mk H
     clear H
     go_wp2
     go_meet
     case rel => exact ⟨_, (true), (by first | rfl | (simp; done) | (simp [*]; done)), H', ⟨by first | omega | exact Nat.le_refl _⟩, ⟨by repeat (first | (with_reducible first | exact HB.out | apply below_alloc | apply pw_below_drewN | apply below_drew1) | exact HB.out)⟩⟩
    ·rw [if_neg c8] at H
     have c8b0 : decide (a2 < 0) = false := decide_eq_false c8
     clear c8
     by_cases c9 : a1 > 1048576
     ·rw [if_pos c9] at H
      have c9b0 : decide (1048576 < a1) = true := decide_eq_true c9
      clear c9
      have H' := Aside0.mk H
      clear H
      go_wp2
      go_meet
      case rel => exact ⟨_, (true), (by first | rfl | (simp; done) | (simp [*]; done)), H', ⟨by first | omega | exact Nat.le_refl _⟩, ⟨by repeat (first | (with_reducible first | exact HB.out | apply below_alloc | apply pw_below_drewN | apply below_drew1) | exact HB.out)⟩⟩
     ·rw [if_neg c9] at H
      have c9b0 : decide (1048576 < a1) = false := decide_eq_false c9
      clear c9
      by_cases c10 : a2 > 1048576
      ·rw [if_pos c10] at H
       have c10b0 : decide (1048576 < a2) = true := decide_eq_true c10
       clear c10
       have H' := Aside0.mk H
       clear H
       go_wp2
       go_meet
       case rel => exact ⟨_, (true), (by first | rfl | (simp; done) | (simp [*]; done)), H', ⟨by first | omega | exact Nat.le_refl _⟩, ⟨by repeat (first | (with_reducible first | exact HB.out | apply below_alloc | apply pw_below_drewN | apply below_drew1) | exact HB.out)⟩⟩
      ·rw [if_neg c10] at H
       have c10b0 : decide (1048576 < a2) = false := decide_eq_false c10
       clear c10
       have H' := Aside0.mk H
       clear H
       go_wp2
       go_meet
       case rel => exact ⟨_, (decide ((wrap64 (a1 + a2)) > 1048576)), (by first | rfl | (simp; done) | (simp [*]; done)), H', ⟨by first | omega | exact Nat.le_refl _⟩, ⟨by repeat (first | (with_reducible first | exact HB.out | apply below_alloc | apply pw_below_drewN | apply below_drew1) | exact HB.out)⟩⟩
  case rest =>
   clear HC6
   try clear c1
   try clear p2
   try clear c5
   try clear c5b0
   try clear c5b1
   try clear p6
   try clear c7
   try clear c7b0
   try clear c8
   try clear c8b0
   try clear c9
   try clear c9b0
   try clear c10
   try clear c10b0
   obtain ⟨kq, x43_5, rfl, HA, HJ5, HB⟩ := hcut
   cases kq with
   | zero => exact absurd HA.out (by simp [redraftref02_Back.j0])
   | succ kj5 =>
    have H := HA.out
    clear HA
    simp only [redraftref02_Back.j0] at H
    by_cases c11 : x43_5 = true
    ·subst c11
     have H1 : (some (([] : List (S36)), ([] : List (S36)), 12)) = some (r1, r2, r3) := by rw [if_pos rfl] at H; exact H
     clear H
     have H := H1
     clear H1
     simp only [Option.some.injEq, Prod.mk.injEq] at H
     obtain ⟨rfl, rfl, rfl⟩ := H
     go_wp2
     go_ret3
     exact ⟨_, _, by first | rfl | (simp [errW_none, errW_some] <;> rfl) | (simp [*, errW_none, errW_some] <;> rfl), by first | exact Kd.R_nil _ _ _ _ _ | exact Kd.N_nil _ _ _ _ _ | exact Kd.V_nil _ _ _ _ _ | exact Kd.Q_nil _ _ _ _ _ | exact Kd.S_nil _ _ _ _ _, by first | exact Kd.R_nil _ _ _ _ _ | exact Kd.N_nil _ _ _ _ _ | exact Kd.V_nil _ _ _ _ _ | exact Kd.Q_nil _ _ _ _ _ | exact Kd.S_nil _ _ _ _ _, by repeat (first | (with_reducible first | exact HB.out | apply below_alloc | apply pw_below_drewN | apply below_drew1) | exact HB.out)⟩
    ·replace c11 := Bool.eq_false_iff.mpr c11
     subst c11
     have H1 : (redraftref02_Back.l0 kj5 l0 a1 a2 ([] : List (S36)) ([] : List (S36)) 0) = some (r1, r2, r3) := by rw [if_neg (show ¬ (false = true) by decide)] at H; exact H
     clear H
     have H := H1
     clear H1
     have H' := Aside0.mk H
     clear H
     go_wp2
     go_loopg [11, 12, 13] kj5 (fun kq v11 v12 v13 w' => ∃ (x11_2 : List (S36)) (x12_2 : List (S36)) (x13_2 : Int), v13 = .int .i64 x13_2 ∧ Aside0 (redraftref02_Back.l0 kq l0 a1 a2 x11_2 x12_2 x13_2 = some (r1, r2, r3)) ∧ Aside0 (kq ≤ kj5) ∧ Aside0 (Kd.R k36 36 w' w.heap.size (fun k_ => some k_ ≠ (v12 : Value).ownBlock) v11 x11_2) ∧ Aside0 (Kd.R k36 36 w' w.heap.size (fun k_ => some k_ ≠ (v11 : Value).ownBlock) v12 x12_2) ∧ Aside0 (Below w.heap.size w w'))
     case atStart => exact ⟨(([] : List (S36))), (([] : List (S36))), (0), (by first | rfl | (simp; done) | (simp [*]; done)), H', ⟨Nat.le_refl _⟩, ⟨by first | exact Kd.R_nil _ _ _ _ _ | exact Kd.N_nil _ _ _ _ _ | exact Kd.V_nil _ _ _ _ _ | exact Kd.Q_nil _ _ _ _ _ | exact Kd.S_nil _ _ _ _ _⟩, ⟨by first | exact Kd.R_nil _ _ _ _ _ | exact Kd.N_nil _ _ _ _ _ | exact Kd.V_nil _ _ _ _ _ | exact Kd.Q_nil _ _ _ _ _ | exact Kd.S_nil _ _ _ _ _⟩, ⟨by repeat (first | (with_reducible first | exact HB.out | apply below_alloc | apply pw_below_drewN | apply below_drew1) | exact HB.out)⟩⟩
     case round =>
      clear H'
      try clear c1
      try clear p2
      try clear c5
      try clear c5b0
      try clear c5b1
      try clear p6
      try clear c7
      try clear c7b0
      try clear c8
      try clear c8b0
      try clear c9
      try clear c9b0
      try clear c10
      try clear c10b0
      try clear c11
      try clear p2
      try clear p6
      obtain ⟨x11_2, x12_2, x13_2, rfl, HA, HK2, HO_11, HO_12, HB⟩ := hrel
      cases gk with
      | zero => exact absurd HA.out (by simp [redraftref02_Back.l0])
      | succ k2 =>
       have H := HA.out
       clear HA
       simp only [redraftref02_Back.l0] at H
       by_cases c12 : x13_2 < (l0.length : Int)
       ·rw [if_pos c12] at H
        have c12b0 : decide (x13_2 < (l0.length : Int)) = true := decide_eq_true c12
        clear c12
        by_cases c13 : 0 ≤ x13_2
        ·rw [if_pos c13] at H
         have c13b0 : decide (0 ≤ x13_2) = true := decide_eq_true c13
         clear c13
         have HC14 := Aside0.mk H
         clear H
         have p1085 : 0 ≤ (x13_2 : Int) := of_decide_eq_true (by first | (with_reducible assumption) | assumption)
         have q1085 : x13_2 < (l0.length : Int) := of_decide_eq_true (by first | (with_reducible assumption) | assumption)
         obtain ⟨ad1085, e1085, hx1085_0, hx1085_1⟩ := at_T36 HR0.out x13_2 p1085 q1085
         cases e1085
         replace hx1085_0 := (HB.out.cell (World.block_lt_of_cell? w _ hx1085_0)).trans hx1085_0
         replace hx1085_1 := (HB.out.cell (World.block_lt_of_cell? w _ hx1085_1)).trans hx1085_1
         replace p1085 := eq_true p1085
         replace q1085 := eq_true q1085
         have p1086 : 0 ≤ (x13_2 : Int) := of_decide_eq_true (by first | (with_reducible assumption) | assumption)
         have q1086 : x13_2 < (l0.length : Int) := of_decide_eq_true (by first | (with_reducible assumption) | assumption)
         obtain ⟨ad1086, e1086, hx1086_0, hx1086_1⟩ := at_T36 HR0.out x13_2 p1086 q1086
         obtain rfl : ad1085 = ad1086 := (by injection e1086)
         replace hx1086_0 := (HB.out.cell (World.block_lt_of_cell? w _ hx1086_0)).trans hx1086_0
         replace hx1086_1 := (HB.out.cell (World.block_lt_of_cell? w _ hx1086_1)).trans hx1086_1
         replace p1086 := eq_true p1086
         replace q1086 := eq_true q1086
         go_upto_if 62 with (fail)
         go_cut [11] (fun v11 wc => ∃ (kq : Nat) (x11_13 : List (S36)), Aside0 (redraftref02_Back.j2 kq l0 a1 a2 x11_13 x12_2 x13_2 ((rd_T36 l0 x13_2).f0) ((rd_T36 l0 x13_2).f1) = some (r1, r2, r3)) ∧ Aside0 (kq ≤ k2) ∧ Aside0 (Kd.R k36 36 wc w.heap.size (fun k_ => some k_ ≠ (u12 : Value).ownBlock) v11 x11_13) ∧ Aside0 (Kd.R k36 36 wc w.heap.size (fun k_ => some k_ ≠ (v11 : Value).ownBlock) u12 x12_2) ∧ Aside0 (Below w.heap.size w wc))
         case first =>
          have H := HC14.out
          clear HC14
          by_cases c15 : ((rd_T36 l0 x13_2).f0) < a1
          ·rw [if_pos c15] at H
           have c15b0 : decide (((rd_T36 l0 x13_2).f0) < a1) = true := decide_eq_true c15
           clear c15
           (first | rw [c15b0] | (simp only [i64_w, i32_w]; rw [c15b0]) | skip)
           obtain ⟨ji16, hji16⟩ : ∃ j_ : Int, (mn ((rd_T36 l0 x13_2).f1) a1) = j_ := ⟨_, rfl⟩
           replace H : (if x11_2.length < 8796093022208 then (redraftref02_Back.j2 k2 l0 a1 a2 (x11_2 ++ [(⟨(rd_T36 l0 x13_2).f0, ji16⟩ : S36)]) x12_2 x13_2 ((rd_T36 l0 x13_2).f0) ((rd_T36 l0 x13_2).f1)) else (none)) = some (r1, r2, r3) := by first | (rw [hji16] at H; exact H) | (simp only [hji16] at H ⊢; exact H)
           have hji16_ : (if a1 < ((rd_T36 l0 x13_2).f1) then a1 else ((rd_T36 l0 x13_2).f1)) = ji16 := hji16
           by_cases c17 : x11_2.length < 8796093022208
           ·rw [if_pos c17] at H
            have LMc17 := Aside0.mk c17
            clear c17
            obtain ⟨y1087, hy1087⟩ : ∃ y_ : List (S36), y_ = (x11_2 ++ [(⟨(rd_T36 l0 x13_2).f0, ji16⟩ : S36)]) := ⟨_, rfl⟩
            replace H : (redraftref02_Back.j2 k2 l0 a1 a2 y1087 x12_2 x13_2 ((rd_T36 l0 x13_2).f0) ((rd_T36 l0 x13_2).f1)) = some (r1, r2, r3) := by first | (rw [hy1087]; with_reducible exact H) | (have H2_ := (Option.bind_some _ _).symm.trans H; rw [hy1087]; with_reducible exact H2_) | (have H2_ := (Option.bind_some _ _).symm.trans H; with_reducible exact H2_) | with_reducible exact H | (rw [hy1087]; exact H) | exact H
            have Ny1087 := Aside0.mk hy1087
            clear hy1087
            have H' := Aside0.mk H
            clear H
            go_wp2_with (first | ((with_reducible refine gate_builtin (b := .append) (xs := #[.tmp 63, .tmp 69]) rfl ?_); at_builtin; refine Kd.R_append k36 (w0 := w) w.heap.size rfl (.tmp 63) (.tmp 69) 22 36 (.agg #[(.int .i64 0), (.int .i64 0)]) 16 rfl Try.underlying22 info36 rfl (by decide) (by omega) u11 x11_2 (⟨(rd_T36 l0 x13_2).f0, ji16⟩ : S36) [.int .i64 ((rd_T36 l0 x13_2).f0), .int .i64 ji16] (fun k_ => some k_ ≠ (u12 : Value).ownBlock) (fun _ => False) rfl rfl ?aP (fun _ hk => hk.elim) ?aF ?aO ?aB ?aS ?aL ?_; (case aP => exact k36_mkM _ _ _ (⟨(rd_T36 l0 x13_2).f0, ji16⟩ : S36)); (case aB => exact (by repeat (first | (with_reducible first | exact HB.out | apply below_alloc | apply pw_below_drewN | apply below_drew1) | exact HB.out))); (case aF => exact (fun k_ hk => Kd.fresh' (Kd.R_lt (by (with_reducible repeat (first | apply Kd.R_alloc | apply Kd.R_drewN | apply Kd.R_drew)); exact HO_12.out)) k_ hk)); (case aO => exact (by (with_reducible repeat (first | apply Kd.R_alloc | apply Kd.R_drewN | apply Kd.R_drew)); exact HO_11.out)); (case aS => exact (below_size (by repeat (first | (with_reducible first | exact HB.out | apply below_alloc | apply pw_below_drewN | apply below_drew1) | exact HB.out)))); (case aL => have := LMc17.out; omega); intro v1088 w18 ho hb hg hat; rw [← Ny1087.out] at ho; have n0_ := Aside0.mk (Kd.R_after (ok := (fun _ => True)) (by (with_reducible repeat (first | apply Kd.R_alloc | apply Kd.R_drewN | apply Kd.R_drew)); exact Kd.R_mono HO_12.out (fun _ hk => ⟨trivial, hk⟩)) hg hat); have n1_ := Aside0.mk (hb); have n2_ := Aside0.mk (ho); clear HO_12; clear HB; clear HO_11; have HO_12 := n0_; have HB := n1_; have HO1089 := n2_; clear n0_ n1_ n2_; clear ho hb hg hat))
            go_meet
            case rel => exact ⟨_, (y1087), H', ⟨by have := HJ5.out; have := HK2.out; first | omega | exact Nat.le_refl _⟩, ⟨by (with_reducible repeat (first | apply Kd.R_alloc | apply Kd.R_drewN | apply Kd.R_drew)); exact HO1089.out⟩, ⟨by (with_reducible repeat (first | apply Kd.R_alloc | apply Kd.R_drewN | apply Kd.R_drew)); exact Kd.R_mono HO_12.out (fun _ hk => hk.2)⟩, ⟨by repeat (first | (with_reducible first | exact HB.out | apply below_alloc | apply pw_below_drewN | apply below_drew1) | exact HB.out)⟩⟩
           ·rw [if_neg c17] at H
            exact absurd H (by simp)
          ·rw [if_neg c15] at H
           have c15b0 : decide (((rd_T36 l0 x13_2).f0) < a1) = false := decide_eq_false c15
           clear c15
           (first | rw [c15b0] | (simp only [i64_w, i32_w]; rw [c15b0]) | skip)
           have H' := Aside0.mk H
           clear H
           go_wp2
           go_meet
           case rel => exact ⟨_, (x11_2), H', ⟨by have := HJ5.out; have := HK2.out; first | omega | exact Nat.le_refl _⟩, ⟨by (with_reducible repeat (first | apply Kd.R_alloc | apply Kd.R_drewN | apply Kd.R_drew)); exact HO_11.out⟩, ⟨by (with_reducible repeat (first | apply Kd.R_alloc | apply Kd.R_drewN | apply Kd.R_drew)); exact HO_12.out⟩, ⟨by repeat (first | (with_reducible first | exact HB.out | apply below_alloc | apply pw_below_drewN | apply below_drew1) | exact HB.out)⟩⟩
         case rest =>
          clear HC14
          try clear c1
          try clear p1
          try clear q1
          try clear hx1
          try clear p2
          try clear c5
          try clear c5b0
          try clear c5b1
          try clear p6
          try clear c7
          try clear c7b0
          try clear c8
          try clear c8b0
          try clear c9
          try clear c9b0
          try clear c10
          try clear c10b0
          try clear p10
          try clear q10
          try clear hx10
          try clear c11
          try clear c12
          try clear c12b0
          try clear c13
          try clear c13b0
          try clear c15
          try clear c15b0
          try clear c17
          try clear hx1085_0
          try clear hx1085_1
          try clear hx1086_0
          try clear hx1086_1
          try clear p1085
          try clear p1086
          try clear p2
          try clear p6
          try clear q1085
          try clear q1086
          obtain ⟨kq, x11_13, HA, HJ13, HO_11, HO_12, HB⟩ := hcut
          cases kq with
          | zero => exact absurd HA.out (by simp [redraftref02_Back.j2])
          | succ kj13 =>
           have H := HA.out
           clear HA
           simp only [redraftref02_Back.j2] at H
           have HC19 := Aside0.mk H
           clear H
           go_upto_region 15 with (fail)
           go_cut [80] (fun v80 wc => ∃ (kq : Nat) (x80_18 : Bool), v80 = .bool x80_18 ∧ Aside0 (redraftref02_Back.j3 kq l0 a1 a2 x11_13 x12_2 x13_2 ((rd_T36 l0 x13_2).f0) ((rd_T36 l0 x13_2).f1) x80_18 = some (r1, r2, r3)) ∧ Aside0 (kq ≤ kj13) ∧ Aside0 (Kd.R k36 36 wc w.heap.size (fun k_ => some k_ ≠ (u12 : Value).ownBlock) u11 x11_13) ∧ Aside0 (Kd.R k36 36 wc w.heap.size (fun k_ => some k_ ≠ (u11 : Value).ownBlock) u12 x12_2) ∧ Aside0 (Below w.heap.size w wc))
           case first =>
            have H := HC19.out
            clear HC19
            by_cases c20 : ((rd_T36 l0 x13_2).f1) > a1
            ·rw [if_pos c20] at H
             have c20b0 : decide (a1 < ((rd_T36 l0 x13_2).f1)) = true := decide_eq_true c20
             clear c20
             (first | rw [c20b0] | (simp only [i64_w, i32_w]; rw [c20b0]) | skip)
             have H' := Aside0.mk H
             clear H
             go_wp2
             go_meet
             case rel => exact ⟨_, (decide (((rd_T36 l0 x13_2).f0) < (wrap64 (a1 + a2)))), (by first | rfl | (simp; done) | (simp [*]; done)), H', ⟨by have := HJ5.out; have := HK2.out; have := HJ13.out; first | omega | exact Nat.le_refl _⟩, ⟨by (with_reducible repeat (first | apply Kd.R_alloc | apply Kd.R_drewN | apply Kd.R_drew)); exact HO_11.out⟩, ⟨by (with_reducible repeat (first | apply Kd.R_alloc | apply Kd.R_drewN | apply Kd.R_drew)); exact HO_12.out⟩, ⟨by repeat (first | (with_reducible first | exact HB.out | apply below_alloc | apply pw_below_drewN | apply below_drew1) | exact HB.out)⟩⟩
            ·rw [if_neg c20] at H
             have c20b0 : decide (a1 < ((rd_T36 l0 x13_2).f1)) = false := decide_eq_false c20
             clear c20
             (first | rw [c20b0] | (simp only [i64_w, i32_w]; rw [c20b0]) | skip)
             have H' := Aside0.mk H
             clear H
             go_wp2
             go_meet
             case rel => exact ⟨_, (false), (by first | rfl | (simp; done) | (simp [*]; done)), H', ⟨by have := HJ5.out; have := HK2.out; have := HJ13.out; first | omega | exact Nat.le_refl _⟩, ⟨by (with_reducible repeat (first | apply Kd.R_alloc | apply Kd.R_drewN | apply Kd.R_drew)); exact HO_11.out⟩, ⟨by (with_reducible repeat (first | apply Kd.R_alloc | apply Kd.R_drewN | apply Kd.R_drew)); exact HO_12.out⟩, ⟨by repeat (first | (with_reducible first | exact HB.out | apply below_alloc | apply pw_below_drewN | apply below_drew1) | exact HB.out)⟩⟩
           case rest =>
            clear HC19
            try clear c1
            try clear p1
            try clear q1
            try clear hx1
            try clear c2
            try clear p2
            try clear c5
            try clear c5b0
            try clear c5b1
            try clear p6
            try clear c7
            try clear c7b0
            try clear c8
            try clear c8b0
            try clear c9
            try clear c9b0
            try clear c10
            try clear c10b0
            try clear p10
            try clear q10
            try clear hx10
            try clear c11
            try clear c12
            try clear c12b0
            try clear c13
            try clear c13b0
            try clear c15
            try clear c15b0
            try clear c17
            try clear c20
            try clear c20b0
            try clear hx1085_0
            try clear hx1085_1
            try clear hx1086_0
            try clear hx1086_1
            try clear p1
            try clear p10
            try clear p1085
            try clear p1086
            try clear p2
            try clear p6
            try clear q1
            try clear q10
            try clear q1085
            try clear q1086
            obtain ⟨kq, x80_18, rfl, HA, HJ18, HO_11, HO_12, HB⟩ := hcut
            cases kq with
            | zero => exact absurd HA.out (by simp [redraftref02_Back.j3])
            | succ kj18 =>
             have H := HA.out
             clear HA
             simp only [redraftref02_Back.j3] at H
             by_cases c21 : x80_18 = true
             ·subst c21
              have H1 : (if x12_2.length < 8796093022208 then ((some (x12_2 ++ [(⟨wrap64 ((mx ((rd_T36 l0 x13_2).f0) a1) - a1), wrap64 ((mn ((rd_T36 l0 x13_2).f1) (wrap64 (a1 + a2))) - a1)⟩ : S36)] : List (S36))).bind fun y1090 => (if ((rd_T36 l0 x13_2).f1) > (wrap64 (a1 + a2)) then (if x11_13.length < 8796093022208 then (redraftref02_Back.l0 kj18 l0 a1 a2 (x11_13 ++ [(⟨wrap64 ((mx ((rd_T36 l0 x13_2).f0) (wrap64 (a1 + a2))) - a2), wrap64 (((rd_T36 l0 x13_2).f1) - a2)⟩ : S36)]) y1090 (wrap64 (x13_2 + 1))) else (none)) else (redraftref02_Back.l0 kj18 l0 a1 a2 x11_13 y1090 (wrap64 (x13_2 + 1))))) else (none)) = some (r1, r2, r3) := by rw [if_pos rfl] at H; exact H
              clear H
              have H := H1
              clear H1
              obtain ⟨ji22, hji22⟩ : ∃ j_ : Int, (mx ((rd_T36 l0 x13_2).f0) a1) = j_ := ⟨_, rfl⟩
              replace H : (if x12_2.length < 8796093022208 then ((some (x12_2 ++ [(⟨wrap64 ((ji22) - a1), wrap64 ((mn ((rd_T36 l0 x13_2).f1) (wrap64 (a1 + a2))) - a1)⟩ : S36)] : List (S36))).bind fun y1090 => (if ((rd_T36 l0 x13_2).f1) > (wrap64 (a1 + a2)) then (if x11_13.length < 8796093022208 then (redraftref02_Back.l0 kj18 l0 a1 a2 (x11_13 ++ [(⟨wrap64 ((mx ((rd_T36 l0 x13_2).f0) (wrap64 (a1 + a2))) - a2), wrap64 (((rd_T36 l0 x13_2).f1) - a2)⟩ : S36)]) y1090 (wrap64 (x13_2 + 1))) else (none)) else (redraftref02_Back.l0 kj18 l0 a1 a2 x11_13 y1090 (wrap64 (x13_2 + 1))))) else (none)) = some (r1, r2, r3) := by first | (rw [hji22] at H; exact H) | (simp only [hji22] at H ⊢; exact H)
              have hji22_ : (if ((rd_T36 l0 x13_2).f0) < a1 then a1 else ((rd_T36 l0 x13_2).f0)) = ji22 := hji22
              obtain ⟨ji23, hji23⟩ : ∃ j_ : Int, (mn ((rd_T36 l0 x13_2).f1) (wrap64 (a1 + a2))) = j_ := ⟨_, rfl⟩
              replace H : (if x12_2.length < 8796093022208 then ((some (x12_2 ++ [(⟨wrap64 ((ji22) - a1), wrap64 ((ji23) - a1)⟩ : S36)] : List (S36))).bind fun y1090 => (if ((rd_T36 l0 x13_2).f1) > (wrap64 (a1 + a2)) then (if x11_13.length < 8796093022208 then (redraftref02_Back.l0 kj18 l0 a1 a2 (x11_13 ++ [(⟨wrap64 ((mx ((rd_T36 l0 x13_2).f0) (wrap64 (a1 + a2))) - a2), wrap64 (((rd_T36 l0 x13_2).f1) - a2)⟩ : S36)]) y1090 (wrap64 (x13_2 + 1))) else (none)) else (redraftref02_Back.l0 kj18 l0 a1 a2 x11_13 y1090 (wrap64 (x13_2 + 1))))) else (none)) = some (r1, r2, r3) := by first | (rw [hji23] at H; exact H) | (simp only [hji23] at H ⊢; exact H)
              have hji23_ : (if (wrap64 (a1 + a2)) < ((rd_T36 l0 x13_2).f1) then (wrap64 (a1 + a2)) else ((rd_T36 l0 x13_2).f1)) = ji23 := hji23
              by_cases c24 : x12_2.length < 8796093022208
              ·rw [if_pos c24] at H
               have LMc24 := Aside0.mk c24
               clear c24
               obtain ⟨y1090, hy1090⟩ : ∃ y_ : List (S36), y_ = (x12_2 ++ [(⟨wrap64 ((ji22) - a1), wrap64 ((ji23) - a1)⟩ : S36)]) := ⟨_, rfl⟩
               replace H : (if ((rd_T36 l0 x13_2).f1) > (wrap64 (a1 + a2)) then (if x11_13.length < 8796093022208 then (redraftref02_Back.l0 kj18 l0 a1 a2 (x11_13 ++ [(⟨wrap64 ((mx ((rd_T36 l0 x13_2).f0) (wrap64 (a1 + a2))) - a2), wrap64 (((rd_T36 l0 x13_2).f1) - a2)⟩ : S36)]) y1090 (wrap64 (x13_2 + 1))) else (none)) else (redraftref02_Back.l0 kj18 l0 a1 a2 x11_13 y1090 (wrap64 (x13_2 + 1)))) = some (r1, r2, r3) := by first | (rw [hy1090]; with_reducible exact H) | (have H2_ := (Option.bind_some _ _).symm.trans H; rw [hy1090]; with_reducible exact H2_) | (have H2_ := (Option.bind_some _ _).symm.trans H; with_reducible exact H2_) | with_reducible exact H | (rw [hy1090]; exact H) | exact H
               have Ny1090 := Aside0.mk hy1090
               clear hy1090
               by_cases c25 : ((rd_T36 l0 x13_2).f1) > (wrap64 (a1 + a2))
               ·rw [if_pos c25] at H
                have c25b0 : decide ((wrap64 (a1 + a2)) < ((rd_T36 l0 x13_2).f1)) = true := decide_eq_true c25
                clear c25
                obtain ⟨ji26, hji26⟩ : ∃ j_ : Int, (mx ((rd_T36 l0 x13_2).f0) (wrap64 (a1 + a2))) = j_ := ⟨_, rfl⟩
                replace H : (if x11_13.length < 8796093022208 then (redraftref02_Back.l0 kj18 l0 a1 a2 (x11_13 ++ [(⟨wrap64 ((ji26) - a2), wrap64 (((rd_T36 l0 x13_2).f1) - a2)⟩ : S36)]) y1090 (wrap64 (x13_2 + 1))) else (none)) = some (r1, r2, r3) := by first | (rw [hji26] at H; exact H) | (simp only [hji26] at H ⊢; exact H)
                have hji26_ : (if ((rd_T36 l0 x13_2).f0) < (wrap64 (a1 + a2)) then (wrap64 (a1 + a2)) else ((rd_T36 l0 x13_2).f0)) = ji26 := hji26
                by_cases c27 : x11_13.length < 8796093022208
                ·rw [if_pos c27] at H
                 have LMc27 := Aside0.mk c27
                 clear c27
                 obtain ⟨y1093, hy1093⟩ : ∃ y_ : List (S36), y_ = (x11_13 ++ [(⟨wrap64 ((ji26) - a2), wrap64 (((rd_T36 l0 x13_2).f1) - a2)⟩ : S36)]) := ⟨_, rfl⟩
                 replace H : (redraftref02_Back.l0 kj18 l0 a1 a2 y1093 y1090 (wrap64 (x13_2 + 1))) = some (r1, r2, r3) := by first | (rw [hy1093]; with_reducible exact H) | (have H2_ := (Option.bind_some _ _).symm.trans H; rw [hy1093]; with_reducible exact H2_) | (have H2_ := (Option.bind_some _ _).symm.trans H; with_reducible exact H2_) | with_reducible exact H | (rw [hy1093]; exact H) | exact H
                 have Ny1093 := Aside0.mk hy1093
                 clear hy1093
                 have H' := Aside0.mk H
                 clear H
                 go_wp2_with (first | ((with_reducible refine gate_builtin (b := .append) (xs := #[.tmp 81, .tmp 95]) rfl ?_); at_builtin; refine Kd.R_append k36 (w0 := w) w.heap.size rfl (.tmp 81) (.tmp 95) 22 36 (.agg #[(.int .i64 0), (.int .i64 0)]) 16 rfl Try.underlying22 info36 rfl (by decide) (by omega) u12 x12_2 (⟨wrap64 ((ji22) - a1), wrap64 ((ji23) - a1)⟩ : S36) [.int .i64 (wrap64 ((ji22) - a1)), .int .i64 (wrap64 ((ji23) - a1))] (fun k_ => some k_ ≠ (u11 : Value).ownBlock) (fun _ => False) rfl rfl ?aP (fun _ hk => hk.elim) ?aF ?aO ?aB ?aS ?aL ?_; (case aP => exact k36_mkM _ _ _ (⟨wrap64 ((ji22) - a1), wrap64 ((ji23) - a1)⟩ : S36)); (case aB => exact (by repeat (first | (with_reducible first | exact HB.out | apply below_alloc | apply pw_below_drewN | apply below_drew1) | exact HB.out))); (case aF => exact (fun k_ hk => Kd.fresh' (Kd.R_lt (by (with_reducible repeat (first | apply Kd.R_alloc | apply Kd.R_drewN | apply Kd.R_drew)); exact HO_11.out)) k_ hk)); (case aO => exact (by (with_reducible repeat (first | apply Kd.R_alloc | apply Kd.R_drewN | apply Kd.R_drew)); exact HO_12.out)); (case aS => exact (below_size (by repeat (first | (with_reducible first | exact HB.out | apply below_alloc | apply pw_below_drewN | apply below_drew1) | exact HB.out)))); (case aL => have := LMc24.out; omega); intro v1091 w28 ho hb hg hat; rw [← Ny1090.out] at ho; have n0_ := Aside0.mk (Kd.R_after (ok := (fun _ => True)) (by (with_reducible repeat (first | apply Kd.R_alloc | apply Kd.R_drewN | apply Kd.R_drew)); exact Kd.R_mono HO_11.out (fun _ hk => ⟨trivial, hk⟩)) hg hat); have n1_ := Aside0.mk (hb); have n2_ := Aside0.mk (ho); clear HO_11; clear HB; clear HO_12; have HO_11 := n0_; have HB := n1_; have HO1092 := n2_; clear n0_ n1_ n2_; clear ho hb hg hat) | ((with_reducible refine gate_builtin (b := .append) (xs := #[.tmp 102, .tmp 114]) rfl ?_); at_builtin; refine Kd.R_append k36 (w0 := w) w.heap.size rfl (.tmp 102) (.tmp 114) 22 36 (.agg #[(.int .i64 0), (.int .i64 0)]) 16 rfl Try.underlying22 info36 rfl (by decide) (by omega) u11 x11_13 (⟨wrap64 ((ji26) - a2), wrap64 (((rd_T36 l0 x13_2).f1) - a2)⟩ : S36) [.int .i64 (wrap64 ((ji26) - a2)), .int .i64 (wrap64 (((rd_T36 l0 x13_2).f1) - a2))] (fun k_ => some k_ ≠ (v1091 : Value).ownBlock) (fun _ => False) rfl rfl ?aP (fun _ hk => hk.elim) ?aF ?aO ?aB ?aS ?aL ?_; (case aP => exact k36_mkM _ _ _ (⟨wrap64 ((ji26) - a2), wrap64 (((rd_T36 l0 x13_2).f1) - a2)⟩ : S36)); (case aB => exact (by repeat (first | (with_reducible first | exact HB.out | apply below_alloc | apply pw_below_drewN | apply below_drew1) | exact HB.out))); (case aF => exact (fun k_ hk => Kd.fresh' (Kd.R_lt (by (with_reducible repeat (first | apply Kd.R_alloc | apply Kd.R_drewN | apply Kd.R_drew)); exact HO1092.out)) k_ hk)); (case aO => exact (by (with_reducible repeat (first | apply Kd.R_alloc | apply Kd.R_drewN | apply Kd.R_drew)); exact Kd.R_mono HO_11.out (fun _ hk => hk.2))); (case aS => exact (below_size (by repeat (first | (with_reducible first | exact HB.out | apply below_alloc | apply pw_below_drewN | apply below_drew1) | exact HB.out)))); (case aL => have := LMc27.out; omega); intro v1094 w29 ho hb hg hat; rw [← Ny1093.out] at ho; have n0_ := Aside0.mk (Kd.R_after (ok := (fun _ => True)) (by (with_reducible repeat (first | apply Kd.R_alloc | apply Kd.R_drewN | apply Kd.R_drew)); exact Kd.R_mono HO1092.out (fun _ hk => ⟨trivial, hk⟩)) hg hat); have n1_ := Aside0.mk (hb); have n2_ := Aside0.mk (ho); clear HO1092; clear HB; clear HO_11; have HO1092 := n0_; have HB := n1_; have HO1095 := n2_; clear n0_ n1_ n2_; clear ho hb hg hat))
                 go_roundg kj18
                 case measure => have := HJ5.out; have := HK2.out; have := HJ13.out; have := HJ18.out; omega
                 case rel => exact ⟨(y1093), (y1090), (wrap64 (x13_2 + 1)), (by first | rfl | (simp; done) | (simp [*]; done)), H', ⟨by have := HJ5.out; have := HK2.out; have := HJ13.out; have := HJ18.out; omega⟩, ⟨by (with_reducible repeat (first | apply Kd.R_alloc | apply Kd.R_drewN | apply Kd.R_drew)); exact HO1095.out⟩, ⟨by (with_reducible repeat (first | apply Kd.R_alloc | apply Kd.R_drewN | apply Kd.R_drew)); exact Kd.R_mono HO1092.out (fun _ hk => hk.2)⟩, ⟨by repeat (first | (with_reducible first | exact HB.out | apply below_alloc | apply pw_below_drewN | apply below_drew1) | exact HB.out)⟩⟩
                ·rw [if_neg c27] at H
                 exact absurd H (by simp)
               ·rw [if_neg c25] at H
                have c25b0 : decide ((wrap64 (a1 + a2)) < ((rd_T36 l0 x13_2).f1)) = false := decide_eq_false c25
                clear c25
                have H' := Aside0.mk H
                clear H
                go_wp2_with (first | ((with_reducible refine gate_builtin (b := .append) (xs := #[.tmp 81, .tmp 95]) rfl ?_); at_builtin; refine Kd.R_append k36 (w0 := w) w.heap.size rfl (.tmp 81) (.tmp 95) 22 36 (.agg #[(.int .i64 0), (.int .i64 0)]) 16 rfl Try.underlying22 info36 rfl (by decide) (by omega) u12 x12_2 (⟨wrap64 ((ji22) - a1), wrap64 ((ji23) - a1)⟩ : S36) [.int .i64 (wrap64 ((ji22) - a1)), .int .i64 (wrap64 ((ji23) - a1))] (fun k_ => some k_ ≠ (u11 : Value).ownBlock) (fun _ => False) rfl rfl ?aP (fun _ hk => hk.elim) ?aF ?aO ?aB ?aS ?aL ?_; (case aP => exact k36_mkM _ _ _ (⟨wrap64 ((ji22) - a1), wrap64 ((ji23) - a1)⟩ : S36)); (case aB => exact (by repeat (first | (with_reducible first | exact HB.out | apply below_alloc | apply pw_below_drewN | apply below_drew1) | exact HB.out))); (case aF => exact (fun k_ hk => Kd.fresh' (Kd.R_lt (by (with_reducible repeat (first | apply Kd.R_alloc | apply Kd.R_drewN | apply Kd.R_drew)); exact HO_11.out)) k_ hk)); (case aO => exact (by (with_reducible repeat (first | apply Kd.R_alloc | apply Kd.R_drewN | apply Kd.R_drew)); exact HO_12.out)); (case aS => exact (below_size (by repeat (first | (with_reducible first | exact HB.out | apply below_alloc | apply pw_below_drewN | apply below_drew1) | exact HB.out)))); (case aL => have := LMc24.out; omega); intro v1091 w30 ho hb hg hat; rw [← Ny1090.out] at ho; have n0_ := Aside0.mk (Kd.R_after (ok := (fun _ => True)) (by (with_reducible repeat (first | apply Kd.R_alloc | apply Kd.R_drewN | apply Kd.R_drew)); exact Kd.R_mono HO_11.out (fun _ hk => ⟨trivial, hk⟩)) hg hat); have n1_ := Aside0.mk (hb); have n2_ := Aside0.mk (ho); clear HO_11; clear HB; clear HO_12; have HO_11 := n0_; have HB := n1_; have HO1092 := n2_; clear n0_ n1_ n2_; clear ho hb hg hat))
                go_roundg kj18
                case measure => have := HJ5.out; have := HK2.out; have := HJ13.out; have := HJ18.out; omega
                case rel => exact ⟨(x11_13), (y1090), (wrap64 (x13_2 + 1)), (by first | rfl | (simp; done) | (simp [*]; done)), H', ⟨by have := HJ5.out; have := HK2.out; have := HJ13.out; have := HJ18.out; omega⟩, ⟨by (with_reducible repeat (first | apply Kd.R_alloc | apply Kd.R_drewN | apply Kd.R_drew)); exact Kd.R_mono HO_11.out (fun _ hk => hk.2)⟩, ⟨by (with_reducible repeat (first | apply Kd.R_alloc | apply Kd.R_drewN | apply Kd.R_drew)); exact HO1092.out⟩, ⟨by repeat (first | (with_reducible first | exact HB.out | apply below_alloc | apply pw_below_drewN | apply below_drew1) | exact HB.out)⟩⟩
              ·rw [if_neg c24] at H
               exact absurd H (by simp)
             ·replace c21 := Bool.eq_false_iff.mpr c21
              subst c21
              have H1 : (if ((rd_T36 l0 x13_2).f1) > (wrap64 (a1 + a2)) then (if x11_13.length < 8796093022208 then (redraftref02_Back.l0 kj18 l0 a1 a2 (x11_13 ++ [(⟨wrap64 ((mx ((rd_T36 l0 x13_2).f0) (wrap64 (a1 + a2))) - a2), wrap64 (((rd_T36 l0 x13_2).f1) - a2)⟩ : S36)]) x12_2 (wrap64 (x13_2 + 1))) else (none)) else (redraftref02_Back.l0 kj18 l0 a1 a2 x11_13 x12_2 (wrap64 (x13_2 + 1)))) = some (r1, r2, r3) := by rw [if_neg (show ¬ (false = true) by decide)] at H; exact H
              clear H
              have H := H1
              clear H1
              by_cases c31 : ((rd_T36 l0 x13_2).f1) > (wrap64 (a1 + a2))
              ·rw [if_pos c31] at H
               have c31b0 : decide ((wrap64 (a1 + a2)) < ((rd_T36 l0 x13_2).f1)) = true := decide_eq_true c31
               clear c31
               obtain ⟨ji32, hji32⟩ : ∃ j_ : Int, (mx ((rd_T36 l0 x13_2).f0) (wrap64 (a1 + a2))) = j_ := ⟨_, rfl⟩
               replace H : (if x11_13.length < 8796093022208 then (redraftref02_Back.l0 kj18 l0 a1 a2 (x11_13 ++ [(⟨wrap64 ((ji32) - a2), wrap64 (((rd_T36 l0 x13_2).f1) - a2)⟩ : S36)]) x12_2 (wrap64 (x13_2 + 1))) else (none)) = some (r1, r2, r3) := by first | (rw [hji32] at H; exact H) | (simp only [hji32] at H ⊢; exact H)
               have hji32_ : (if ((rd_T36 l0 x13_2).f0) < (wrap64 (a1 + a2)) then (wrap64 (a1 + a2)) else ((rd_T36 l0 x13_2).f0)) = ji32 := hji32
               by_cases c33 : x11_13.length < 8796093022208
               ·rw [if_pos c33] at H
                have LMc33 := Aside0.mk c33
                clear c33
                obtain ⟨y1096, hy1096⟩ : ∃ y_ : List (S36), y_ = (x11_13 ++ [(⟨wrap64 ((ji32) - a2), wrap64 (((rd_T36 l0 x13_2).f1) - a2)⟩ : S36)]) := ⟨_, rfl⟩
                replace H : (redraftref02_Back.l0 kj18 l0 a1 a2 y1096 x12_2 (wrap64 (x13_2 + 1))) = some (r1, r2, r3) := by first | (rw [hy1096]; with_reducible exact H) | (have H2_ := (Option.bind_some _ _).symm.trans H; rw [hy1096]; with_reducible exact H2_) | (have H2_ := (Option.bind_some _ _).symm.trans H; with_reducible exact H2_) | with_reducible exact H | (rw [hy1096]; exact H) | exact H
                have Ny1096 := Aside0.mk hy1096
                clear hy1096
                have H' := Aside0.mk H
                clear H
                go_wp2_with (first | ((with_reducible refine gate_builtin (b := .append) (xs := #[.tmp 102, .tmp 114]) rfl ?_); at_builtin; refine Kd.R_append k36 (w0 := w) w.heap.size rfl (.tmp 102) (.tmp 114) 22 36 (.agg #[(.int .i64 0), (.int .i64 0)]) 16 rfl Try.underlying22 info36 rfl (by decide) (by omega) u11 x11_13 (⟨wrap64 ((ji32) - a2), wrap64 (((rd_T36 l0 x13_2).f1) - a2)⟩ : S36) [.int .i64 (wrap64 ((ji32) - a2)), .int .i64 (wrap64 (((rd_T36 l0 x13_2).f1) - a2))] (fun k_ => some k_ ≠ (u12 : Value).ownBlock) (fun _ => False) rfl rfl ?aP (fun _ hk => hk.elim) ?aF ?aO ?aB ?aS ?aL ?_; (case aP => exact k36_mkM _ _ _ (⟨wrap64 ((ji32) - a2), wrap64 (((rd_T36 l0 x13_2).f1) - a2)⟩ : S36)); (case aB => exact (by repeat (first | (with_reducible first | exact HB.out | apply below_alloc | apply pw_below_drewN | apply below_drew1) | exact HB.out))); (case aF => exact (fun k_ hk => Kd.fresh' (Kd.R_lt (by (with_reducible repeat (first | apply Kd.R_alloc | apply Kd.R_drewN | apply Kd.R_drew)); exact HO_12.out)) k_ hk)); (case aO => exact (by (with_reducible repeat (first | apply Kd.R_alloc | apply Kd.R_drewN | apply Kd.R_drew)); exact HO_11.out)); (case aS => exact (below_size (by repeat (first | (with_reducible first | exact HB.out | apply below_alloc | apply pw_below_drewN | apply below_drew1) | exact HB.out)))); (case aL => have := LMc33.out; omega); intro v1097 w34 ho hb hg hat; rw [← Ny1096.out] at ho; have n0_ := Aside0.mk (Kd.R_after (ok := (fun _ => True)) (by (with_reducible repeat (first | apply Kd.R_alloc | apply Kd.R_drewN | apply Kd.R_drew)); exact Kd.R_mono HO_12.out (fun _ hk => ⟨trivial, hk⟩)) hg hat); have n1_ := Aside0.mk (hb); have n2_ := Aside0.mk (ho); clear HO_12; clear HB; clear HO_11; have HO_12 := n0_; have HB := n1_; have HO1098 := n2_; clear n0_ n1_ n2_; clear ho hb hg hat))
                go_roundg kj18
                case measure => have := HJ5.out; have := HK2.out; have := HJ13.out; have := HJ18.out; omega
                case rel => exact ⟨(y1096), (x12_2), (wrap64 (x13_2 + 1)), (by first | rfl | (simp; done) | (simp [*]; done)), H', ⟨by have := HJ5.out; have := HK2.out; have := HJ13.out; have := HJ18.out; omega⟩, ⟨by (with_reducible repeat (first | apply Kd.R_alloc | apply Kd.R_drewN | apply Kd.R_drew)); exact HO1098.out⟩, ⟨by (with_reducible repeat (first | apply Kd.R_alloc | apply Kd.R_drewN | apply Kd.R_drew)); exact Kd.R_mono HO_12.out (fun _ hk => hk.2)⟩, ⟨by repeat (first | (with_reducible first | exact HB.out | apply below_alloc | apply pw_below_drewN | apply below_drew1) | exact HB.out)⟩⟩
               ·rw [if_neg c33] at H
                exact absurd H (by simp)
              ·rw [if_neg c31] at H
               have c31b0 : decide ((wrap64 (a1 + a2)) < ((rd_T36 l0 x13_2).f1)) = false := decide_eq_false c31
               clear c31
               have H' := Aside0.mk H
               clear H
               go_wp2
               go_roundg kj18
               case measure => have := HJ5.out; have := HK2.out; have := HJ13.out; have := HJ18.out; omega
               case rel => exact ⟨(x11_13), (x12_2), (wrap64 (x13_2 + 1)), (by first | rfl | (simp; done) | (simp [*]; done)), H', ⟨by have := HJ5.out; have := HK2.out; have := HJ13.out; have := HJ18.out; omega⟩, ⟨by (with_reducible repeat (first | apply Kd.R_alloc | apply Kd.R_drewN | apply Kd.R_drew)); exact HO_11.out⟩, ⟨by (with_reducible repeat (first | apply Kd.R_alloc | apply Kd.R_drewN | apply Kd.R_drew)); exact HO_12.out⟩, ⟨by repeat (first | (with_reducible first | exact HB.out | apply below_alloc | apply pw_below_drewN | apply below_drew1) | exact HB.out)⟩⟩
        ·rw [if_neg c13] at H
         exact absurd H (by simp)
       ·rw [if_neg c12] at H
        have c12b0 : decide (x13_2 < (l0.length : Int)) = false := decide_eq_false c12
        clear c12
        replace H := Option.bind_eq_some_iff.mp H
        obtain ⟨t1079, A350, H⟩ := H
        replace H : ((redraftref02_Places.f k2 x12_2).bind fun t1082 => (some (t1079, t1082, 0))) = some (r1, r2, r3) := H
        have A35 := Aside0.mk A350
        clear A350
        replace H := Option.bind_eq_some_iff.mp H
        obtain ⟨t1082, A360, H⟩ := H
        replace H : (some (t1079, t1082, 0)) = some (r1, r2, r3) := H
        have A36 := Aside0.mk A360
        clear A360
        simp only [Option.some.injEq, Prod.mk.injEq] at H
        obtain ⟨rfl, rfl, rfl⟩ := H
        obtain ⟨Ao37, co37, eo37⟩ := Kd.R_slice HO_11.out
        subst eo37
        go_wp2_with (first | ((with_reducible refine gate_callee (f := 91) rfl ?_); refine goesL_ (some 117) rfl rfl Try.func91 (by kernel_rfl) rfl #[.slice Ao37 x11_2.length co37] rfl (by (try simp only [List.map_toArray, List.map_cons, List.map_nil]); first | done | rfl | (simp only [List.length_drop, List.length_take]; rfl)) ?_; (with_reducible refine (redraftref02_Places.calls k2 _ _ x11_2 t1079 _ ?side1 ?side2 A35.out).mono ?_); (case side1 => repeat (first | exact (Kd.R_reads' HO_11.out).2.2 | (with_reducible refine Kd.C_alloc ?_ _) | (with_reducible refine Kd.C_drewN ?_ _) | (with_reducible refine Kd.C_drew ?_))); (case side2 => exact (Kd.R_reads' HO_11.out).2.1); rintro e w38 ⟨v1080, rfl, ho0, hb⟩; refine ⟨_, rfl, ?_⟩; have n0_ := Aside0.mk (Kd.R_elder' (by (with_reducible repeat (first | apply Kd.R_alloc | apply Kd.R_drewN | apply Kd.R_drew)); exact HO_11.out) (Kd.R_base ho0) hb); have n1_ := Aside0.mk (Kd.R_elder' (by (with_reducible repeat (first | apply Kd.R_alloc | apply Kd.R_drewN | apply Kd.R_drew)); exact HO_12.out) (Kd.R_base ho0) hb); have n2_ := Aside0.mk (Kd.R_lower (Kd.R_new' (Kd.R_new' ho0 (Kd.R_lt (by (with_reducible repeat (first | apply Kd.R_alloc | apply Kd.R_drewN | apply Kd.R_drew)); exact HO_11.out))) (Kd.R_lt (by (with_reducible repeat (first | apply Kd.R_alloc | apply Kd.R_drewN | apply Kd.R_drew)); exact HO_12.out))) (below_size (by repeat (first | (with_reducible first | exact HB.out | apply below_alloc | apply pw_below_drewN | apply below_drew1) | exact HB.out)))); have n3_ := Aside0.mk (below_step (by repeat (first | (with_reducible first | exact HB.out | apply below_alloc | apply pw_below_drewN | apply below_drew1) | exact HB.out)) hb); clear HO_11; clear HO_12; clear HB; have HO_11 := n0_; have HO_12 := n1_; have HO1081 := n2_; have HB := n3_; clear n0_ n1_ n2_ n3_; (try clear hb); (try clear hb2); (try clear hk); (try clear hi); (try clear ho0); obtain ⟨Ao39, co39, eo39⟩ := Kd.R_slice HO_12.out; subst eo39) | ((with_reducible refine gate_callee (f := 91) rfl ?_); refine goesL_ (some 119) rfl rfl Try.func91 (by kernel_rfl) rfl #[.slice Ao39 x12_2.length co39] rfl (by (try simp only [List.map_toArray, List.map_cons, List.map_nil]); first | done | rfl | (simp only [List.length_drop, List.length_take]; rfl)) ?_; (with_reducible refine (redraftref02_Places.calls k2 _ _ x12_2 t1082 _ ?side1 ?side2 A36.out).mono ?_); (case side1 => repeat (first | exact (Kd.R_reads' HO_12.out).2.2 | (with_reducible refine Kd.C_alloc ?_ _) | (with_reducible refine Kd.C_drewN ?_ _) | (with_reducible refine Kd.C_drew ?_))); (case side2 => exact (Kd.R_reads' HO_12.out).2.1); rintro e w40 ⟨v1083, rfl, ho0, hb⟩; refine ⟨_, rfl, ?_⟩; have n0_ := Aside0.mk (Kd.R_elder' (by (with_reducible repeat (first | apply Kd.R_alloc | apply Kd.R_drewN | apply Kd.R_drew)); exact HO_11.out) (Kd.R_base ho0) hb); have n1_ := Aside0.mk (Kd.R_elder' (by (with_reducible repeat (first | apply Kd.R_alloc | apply Kd.R_drewN | apply Kd.R_drew)); exact HO_12.out) (Kd.R_base ho0) hb); have n2_ := Aside0.mk (Kd.R_elder' (by (with_reducible repeat (first | apply Kd.R_alloc | apply Kd.R_drewN | apply Kd.R_drew)); exact HO1081.out) (Kd.R_base ho0) hb); have n3_ := Aside0.mk (Kd.R_lower (Kd.R_new' (Kd.R_new' (Kd.R_new' ho0 (Kd.R_lt (by (with_reducible repeat (first | apply Kd.R_alloc | apply Kd.R_drewN | apply Kd.R_drew)); exact HO_11.out))) (Kd.R_lt (by (with_reducible repeat (first | apply Kd.R_alloc | apply Kd.R_drewN | apply Kd.R_drew)); exact HO_12.out))) (Kd.R_lt (by (with_reducible repeat (first | apply Kd.R_alloc | apply Kd.R_drewN | apply Kd.R_drew)); exact HO1081.out))) (below_size (by repeat (first | (with_reducible first | exact HB.out | apply below_alloc | apply pw_below_drewN | apply below_drew1) | exact HB.out)))); have n4_ := Aside0.mk (below_step (by repeat (first | (with_reducible first | exact HB.out | apply below_alloc | apply pw_below_drewN | apply below_drew1) | exact HB.out)) hb); clear HO_11; clear HO_12; clear HO1081; clear HB; have HO_11 := n0_; have HO_12 := n1_; have HO1081 := n2_; have HO1084 := n3_; have HB := n4_; clear n0_ n1_ n2_ n3_ n4_; (try clear hb); (try clear hb2); (try clear hk); (try clear hi); (try clear ho0)))
        go_ret3
        exact ⟨_, _, by first | rfl | (simp [errW_none, errW_some] <;> rfl) | (simp [*, errW_none, errW_some] <;> rfl), by (with_reducible repeat (first | apply Kd.R_alloc | apply Kd.R_drewN | apply Kd.R_drew)); exact Kd.R_mono HO1081.out (fun _ hk => hk.2), by (with_reducible repeat (first | apply Kd.R_alloc | apply Kd.R_drewN | apply Kd.R_drew)); exact Kd.R_mono HO1084.out (fun _ hk => hk.2), by repeat (first | (with_reducible first | exact HB.out | apply below_alloc | apply pw_below_drewN | apply below_drew1) | exact HB.out)⟩
 ·rw [if_neg c5] at H
  have c5b0 : (t1078 == 0) = false := beq_eq_false_iff_ne.mpr c5
  have c5b1 : (t1078 != 0) = true := bne_iff_ne.mpr c5
  simp only [Option.some.injEq, Prod.mk.injEq] at H
  obtain ⟨rfl, rfl, rfl⟩ := H
  go_enter Try.func84, Try.ntmps84
  go_wp2_with (first | ((with_reducible refine gate_callee (f := 54) rfl ?_); refine goesL_ (some 18) rfl rfl Try.func54 (by kernel_rfl) rfl #[.slice A0 l0.length c0] rfl (by (try simp only [List.map_toArray, List.map_cons, List.map_nil]); first | done | rfl | (simp only [List.length_drop, List.length_take]; rfl)) ?_; (with_reducible refine (redraftref02_Check.calls k _ _ l0 t1077 t1078 _ ?side1 ?side2 A4.out).mono ?_); (case side1 => repeat (first | exact HR0.out | (with_reducible refine Kd.C_alloc ?_ _) | (with_reducible refine Kd.C_drewN ?_ _) | (with_reducible refine Kd.C_drew ?_))); (case side2 => exact HC0.out); rintro e w' ⟨rfl, ⟨nd, rfl⟩⟩; refine ⟨_, rfl, ?_⟩))
  go_ret3
  exact ⟨_, _, by first | rfl | (simp [errW_none, errW_some] <;> rfl) | (simp [*, errW_none, errW_some] <;> rfl), by first | exact Kd.R_nil _ _ _ _ _ | exact Kd.N_nil _ _ _ _ _ | exact Kd.V_nil _ _ _ _ _ | exact Kd.Q_nil _ _ _ _ _ | exact Kd.S_nil _ _ _ _ _, by first | exact Kd.R_nil _ _ _ _ _ | exact Kd.N_nil _ _ _ _ _ | exact Kd.V_nil _ _ _ _ _ | exact Kd.Q_nil _ _ _ _ _ | exact Kd.S_nil _ _ _ _ _, by repeat (first | (with_reducible first | exact HB.out | apply below_alloc | apply pw_below_drewN | apply below_drew1) | exact HB.out)⟩
end Go.Proofs.Ytmidiifgdloojaa.Pr
end
section
namespace Go.Proofs.Ytmidiifgdloojaa.Pr
open Go.RowKit Go.Proofs.YtmidiifgdloojaaW.PrintWords Go.Proofs.YtmidiifgdloojaaW.PrintLast Go.Proofs.YtmidiifgdloojaaW.PrintMore
attribute [local go_sem] max2_int min2_int max_two min_two max_three min_three max_four min_four
set_option linter.unusedVariables false
set_option linter.unusedSimpArgs false
def redraftlaw02_moves.f (k : Nat) (a0_0 : Int) (l0_1 : List (S36)) (l0_2 : List (S36)) (a0_3 : Int) (a0_4 : Int) : Option (Bool) := if a0_0 = 9 then ((redraftlaw02_copied.f l0_1).bind fun t1100 => ((span_Through.f k t1100 a0_3 a0_4).bind fun bt1103 => ((redraftref02_Through.f k l0_1 a0_3 a0_4).bind fun bt1107 => ((redraftlaw02_list.f k bt1103.1 bt1103.2 bt1107.1 bt1107.2).bind fun t1111 => (some t1111))))) else ((redraftlaw02_copied.f l0_1).bind fun t1112 => ((span_Back.f k t1112 a0_3 a0_4).bind fun bt1115 => ((redraftref02_Back.f k l0_1 a0_3 a0_4).bind fun bt1122 => ((redraftlaw02_list.f k bt1115.1 bt1115.2.2 bt1122.1 bt1122.2.2).bind fun t1129 => (if t1129 = true then ((redraftlaw02_same.f k bt1115.2.1 bt1122.2.1).bind fun t1130 => (some t1130)) else (some false))))))
theorem redraftlaw02_moves.mono : ∀ a0 a1 a2 a3 a4 k, LeO (redraftlaw02_moves.f k a0 a1 a2 a3 a4) (redraftlaw02_moves.f (k + 1) a0 a1 a2 a3 a4) := by
 intro a0 a1 a2 a3 a4 k
 unfold redraftlaw02_moves.f
 repeat' first
   | (with_reducible exact redraftlaw02_list.mono _ _ _ _ _)
   | (with_reducible exact redraftlaw02_same.mono _ _ _)
   | (with_reducible exact redraftref02_Back.mono _ _ _ _)
   | (with_reducible exact redraftref02_Through.mono _ _ _ _)
   | (with_reducible exact span_Back.mono _ _ _ _)
   | (with_reducible exact span_Through.mono _ _ _ _)
   | (with_reducible exact LeO.refl _)
   | (with_reducible exact LeO.none _)
   | (with_reducible refine LeO.ite ?_ ?_)
   | (with_reducible refine LeO.bind ?_ (fun _ => ?_))
   | exact redraftlaw02_list.mono _ _ _ _ _
   | exact redraftlaw02_same.mono _ _ _
   | exact redraftref02_Back.mono _ _ _ _
   | exact redraftref02_Through.mono _ _ _ _
   | exact span_Back.mono _ _ _ _
   | exact span_Through.mono _ _ _ _
   | exact LeO.none _
   | refine LeO.ite ?_ ?_
   | refine LeO.bind ?_ (fun _ => ?_)
def redraftlaw02_moves.T2 : Bool × List (List Nat × List Nat) := (true, [([], []), ([0], [0]), ([1], [1]), ([], []), ([3], [3]), ([], []), ([5], [5]), ([2, 4, 6, 2], [2, 4, 6]), ([7], [7]), ([8], [8]), ([8], [8]), ([9, 7, 0, 1, 2, 3, 4, 5, 6, 7, 8, 9], [9]), ([10, 11, 0, 1, 2, 3, 4, 5, 6, 7, 8, 9, 10, 11], [10])])
def redraftlaw02_moves.B2 : List Nat := [0, 1, 3, 0, 8, 0, 32, 127, 255, 511, 511, 1023, 4095]
theorem redraftlaw02_moves.tab2 : rtab .any (opsOf Try.f63 2) = redraftlaw02_moves.T2 := by kernel_rfl
theorem redraftlaw02_moves.bits2 : waitsOk redraftlaw02_moves.T2.2 redraftlaw02_moves.B2 = true := by kernel_rfl
def redraftlaw02_moves.T5 : Bool × List (List Nat × List Nat) := (true, [([], []), ([0], [0]), ([1], [1]), ([], []), ([3], [3]), ([], []), ([5], [5]), ([2, 4, 6, 2], [2, 4, 6]), ([7], [7]), ([8], [8]), ([8], [8]), ([8], [8]), ([9, 7, 0, 1, 2, 3, 4, 5, 6, 7, 8, 9], [9]), ([10, 12, 0, 1, 2, 3, 4, 5, 6, 7, 8, 9, 10, 12], [10]), ([11, 13, 0, 1, 2, 3, 4, 5, 6, 7, 8, 9, 10, 11, 12, 13], [11])])
def redraftlaw02_moves.B5 : List Nat := [0, 1, 3, 0, 8, 0, 32, 127, 255, 511, 511, 511, 1023, 6143, 16383]
theorem redraftlaw02_moves.tab5 : rtab .any (opsOf Try.f63 5) = redraftlaw02_moves.T5 := by kernel_rfl
theorem redraftlaw02_moves.bits5 : waitsOk redraftlaw02_moves.T5.2 redraftlaw02_moves.B5 = true := by kernel_rfl
set_option maxHeartbeats 8000000 in
set_option maxRecDepth 100000 in
theorem redraftlaw02_moves.calls (k : Nat) (a0_0 : Int) (A0_1 : Option Addr) (c0_1 : Nat) (l0_1 : List (S36)) (A0_2 : Option Addr) (c0_2 : Nat) (l0_2 : List (S36)) (a0_3 : Int) (a0_4 : Int) (r : Bool) (w : World) (hr0_1 : Kd.C k36 w A0_1 l0_1.length l0_1) (hc0_1 : l0_1.length ≤ c0_1) (hr0_2 : Kd.C k36 w A0_2 l0_2.length l0_2) (hc0_2 : l0_2.length ≤ c0_2) (h : redraftlaw02_moves.f k a0_0 l0_1 l0_2 a0_3 a0_4 = some r) :
  Calls Try.prog 63 #[.agg #[.int .i64 a0_0, .slice A0_1 l0_1.length c0_1, .slice A0_2 l0_2.length c0_2, .int .i64 a0_3, .int .i64 a0_4]] w fun e w' => e = .returned (.bool r) ∧ Below w.heap.size w w' := by
 have hu76 := Try.underlying76
 have HR0_1 := Aside0.mk hr0_1
 have HC0_1 := Aside0.mk hc0_1
 clear hr0_1 hc0_1
 have HR0_2 := Aside0.mk hr0_2
 have HC0_2 := Aside0.mk hc0_2
 clear hr0_2 hc0_2
 have HB := Aside0.mk (Below.refl w.heap.size w)
 have H : (if a0_0 = 9 then ((redraftlaw02_copied.f l0_1).bind fun t1100 => ((span_Through.f k t1100 a0_3 a0_4).bind fun bt1103 => ((redraftref02_Through.f k l0_1 a0_3 a0_4).bind fun bt1107 => ((redraftlaw02_list.f k bt1103.1 bt1103.2 bt1107.1 bt1107.2).bind fun t1111 => (some t1111))))) else ((redraftlaw02_copied.f l0_1).bind fun t1112 => ((span_Back.f k t1112 a0_3 a0_4).bind fun bt1115 => ((redraftref02_Back.f k l0_1 a0_3 a0_4).bind fun bt1122 => ((redraftlaw02_list.f k bt1115.1 bt1115.2.2 bt1122.1 bt1122.2.2).bind fun t1129 => (if t1129 = true then ((redraftlaw02_same.f k bt1115.2.1 bt1122.2.1).bind fun t1130 => (some t1130)) else (some false))))))) = some r := h
 clear h
 by_cases c2 : a0_0 = 9
 ·rw [if_pos c2] at H
  have c2b0 : (a0_0 == 9) = true := beq_iff_eq.mpr c2
  have c2b1 : (a0_0 != 9) = false := bne_eq_false_iff_eq.mpr c2
  clear c2
  replace H := Option.bind_eq_some_iff.mp H
  obtain ⟨t1100, A30, H⟩ := H
  replace H : ((span_Through.f k t1100 a0_3 a0_4).bind fun bt1103 => ((redraftref02_Through.f k l0_1 a0_3 a0_4).bind fun bt1107 => ((redraftlaw02_list.f k bt1103.1 bt1103.2 bt1107.1 bt1107.2).bind fun t1111 => (some t1111)))) = some r := H
  have A3 := Aside0.mk A30
  clear A30
  replace H := Option.bind_eq_some_iff.mp H
  obtain ⟨⟨t1103, t1104⟩, A40, H⟩ := H
  replace H : ((redraftref02_Through.f k l0_1 a0_3 a0_4).bind fun bt1107 => ((redraftlaw02_list.f k t1103 t1104 bt1107.1 bt1107.2).bind fun t1111 => (some t1111))) = some r := H
  have A4 := Aside0.mk A40
  clear A40
  replace H := Option.bind_eq_some_iff.mp H
  obtain ⟨⟨t1107, t1108⟩, A50, H⟩ := H
  replace H : ((redraftlaw02_list.f k t1103 t1104 t1107 t1108).bind fun t1111 => (some t1111)) = some r := H
  have A5 := Aside0.mk A50
  clear A50
  replace H := Option.bind_eq_some_iff.mp H
  obtain ⟨t1111, A60, H⟩ := H
  replace H : (some t1111) = some r := H
  have A6 := Aside0.mk A60
  clear A60
  obtain rfl := Option.some.inj H
  go_enter Try.func63, Try.ntmps63
  try go_wp2_with (first | ((with_reducible refine gate_dst (N := 1) rfl ?_); refine box_event ?hg (N := 1) ?hd (cs := #[.int .i64 a0_0, .slice A0_1 l0_1.length c0_1, .slice A0_2 l0_2.length c0_2, .int .i64 a0_3, .int .i64 a0_4]) (t := 76) ?hr ?_; (case hd => rfl); (case hg => rfl); (case hr => first | (go_simp; done) | (go_simp; rfl)); intro gb1099 hg w7 hbox hb; have n0_ := Aside0.mk (below_step (by repeat (first | (with_reducible first | exact HB.out | apply below_alloc | apply pw_below_drewN | apply below_drew1) | exact HB.out)) hb); have n1_ := Aside0.mk (hbox); have n2_ := Aside0.mk ((by rw [hg]; exact (below_size (by repeat (first | (with_reducible first | exact HB.out | apply below_alloc | apply pw_below_drewN | apply below_drew1) | exact HB.out))) : w.heap.size ≤ gb1099)); have n3_ := Aside0.mk ((by rw [hg]; exact (below_size (by repeat (first | (with_reducible first | exact HB.out | apply below_alloc | apply pw_below_drewN | apply below_drew1) | exact HB.out))) : w.heap.size ≤ gb1099)); clear HB; have HB := n0_; have BK1099 := n1_; have GW1099 := n2_; have GE1099 := n3_; clear n0_ n1_ n2_ n3_; clear hb hbox hg; have hcz8_0 : w7.cell? ⟨gb1099, 0, none⟩ = some (.int .i64 a0_0) := (blk_cell BK1099.out 0).trans rfl; have hcz8_1 : w7.cell? ⟨gb1099, 1, none⟩ = some (.slice A0_1 l0_1.length c0_1) := (blk_cell BK1099.out 1).trans rfl; have hcz8_2 : w7.cell? ⟨gb1099, 2, none⟩ = some (.slice A0_2 l0_2.length c0_2) := (blk_cell BK1099.out 2).trans rfl; have hcz8_3 : w7.cell? ⟨gb1099, 3, none⟩ = some (.int .i64 a0_3) := (blk_cell BK1099.out 3).trans rfl; have hcz8_4 : w7.cell? ⟨gb1099, 4, none⟩ = some (.int .i64 a0_4) := (blk_cell BK1099.out 4).trans rfl; have hfz8_0 := blk_frozen BK1099.out 0; have hfz8_1 := blk_frozen BK1099.out 1; have hfz8_2 := blk_frozen BK1099.out 2; have hfz8_3 := blk_frozen BK1099.out 3; have hfz8_4 := blk_frozen BK1099.out 4))
  have n0_ := Aside0.mk (blk_drew BK1099.out)
  have n1_ := Aside0.mk (below_drew1 HB.out)
  clear BK1099
  clear HB
  have BK1099 := n0_
  have HB := n1_
  clear n0_ n1_
  refine start_ (n := 13) (S := fun w' => w'.cell? ⟨gb1099, 0, none⟩ = some (.int .i64 a0_0) ∧ w'.cell? ⟨gb1099, 1, none⟩ = some (.slice A0_1 l0_1.length c0_1) ∧ w'.cell? ⟨gb1099, 2, none⟩ = some (.slice A0_2 l0_2.length c0_2) ∧ w'.cell? ⟨gb1099, 3, none⟩ = some (.int .i64 a0_3) ∧ w'.cell? ⟨gb1099, 4, none⟩ = some (.int .i64 a0_4)) (ds := []) #[false, false, false, false, false, false, false, false, false, false, false, false, false] (by kernel_rfl) rfl rfl ⟨(blk_cell BK1099.out 0).trans rfl, (blk_cell BK1099.out 1).trans rfl, (blk_cell BK1099.out 2).trans rfl, (blk_cell BK1099.out 3).trans rfl, (blk_cell BK1099.out 4).trans rfl⟩ (fun hHeld => ?_); refine with_tabW redraftlaw02_moves.tab2 redraftlaw02_moves.bits2 (fun HT_ HW_ => ?_)
  generalize w7.drew = w9 at BK1099 HB hHeld ⊢
  refine pure_ (i := 0) (N := some 17) (v := ?_) (a' := ?_) #[true, false, false, false, false, false, false, false, false, false, false, false, false] rfl rfl (any_of HT_.out (by kernel_rfl)) (fun _ _ _ h => h) (Or.inl ⟨by rfl, ?_⟩) ?_ ?_
  rotate_left
  ·intro w'
   go_simp
   with_reducible rfl
  rotate_left
  ·simp only [Act.put, List.setIfInBounds_toArray, List.set_cons_zero, List.set_cons_succ, i64_w, i32_w]
   rfl
  refine pure_ (i := 3) (N := some 20) (v := ?_) (a' := ?_) #[true, false, false, true, false, false, false, false, false, false, false, false, false] rfl rfl (any_of HT_.out (by kernel_rfl)) (fun _ _ _ h => h) (Or.inl ⟨by rfl, ?_⟩) ?_ ?_
  rotate_left
  ·intro w'
   go_simp
   with_reducible rfl
  rotate_left
  ·simp only [Act.put, List.setIfInBounds_toArray, List.set_cons_zero, List.set_cons_succ, i64_w, i32_w]
   rfl
  refine pure_ (i := 5) (N := some 22) (v := ?_) (a' := ?_) #[true, false, false, true, false, true, false, false, false, false, false, false, false] rfl rfl (any_of HT_.out (by kernel_rfl)) (fun _ _ _ h => h) (Or.inl ⟨by rfl, ?_⟩) ?_ ?_
  rotate_left
  ·intro w'
   go_simp
   with_reducible rfl
  rotate_left
  ·simp only [Act.put, List.setIfInBounds_toArray, List.set_cons_zero, List.set_cons_succ, i64_w, i32_w]
   rfl
  refine take_ (i := 1) (N := some 18) (v := ?_) (a' := ?_) #[true, true, false, true, false, true, false, false, false, false, false, false, false] rfl rfl (take_ofW HT_.out HW_.out (by kernel_rfl)) (fun _ _ _ h => h) (Or.inl ⟨by rfl, ?_⟩) hHeld ?_ ?_
  rotate_left
  ·rintro w' ⟨s0, s1, s2, s3, s4⟩
   go_simp
   with_reducible rfl
  rotate_left
  ·simp only [Act.put, List.setIfInBounds_toArray, List.set_cons_zero, List.set_cons_succ, i64_w, i32_w]
   rfl
  refine take_ (i := 4) (N := some 21) (v := ?_) (a' := ?_) #[true, true, false, true, true, true, false, false, false, false, false, false, false] rfl rfl (take_ofW HT_.out HW_.out (by kernel_rfl)) (fun _ _ _ h => h) (Or.inl ⟨by rfl, ?_⟩) hHeld ?_ ?_
  rotate_left
  ·rintro w' ⟨s0, s1, s2, s3, s4⟩
   go_simp
   with_reducible rfl
  rotate_left
  ·simp only [Act.put, List.setIfInBounds_toArray, List.set_cons_zero, List.set_cons_succ, i64_w, i32_w]
   rfl
  refine take_ (i := 6) (N := some 23) (v := ?_) (a' := ?_) #[true, true, false, true, true, true, true, false, false, false, false, false, false] rfl rfl (take_ofW HT_.out HW_.out (by kernel_rfl)) (fun _ _ _ h => h) (Or.inl ⟨by rfl, ?_⟩) hHeld ?_ ?_
  rotate_left
  ·rintro w' ⟨s0, s1, s2, s3, s4⟩
   go_simp
   with_reducible rfl
  rotate_left
  ·simp only [Act.put, List.setIfInBounds_toArray, List.set_cons_zero, List.set_cons_succ, i64_w, i32_w]
   rfl
  refine one_ (i := 2) (N := some 19) #[true, true, true, true, true, true, true, false, false, false, false, false, false] rfl rfl (one_of HT_.out (by kernel_rfl)) (by decide) (fun K hK => ?_)
  refine goes_ Try.func17 (by kernel_rfl) rfl #[.slice A0_1 l0_1.length c0_1] (by rfl) rfl rfl (by (try simp only [List.map_toArray, List.map_cons, List.map_nil]); first | done | rfl | (simp only [List.length_drop, List.length_take]; rfl)) ?_
  with_reducible refine (redraftlaw02_copied.calls _ _ l0_1 t1100 _ ?side1 ?side2 A3.out).mono ?_
  (case side1 => repeat (first | exact (Kd.C_below HR0_1.out HB.out) | (with_reducible refine Kd.C_alloc ?_ _) | (with_reducible refine Kd.C_drewN ?_ _) | (with_reducible refine Kd.C_drew ?_)))
  (case side2 => exact HC0_1.out)
  rintro e w10 ⟨v1101, rfl, ho0, hb⟩
  refine ⟨_, rfl, ?_⟩
  have n0_ := Aside0.mk (Kd.R_lower ho0 (below_size (by repeat (first | (with_reducible first | exact HB.out | apply below_alloc | apply pw_below_drewN | apply below_drew1 | refine below_set ?_ GE1099.out) | exact HB.out))))
  have n1_ := Aside0.mk (blk_below (g := gb1099) (o := .cells #[.int .i64 a0_0, .slice A0_1 l0_1.length c0_1, .slice A0_2 l0_2.length c0_2, .int .i64 a0_3, .int .i64 a0_4] 76 (0, 0)) (by (with_reducible repeat (first | refine blk_drewN ?_ _ | refine blk_drew ?_ | refine blk_alloc ?_ _)); exact BK1099.out) hb)
  have n2_ := Aside0.mk (below_step (by repeat (first | (with_reducible first | exact HB.out | apply below_alloc | apply pw_below_drewN | apply below_drew1 | refine below_set ?_ GE1099.out) | exact HB.out)) hb)
  clear BK1099
  clear HB
  have HO1102 := n0_
  have BK1099 := n1_
  have HB := n2_
  clear n0_ n1_ n2_
  (try clear hb)
  (try clear hb2)
  (try clear hk)
  (try clear hi)
  (try clear ho0)
  obtain ⟨Ao11, co11, eo11⟩ := Kd.R_slice HO1102.out
  (first | subst eo11 | (injection eo11 with f1_ f2_ f3_; have f4_ := f1_.symm; have f5_ := f3_.symm; clear f1_ f2_ f3_; subst f4_; subst f5_))
  refine hK.out _ _ ⟨(blk_cell BK1099.out 0).trans rfl, (blk_cell BK1099.out 1).trans rfl, (blk_cell BK1099.out 2).trans rfl, (blk_cell BK1099.out 3).trans rfl, (blk_cell BK1099.out 4).trans rfl⟩ (fun hHeld => ?_)
  clear hK K
  refine norm_ (a' := ?_) ?_ ?_
  rotate_left
  ·show Act.put _ (some 19) _ = _
   simp only [Act.put, List.setIfInBounds_toArray, List.set_cons_zero, List.set_cons_succ, i64_w, i32_w]
   rfl
  refine one_ (i := 7) (N := some 24) #[true, true, true, true, true, true, true, true, false, false, false, false, false] rfl rfl (one_of HT_.out (by kernel_rfl)) (by decide) (fun K hK => ?_)
  refine goes_ Try.func23 (by kernel_rfl) rfl #[.slice Ao11 t1100.length co11, .int .i64 a0_3, .int .i64 a0_4] (by rfl) rfl rfl (by (try simp only [List.map_toArray, List.map_cons, List.map_nil]); first | done | rfl | (simp only [List.length_drop, List.length_take]; rfl)) ?_
  with_reducible refine (span_Through.calls k _ _ t1100 a0_3 a0_4 t1103 t1104 _ ?side1 ?side2 A4.out).mono ?_
  (case side1 => repeat (first | exact (Kd.R_reads' HO1102.out).2.2 | (with_reducible refine Kd.C_alloc ?_ _) | (with_reducible refine Kd.C_drewN ?_ _) | (with_reducible refine Kd.C_drew ?_)))
  (case side2 => exact (Kd.R_reads' HO1102.out).2.1)
  rintro e w12 ⟨v1105, rfl, ho0, hb⟩
  refine ⟨_, rfl, ?_⟩
  have n0_ := Aside0.mk (Kd.R_elder' (by (with_reducible repeat (first | apply Kd.R_alloc | apply Kd.R_drewN | apply Kd.R_drew)); exact HO1102.out) (Kd.R_base ho0) hb)
  have n1_ := Aside0.mk (Kd.R_lower (Kd.R_new' ho0 (Kd.R_lt (by (with_reducible repeat (first | apply Kd.R_alloc | apply Kd.R_drewN | apply Kd.R_drew)); exact HO1102.out))) (below_size (by repeat (first | (with_reducible first | exact HB.out | apply below_alloc | apply pw_below_drewN | apply below_drew1 | refine below_set ?_ GE1099.out) | exact HB.out))))
  have n2_ := Aside0.mk (blk_below (g := gb1099) (o := .cells #[.int .i64 a0_0, .slice A0_1 l0_1.length c0_1, .slice A0_2 l0_2.length c0_2, .int .i64 a0_3, .int .i64 a0_4] 76 (0, 0)) (by (with_reducible repeat (first | refine blk_drewN ?_ _ | refine blk_drew ?_ | refine blk_alloc ?_ _)); exact BK1099.out) hb)
  have n3_ := Aside0.mk (below_step (by repeat (first | (with_reducible first | exact HB.out | apply below_alloc | apply pw_below_drewN | apply below_drew1 | refine below_set ?_ GE1099.out) | exact HB.out)) hb)
  clear HO1102
  clear BK1099
  clear HB
  have HO1102 := n0_
  have HO1106 := n1_
  have BK1099 := n2_
  have HB := n3_
  clear n0_ n1_ n2_ n3_
  (try clear hb)
  (try clear hb2)
  (try clear hk)
  (try clear hi)
  (try clear ho0)
  refine hK.out _ _ ⟨(blk_cell BK1099.out 0).trans rfl, (blk_cell BK1099.out 1).trans rfl, (blk_cell BK1099.out 2).trans rfl, (blk_cell BK1099.out 3).trans rfl, (blk_cell BK1099.out 4).trans rfl⟩ (fun hHeld => ?_)
  clear hK K
  refine norm_ (a' := ?_) ?_ ?_
  rotate_left
  ·show Act.put _ (some 24) _ = _
   simp only [Act.put, List.setIfInBounds_toArray, List.set_cons_zero, List.set_cons_succ, i64_w, i32_w]
   rfl
  refine pure_ (i := 8) (N := some 16) (v := ?_) (a' := ?_) #[true, true, true, true, true, true, true, true, true, false, false, false, false] rfl rfl (any_of HT_.out (by kernel_rfl)) (fun _ _ _ h => h) (Or.inl ⟨by rfl, ?_⟩) ?_ ?_
  rotate_left
  ·intro w'
   go_simp
   with_reducible rfl
  rotate_left
  ·simp only [Act.put, List.setIfInBounds_toArray, List.set_cons_zero, List.set_cons_succ, i64_w, i32_w]
   rfl
  refine pure_ (i := 9) (N := some 25) (v := ?_) (a' := ?_) #[true, true, true, true, true, true, true, true, true, true, false, false, false] rfl rfl (any_of HT_.out (by kernel_rfl)) (fun _ _ _ h => h) (Or.inl ⟨by rfl, ?_⟩) ?_ ?_
  rotate_left
  ·intro w'
   go_simp
   with_reducible rfl
  rotate_left
  ·simp only [Act.put, List.setIfInBounds_toArray, List.set_cons_zero, List.set_cons_succ, i64_w, i32_w]
   rfl
  refine pure_ (i := 10) (N := some 26) (v := ?_) (a' := ?_) #[true, true, true, true, true, true, true, true, true, true, true, false, false] rfl rfl (any_of HT_.out (by kernel_rfl)) (fun _ _ _ h => h) (Or.inl ⟨by rfl, ?_⟩) ?_ ?_
  rotate_left
  ·intro w'
   go_simp
   with_reducible rfl
  rotate_left
  ·simp only [Act.put, List.setIfInBounds_toArray, List.set_cons_zero, List.set_cons_succ, i64_w, i32_w]
   rfl
  refine pure_ (i := 11) (N := some 3) (v := ?_) (a' := ?_) #[true, true, true, true, true, true, true, true, true, true, true, true, false] rfl rfl (any_of HT_.out (by kernel_rfl)) (fun _ _ _ h => h) (Or.inl ⟨by rfl, ?_⟩) ?_ ?_
  rotate_left
  ·intro w'
   go_simp
   with_reducible rfl
  rotate_left
  ·simp only [Act.put, List.setIfInBounds_toArray, List.set_cons_zero, List.set_cons_succ, i64_w, i32_w]
   rfl
  refine pure_ (i := 12) (N := some 4) (v := ?_) (a' := ?_) #[true, true, true, true, true, true, true, true, true, true, true, true, true] rfl rfl (any_of HT_.out (by kernel_rfl)) (fun _ _ _ h => h) (Or.inl ⟨by rfl, ?_⟩) ?_ ?_
  rotate_left
  ·intro w'
   go_simp
   with_reducible rfl
  rotate_left
  ·simp only [Act.put, List.setIfInBounds_toArray, List.set_cons_zero, List.set_cons_succ, i64_w, i32_w]
   rfl
  refine done_ (done_of HT_.out (by kernel_rfl)) ?_
  have hcz13_0 : w12.cell? ⟨gb1099, 0, none⟩ = some (.int .i64 a0_0) := (blk_cell BK1099.out 0).trans rfl
  have hcz13_1 : w12.cell? ⟨gb1099, 1, none⟩ = some (.slice A0_1 l0_1.length c0_1) := (blk_cell BK1099.out 1).trans rfl
  have hcz13_2 : w12.cell? ⟨gb1099, 2, none⟩ = some (.slice A0_2 l0_2.length c0_2) := (blk_cell BK1099.out 2).trans rfl
  have hcz13_3 : w12.cell? ⟨gb1099, 3, none⟩ = some (.int .i64 a0_3) := (blk_cell BK1099.out 3).trans rfl
  have hcz13_4 : w12.cell? ⟨gb1099, 4, none⟩ = some (.int .i64 a0_4) := (blk_cell BK1099.out 4).trans rfl
  have hfz13_0 := blk_frozen BK1099.out 0
  have hfz13_1 := blk_frozen BK1099.out 1
  have hfz13_2 := blk_frozen BK1099.out 2
  have hfz13_3 := blk_frozen BK1099.out 3
  have hfz13_4 := blk_frozen BK1099.out 4
  try go_wp2_with (first | ((with_reducible refine gate_callee (f := 83) rfl ?_); refine goesL_ (some 34) rfl rfl Try.func83 (by kernel_rfl) rfl #[.slice A0_1 l0_1.length c0_1, .int .i64 a0_3, .int .i64 a0_4] rfl (by (try simp only [List.map_toArray, List.map_cons, List.map_nil]); first | done | rfl | (simp only [List.length_drop, List.length_take]; rfl)) ?_; (with_reducible refine (redraftref02_Through.calls k _ _ l0_1 a0_3 a0_4 t1107 t1108 _ ?side1 ?side2 A5.out).mono ?_); (case side1 => repeat (first | exact (Kd.C_below HR0_1.out HB.out) | (with_reducible refine Kd.C_alloc ?_ _) | (with_reducible refine Kd.C_drewN ?_ _) | (with_reducible refine Kd.C_drew ?_))); (case side2 => exact HC0_1.out); rintro e w14 ⟨v1109, rfl, ho0, hb⟩; refine ⟨_, rfl, ?_⟩; have n0_ := Aside0.mk (Kd.R_elder' (by (with_reducible repeat (first | apply Kd.R_alloc | apply Kd.R_drewN | apply Kd.R_drew)); exact HO1102.out) (Kd.R_base ho0) hb); have n1_ := Aside0.mk (Kd.R_elder' (by (with_reducible repeat (first | apply Kd.R_alloc | apply Kd.R_drewN | apply Kd.R_drew)); exact HO1106.out) (Kd.R_base ho0) hb); have n2_ := Aside0.mk (Kd.R_lower (Kd.R_new' (Kd.R_new' ho0 (Kd.R_lt (by (with_reducible repeat (first | apply Kd.R_alloc | apply Kd.R_drewN | apply Kd.R_drew)); exact HO1102.out))) (Kd.R_lt (by (with_reducible repeat (first | apply Kd.R_alloc | apply Kd.R_drewN | apply Kd.R_drew)); exact HO1106.out))) (below_size (by repeat (first | (with_reducible first | exact HB.out | apply below_alloc | apply pw_below_drewN | apply below_drew1 | refine below_set ?_ GE1099.out) | exact HB.out)))); have n3_ := Aside0.mk (blk_below (g := gb1099) (o := .cells #[.int .i64 a0_0, .slice A0_1 l0_1.length c0_1, .slice A0_2 l0_2.length c0_2, .int .i64 a0_3, .int .i64 a0_4] 76 (0, 0)) (by (with_reducible repeat (first | refine blk_drewN ?_ _ | refine blk_drew ?_ | refine blk_alloc ?_ _)); exact BK1099.out) hb); have n4_ := Aside0.mk (below_step (by repeat (first | (with_reducible first | exact HB.out | apply below_alloc | apply pw_below_drewN | apply below_drew1 | refine below_set ?_ GE1099.out) | exact HB.out)) hb); clear HO1102; clear HO1106; clear BK1099; clear HB; have HO1102 := n0_; have HO1106 := n1_; have HO1110 := n2_; have BK1099 := n3_; have HB := n4_; clear n0_ n1_ n2_ n3_ n4_; (try clear hb); (try clear hb2); (try clear hk); (try clear hi); (try clear ho0); obtain ⟨Ao15, co15, eo15⟩ := Kd.R_slice HO1106.out; subst eo15; obtain ⟨Ao16, co16, eo16⟩ := Kd.R_slice HO1110.out; subst eo16) | ((with_reducible refine gate_callee (f := 76) rfl ?_); refine goesL_ (some 41) rfl rfl Try.func76 (by kernel_rfl) rfl #[.slice Ao15 t1103.length co15, .int .i64 t1104, .slice Ao16 t1107.length co16, .int .i64 t1108] rfl (by (try simp only [List.map_toArray, List.map_cons, List.map_nil]); first | done | rfl | (simp only [List.length_drop, List.length_take]; rfl)) ?_; (with_reducible refine (redraftlaw02_list.calls k _ _ t1103 t1104 _ _ t1107 t1108 t1111 _ ?side1 ?side2 ?side3 ?side4 A6.out).mono ?_); (case side1 => repeat (first | exact (Kd.R_reads' HO1106.out).2.2 | (with_reducible refine Kd.C_alloc ?_ _) | (with_reducible refine Kd.C_drewN ?_ _) | (with_reducible refine Kd.C_drew ?_))); (case side2 => exact (Kd.R_reads' HO1106.out).2.1); (case side3 => repeat (first | exact (Kd.R_reads' HO1110.out).2.2 | (with_reducible refine Kd.C_alloc ?_ _) | (with_reducible refine Kd.C_drewN ?_ _) | (with_reducible refine Kd.C_drew ?_))); (case side4 => exact (Kd.R_reads' HO1110.out).2.1); rintro e w' ⟨rfl, ⟨nd, rfl⟩⟩; refine ⟨_, rfl, ?_⟩))
  go_ret
  exact ⟨by first | rfl | (simp [errW_none, errW_some] <;> rfl) | (simp [*, errW_none, errW_some] <;> rfl), by repeat (first | (with_reducible first | exact HB.out | apply below_alloc | apply pw_below_drewN | apply below_drew1 | refine below_set ?_ GE1099.out) | exact HB.out)⟩
 ·rw [if_neg c2] at H
  have c2b0 : (a0_0 == 9) = false := beq_eq_false_iff_ne.mpr c2
  have c2b1 : (a0_0 != 9) = true := bne_iff_ne.mpr c2
  replace H := Option.bind_eq_some_iff.mp H
  obtain ⟨t1112, A170, H⟩ := H
  replace H : ((span_Back.f k t1112 a0_3 a0_4).bind fun bt1115 => ((redraftref02_Back.f k l0_1 a0_3 a0_4).bind fun bt1122 => ((redraftlaw02_list.f k bt1115.1 bt1115.2.2 bt1122.1 bt1122.2.2).bind fun t1129 => (if t1129 = true then ((redraftlaw02_same.f k bt1115.2.1 bt1122.2.1).bind fun t1130 => (some t1130)) else (some false))))) = some r := H
  have A17 := Aside0.mk A170
  clear A170
  replace H := Option.bind_eq_some_iff.mp H
  obtain ⟨⟨t1115, t1116, t1117⟩, A180, H⟩ := H
  replace H : ((redraftref02_Back.f k l0_1 a0_3 a0_4).bind fun bt1122 => ((redraftlaw02_list.f k t1115 t1117 bt1122.1 bt1122.2.2).bind fun t1129 => (if t1129 = true then ((redraftlaw02_same.f k t1116 bt1122.2.1).bind fun t1130 => (some t1130)) else (some false)))) = some r := H
  have A18 := Aside0.mk A180
  clear A180
  replace H := Option.bind_eq_some_iff.mp H
  obtain ⟨⟨t1122, t1123, t1124⟩, A190, H⟩ := H
  replace H : ((redraftlaw02_list.f k t1115 t1117 t1122 t1124).bind fun t1129 => (if t1129 = true then ((redraftlaw02_same.f k t1116 t1123).bind fun t1130 => (some t1130)) else (some false))) = some r := H
  have A19 := Aside0.mk A190
  clear A190
  replace H := Option.bind_eq_some_iff.mp H
  obtain ⟨t1129, A200, H⟩ := H
  replace H : (if t1129 = true then ((redraftlaw02_same.f k t1116 t1123).bind fun t1130 => (some t1130)) else (some false)) = some r := H
  have A20 := Aside0.mk A200
  clear A200
  by_cases c21 : t1129 = true
  ·subst c21
   have H1 : ((redraftlaw02_same.f k t1116 t1123).bind fun t1130 => (some t1130)) = some r := by rw [if_pos rfl] at H; exact H
   clear H
   have H := H1
   clear H1
   replace H := Option.bind_eq_some_iff.mp H
   obtain ⟨t1130, A220, H⟩ := H
   replace H : (some t1130) = some r := H
   have A22 := Aside0.mk A220
   clear A220
   obtain rfl := Option.some.inj H
   go_enter Try.func63, Try.ntmps63
   try go_wp2_with (first | ((with_reducible refine gate_dst (N := 1) rfl ?_); refine box_event ?hg (N := 1) ?hd (cs := #[.int .i64 a0_0, .slice A0_1 l0_1.length c0_1, .slice A0_2 l0_2.length c0_2, .int .i64 a0_3, .int .i64 a0_4]) (t := 76) ?hr ?_; (case hd => rfl); (case hg => rfl); (case hr => first | (go_simp; done) | (go_simp; rfl)); intro gb1099 hg w23 hbox hb; have n0_ := Aside0.mk (below_step (by repeat (first | (with_reducible first | exact HB.out | apply below_alloc | apply pw_below_drewN | apply below_drew1) | exact HB.out)) hb); have n1_ := Aside0.mk (hbox); have n2_ := Aside0.mk ((by rw [hg]; exact (below_size (by repeat (first | (with_reducible first | exact HB.out | apply below_alloc | apply pw_below_drewN | apply below_drew1) | exact HB.out))) : w.heap.size ≤ gb1099)); have n3_ := Aside0.mk ((by rw [hg]; exact (below_size (by repeat (first | (with_reducible first | exact HB.out | apply below_alloc | apply pw_below_drewN | apply below_drew1) | exact HB.out))) : w.heap.size ≤ gb1099)); clear HB; have HB := n0_; have BK1099 := n1_; have GW1099 := n2_; have GE1099 := n3_; clear n0_ n1_ n2_ n3_; clear hb hbox hg; have hcz24_0 : w23.cell? ⟨gb1099, 0, none⟩ = some (.int .i64 a0_0) := (blk_cell BK1099.out 0).trans rfl; have hcz24_1 : w23.cell? ⟨gb1099, 1, none⟩ = some (.slice A0_1 l0_1.length c0_1) := (blk_cell BK1099.out 1).trans rfl; have hcz24_2 : w23.cell? ⟨gb1099, 2, none⟩ = some (.slice A0_2 l0_2.length c0_2) := (blk_cell BK1099.out 2).trans rfl; have hcz24_3 : w23.cell? ⟨gb1099, 3, none⟩ = some (.int .i64 a0_3) := (blk_cell BK1099.out 3).trans rfl; have hcz24_4 : w23.cell? ⟨gb1099, 4, none⟩ = some (.int .i64 a0_4) := (blk_cell BK1099.out 4).trans rfl; have hfz24_0 := blk_frozen BK1099.out 0; have hfz24_1 := blk_frozen BK1099.out 1; have hfz24_2 := blk_frozen BK1099.out 2; have hfz24_3 := blk_frozen BK1099.out 3; have hfz24_4 := blk_frozen BK1099.out 4))
   have n0_ := Aside0.mk (blk_drew BK1099.out)
   have n1_ := Aside0.mk (below_drew1 HB.out)
   clear BK1099
   clear HB
   have BK1099 := n0_
   have HB := n1_
   clear n0_ n1_
   refine start_ (n := 15) (S := fun w' => w'.cell? ⟨gb1099, 0, none⟩ = some (.int .i64 a0_0) ∧ w'.cell? ⟨gb1099, 1, none⟩ = some (.slice A0_1 l0_1.length c0_1) ∧ w'.cell? ⟨gb1099, 2, none⟩ = some (.slice A0_2 l0_2.length c0_2) ∧ w'.cell? ⟨gb1099, 3, none⟩ = some (.int .i64 a0_3) ∧ w'.cell? ⟨gb1099, 4, none⟩ = some (.int .i64 a0_4)) (ds := []) #[false, false, false, false, false, false, false, false, false, false, false, false, false, false, false] (by kernel_rfl) rfl rfl ⟨(blk_cell BK1099.out 0).trans rfl, (blk_cell BK1099.out 1).trans rfl, (blk_cell BK1099.out 2).trans rfl, (blk_cell BK1099.out 3).trans rfl, (blk_cell BK1099.out 4).trans rfl⟩ (fun hHeld => ?_); refine with_tabW redraftlaw02_moves.tab5 redraftlaw02_moves.bits5 (fun HT_ HW_ => ?_)
   generalize w23.drew = w25 at BK1099 HB hHeld ⊢
   refine pure_ (i := 0) (N := some 43) (v := ?_) (a' := ?_) #[true, false, false, false, false, false, false, false, false, false, false, false, false, false, false] rfl rfl (any_of HT_.out (by kernel_rfl)) (fun _ _ _ h => h) (Or.inl ⟨by rfl, ?_⟩) ?_ ?_
   rotate_left
   ·intro w'
    go_simp
    with_reducible rfl
   rotate_left
   ·simp only [Act.put, List.setIfInBounds_toArray, List.set_cons_zero, List.set_cons_succ, i64_w, i32_w]
    rfl
   refine pure_ (i := 3) (N := some 46) (v := ?_) (a' := ?_) #[true, false, false, true, false, false, false, false, false, false, false, false, false, false, false] rfl rfl (any_of HT_.out (by kernel_rfl)) (fun _ _ _ h => h) (Or.inl ⟨by rfl, ?_⟩) ?_ ?_
   rotate_left
   ·intro w'
    go_simp
    with_reducible rfl
   rotate_left
   ·simp only [Act.put, List.setIfInBounds_toArray, List.set_cons_zero, List.set_cons_succ, i64_w, i32_w]
    rfl
   refine pure_ (i := 5) (N := some 48) (v := ?_) (a' := ?_) #[true, false, false, true, false, true, false, false, false, false, false, false, false, false, false] rfl rfl (any_of HT_.out (by kernel_rfl)) (fun _ _ _ h => h) (Or.inl ⟨by rfl, ?_⟩) ?_ ?_
   rotate_left
   ·intro w'
    go_simp
    with_reducible rfl
   rotate_left
   ·simp only [Act.put, List.setIfInBounds_toArray, List.set_cons_zero, List.set_cons_succ, i64_w, i32_w]
    rfl
   refine take_ (i := 1) (N := some 44) (v := ?_) (a' := ?_) #[true, true, false, true, false, true, false, false, false, false, false, false, false, false, false] rfl rfl (take_ofW HT_.out HW_.out (by kernel_rfl)) (fun _ _ _ h => h) (Or.inl ⟨by rfl, ?_⟩) hHeld ?_ ?_
   rotate_left
   ·rintro w' ⟨s0, s1, s2, s3, s4⟩
    go_simp
    with_reducible rfl
   rotate_left
   ·simp only [Act.put, List.setIfInBounds_toArray, List.set_cons_zero, List.set_cons_succ, i64_w, i32_w]
    rfl
   refine take_ (i := 4) (N := some 47) (v := ?_) (a' := ?_) #[true, true, false, true, true, true, false, false, false, false, false, false, false, false, false] rfl rfl (take_ofW HT_.out HW_.out (by kernel_rfl)) (fun _ _ _ h => h) (Or.inl ⟨by rfl, ?_⟩) hHeld ?_ ?_
   rotate_left
   ·rintro w' ⟨s0, s1, s2, s3, s4⟩
    go_simp
    with_reducible rfl
   rotate_left
   ·simp only [Act.put, List.setIfInBounds_toArray, List.set_cons_zero, List.set_cons_succ, i64_w, i32_w]
    rfl
   refine take_ (i := 6) (N := some 49) (v := ?_) (a' := ?_) #[true, true, false, true, true, true, true, false, false, false, false, false, false, false, false] rfl rfl (take_ofW HT_.out HW_.out (by kernel_rfl)) (fun _ _ _ h => h) (Or.inl ⟨by rfl, ?_⟩) hHeld ?_ ?_
   rotate_left
   ·rintro w' ⟨s0, s1, s2, s3, s4⟩
    go_simp
    with_reducible rfl
   rotate_left
   ·simp only [Act.put, List.setIfInBounds_toArray, List.set_cons_zero, List.set_cons_succ, i64_w, i32_w]
    rfl
   refine one_ (i := 2) (N := some 45) #[true, true, true, true, true, true, true, false, false, false, false, false, false, false, false] rfl rfl (one_of HT_.out (by kernel_rfl)) (by decide) (fun K hK => ?_)
   refine goes_ Try.func17 (by kernel_rfl) rfl #[.slice A0_1 l0_1.length c0_1] (by rfl) rfl rfl (by (try simp only [List.map_toArray, List.map_cons, List.map_nil]); first | done | rfl | (simp only [List.length_drop, List.length_take]; rfl)) ?_
   with_reducible refine (redraftlaw02_copied.calls _ _ l0_1 t1112 _ ?side1 ?side2 A17.out).mono ?_
   (case side1 => repeat (first | exact (Kd.C_below HR0_1.out HB.out) | (with_reducible refine Kd.C_alloc ?_ _) | (with_reducible refine Kd.C_drewN ?_ _) | (with_reducible refine Kd.C_drew ?_)))
   (case side2 => exact HC0_1.out)
   rintro e w26 ⟨v1113, rfl, ho0, hb⟩
   refine ⟨_, rfl, ?_⟩
   have n0_ := Aside0.mk (Kd.R_lower ho0 (below_size (by repeat (first | (with_reducible first | exact HB.out | apply below_alloc | apply pw_below_drewN | apply below_drew1 | refine below_set ?_ GE1099.out) | exact HB.out))))
   have n1_ := Aside0.mk (blk_below (g := gb1099) (o := .cells #[.int .i64 a0_0, .slice A0_1 l0_1.length c0_1, .slice A0_2 l0_2.length c0_2, .int .i64 a0_3, .int .i64 a0_4] 76 (0, 0)) (by (with_reducible repeat (first | refine blk_drewN ?_ _ | refine blk_drew ?_ | refine blk_alloc ?_ _)); exact BK1099.out) hb)
   have n2_ := Aside0.mk (below_step (by repeat (first | (with_reducible first | exact HB.out | apply below_alloc | apply pw_below_drewN | apply below_drew1 | refine below_set ?_ GE1099.out) | exact HB.out)) hb)
   clear BK1099
   clear HB
   have HO1114 := n0_
   have BK1099 := n1_
   have HB := n2_
   clear n0_ n1_ n2_
   (try clear hb)
   (try clear hb2)
   (try clear hk)
   (try clear hi)
   (try clear ho0)
   obtain ⟨Ao27, co27, eo27⟩ := Kd.R_slice HO1114.out
   (first | subst eo27 | (injection eo27 with f1_ f2_ f3_; have f4_ := f1_.symm; have f5_ := f3_.symm; clear f1_ f2_ f3_; subst f4_; subst f5_))
   refine hK.out _ _ ⟨(blk_cell BK1099.out 0).trans rfl, (blk_cell BK1099.out 1).trans rfl, (blk_cell BK1099.out 2).trans rfl, (blk_cell BK1099.out 3).trans rfl, (blk_cell BK1099.out 4).trans rfl⟩ (fun hHeld => ?_)
   clear hK K
   refine norm_ (a' := ?_) ?_ ?_
   rotate_left
   ·show Act.put _ (some 45) _ = _
    simp only [Act.put, List.setIfInBounds_toArray, List.set_cons_zero, List.set_cons_succ, i64_w, i32_w]
    rfl
   refine one_ (i := 7) (N := some 50) #[true, true, true, true, true, true, true, true, false, false, false, false, false, false, false] rfl rfl (one_of HT_.out (by kernel_rfl)) (by decide) (fun K hK => ?_)
   refine goes_ Try.func21 (by kernel_rfl) rfl #[.slice Ao27 t1112.length co27, .int .i64 a0_3, .int .i64 a0_4] (by rfl) rfl rfl (by (try simp only [List.map_toArray, List.map_cons, List.map_nil]); first | done | rfl | (simp only [List.length_drop, List.length_take]; rfl)) ?_
   with_reducible refine (span_Back.calls k _ _ t1112 a0_3 a0_4 t1115 t1116 t1117 _ ?side1 ?side2 A18.out).mono ?_
   (case side1 => repeat (first | exact (Kd.R_reads' HO1114.out).2.2 | (with_reducible refine Kd.C_alloc ?_ _) | (with_reducible refine Kd.C_drewN ?_ _) | (with_reducible refine Kd.C_drew ?_)))
   (case side2 => exact (Kd.R_reads' HO1114.out).2.1)
   rintro e w28 ⟨v1118, v1120, rfl, ho0, ho1, hb⟩
   refine ⟨_, rfl, ?_⟩
   have n0_ := Aside0.mk (Kd.R_mono (Kd.R_told (Kd.R_told (Kd.R_old (by (with_reducible repeat (first | apply Kd.R_alloc | apply Kd.R_drewN | apply Kd.R_drew)); exact HO1114.out) hb) (Kd.R_base ho0)) (Kd.R_base ho1)) (fun _ h_ => h_.1))
   have n1_ := Aside0.mk (Kd.R_lower (Kd.R_new' ho0 (Kd.R_lt (by (with_reducible repeat (first | apply Kd.R_alloc | apply Kd.R_drewN | apply Kd.R_drew)); exact HO1114.out))) (below_size (by repeat (first | (with_reducible first | exact HB.out | apply below_alloc | apply pw_below_drewN | apply below_drew1 | refine below_set ?_ GE1099.out) | exact HB.out))))
   have n2_ := Aside0.mk (Kd.R_lower (Kd.R_new' ho1 (Kd.R_lt (by (with_reducible repeat (first | apply Kd.R_alloc | apply Kd.R_drewN | apply Kd.R_drew)); exact HO1114.out))) (below_size (by repeat (first | (with_reducible first | exact HB.out | apply below_alloc | apply pw_below_drewN | apply below_drew1 | refine below_set ?_ GE1099.out) | exact HB.out))))
   have n3_ := Aside0.mk (blk_below (g := gb1099) (o := .cells #[.int .i64 a0_0, .slice A0_1 l0_1.length c0_1, .slice A0_2 l0_2.length c0_2, .int .i64 a0_3, .int .i64 a0_4] 76 (0, 0)) (by (with_reducible repeat (first | refine blk_drewN ?_ _ | refine blk_drew ?_ | refine blk_alloc ?_ _)); exact BK1099.out) hb)
   have n4_ := Aside0.mk (below_step (by repeat (first | (with_reducible first | exact HB.out | apply below_alloc | apply pw_below_drewN | apply below_drew1 | refine below_set ?_ GE1099.out) | exact HB.out)) hb)
   clear HO1114
   clear BK1099
   clear HB
   have HO1114 := n0_
   have HO1119 := n1_
   have HO1121 := n2_
   have BK1099 := n3_
   have HB := n4_
   clear n0_ n1_ n2_ n3_ n4_
   (try clear hb)
   (try clear hb2)
   (try clear hk)
   (try clear hi)
   (try clear ho0)
   (try clear ho1)
   refine hK.out _ _ ⟨(blk_cell BK1099.out 0).trans rfl, (blk_cell BK1099.out 1).trans rfl, (blk_cell BK1099.out 2).trans rfl, (blk_cell BK1099.out 3).trans rfl, (blk_cell BK1099.out 4).trans rfl⟩ (fun hHeld => ?_)
   clear hK K
   refine norm_ (a' := ?_) ?_ ?_
   rotate_left
   ·show Act.put _ (some 50) _ = _
    simp only [Act.put, List.setIfInBounds_toArray, List.set_cons_zero, List.set_cons_succ, i64_w, i32_w]
    rfl
   refine pure_ (i := 8) (N := some 42) (v := ?_) (a' := ?_) #[true, true, true, true, true, true, true, true, true, false, false, false, false, false, false] rfl rfl (any_of HT_.out (by kernel_rfl)) (fun _ _ _ h => h) (Or.inl ⟨by rfl, ?_⟩) ?_ ?_
   rotate_left
   ·intro w'
    go_simp
    with_reducible rfl
   rotate_left
   ·simp only [Act.put, List.setIfInBounds_toArray, List.set_cons_zero, List.set_cons_succ, i64_w, i32_w]
    rfl
   refine pure_ (i := 9) (N := some 51) (v := ?_) (a' := ?_) #[true, true, true, true, true, true, true, true, true, true, false, false, false, false, false] rfl rfl (any_of HT_.out (by kernel_rfl)) (fun _ _ _ h => h) (Or.inl ⟨by rfl, ?_⟩) ?_ ?_
   rotate_left
   ·intro w'
    go_simp
    with_reducible rfl
   rotate_left
   ·simp only [Act.put, List.setIfInBounds_toArray, List.set_cons_zero, List.set_cons_succ, i64_w, i32_w]
    rfl
   refine pure_ (i := 10) (N := some 52) (v := ?_) (a' := ?_) #[true, true, true, true, true, true, true, true, true, true, true, false, false, false, false] rfl rfl (any_of HT_.out (by kernel_rfl)) (fun _ _ _ h => h) (Or.inl ⟨by rfl, ?_⟩) ?_ ?_
   rotate_left
   ·intro w'
    go_simp
    with_reducible rfl
   rotate_left
   ·simp only [Act.put, List.setIfInBounds_toArray, List.set_cons_zero, List.set_cons_succ, i64_w, i32_w]
    rfl
   refine pure_ (i := 11) (N := some 53) (v := ?_) (a' := ?_) #[true, true, true, true, true, true, true, true, true, true, true, true, false, false, false] rfl rfl (any_of HT_.out (by kernel_rfl)) (fun _ _ _ h => h) (Or.inl ⟨by rfl, ?_⟩) ?_ ?_
   rotate_left
   ·intro w'
    go_simp
    with_reducible rfl
   rotate_left
   ·simp only [Act.put, List.setIfInBounds_toArray, List.set_cons_zero, List.set_cons_succ, i64_w, i32_w]
    rfl
   refine pure_ (i := 12) (N := some 7) (v := ?_) (a' := ?_) #[true, true, true, true, true, true, true, true, true, true, true, true, true, false, false] rfl rfl (any_of HT_.out (by kernel_rfl)) (fun _ _ _ h => h) (Or.inl ⟨by rfl, ?_⟩) ?_ ?_
   rotate_left
   ·intro w'
    go_simp
    with_reducible rfl
   rotate_left
   ·simp only [Act.put, List.setIfInBounds_toArray, List.set_cons_zero, List.set_cons_succ, i64_w, i32_w]
    rfl
   refine pure_ (i := 13) (N := some 8) (v := ?_) (a' := ?_) #[true, true, true, true, true, true, true, true, true, true, true, true, true, true, false] rfl rfl (any_of HT_.out (by kernel_rfl)) (fun _ _ _ h => h) (Or.inl ⟨by rfl, ?_⟩) ?_ ?_
   rotate_left
   ·intro w'
    go_simp
    with_reducible rfl
   rotate_left
   ·simp only [Act.put, List.setIfInBounds_toArray, List.set_cons_zero, List.set_cons_succ, i64_w, i32_w]
    rfl
   refine pure_ (i := 14) (N := some 9) (v := ?_) (a' := ?_) #[true, true, true, true, true, true, true, true, true, true, true, true, true, true, true] rfl rfl (any_of HT_.out (by kernel_rfl)) (fun _ _ _ h => h) (Or.inl ⟨by rfl, ?_⟩) ?_ ?_
   rotate_left
   ·intro w'
    go_simp
    with_reducible rfl
   rotate_left
   ·simp only [Act.put, List.setIfInBounds_toArray, List.set_cons_zero, List.set_cons_succ, i64_w, i32_w]
    rfl
   refine done_ (done_of HT_.out (by kernel_rfl)) ?_
   have hcz29_0 : w28.cell? ⟨gb1099, 0, none⟩ = some (.int .i64 a0_0) := (blk_cell BK1099.out 0).trans rfl
   have hcz29_1 : w28.cell? ⟨gb1099, 1, none⟩ = some (.slice A0_1 l0_1.length c0_1) := (blk_cell BK1099.out 1).trans rfl
   have hcz29_2 : w28.cell? ⟨gb1099, 2, none⟩ = some (.slice A0_2 l0_2.length c0_2) := (blk_cell BK1099.out 2).trans rfl
   have hcz29_3 : w28.cell? ⟨gb1099, 3, none⟩ = some (.int .i64 a0_3) := (blk_cell BK1099.out 3).trans rfl
   have hcz29_4 : w28.cell? ⟨gb1099, 4, none⟩ = some (.int .i64 a0_4) := (blk_cell BK1099.out 4).trans rfl
   have hfz29_0 := blk_frozen BK1099.out 0
   have hfz29_1 := blk_frozen BK1099.out 1
   have hfz29_2 := blk_frozen BK1099.out 2
   have hfz29_3 := blk_frozen BK1099.out 3
   have hfz29_4 := blk_frozen BK1099.out 4
   try go_wp2_with (first | ((with_reducible refine gate_callee (f := 84) rfl ?_); refine goesL_ (some 61) rfl rfl Try.func84 (by kernel_rfl) rfl #[.slice A0_1 l0_1.length c0_1, .int .i64 a0_3, .int .i64 a0_4] rfl (by (try simp only [List.map_toArray, List.map_cons, List.map_nil]); first | done | rfl | (simp only [List.length_drop, List.length_take]; rfl)) ?_; (with_reducible refine (redraftref02_Back.calls k _ _ l0_1 a0_3 a0_4 t1122 t1123 t1124 _ ?side1 ?side2 A19.out).mono ?_); (case side1 => repeat (first | exact (Kd.C_below HR0_1.out HB.out) | (with_reducible refine Kd.C_alloc ?_ _) | (with_reducible refine Kd.C_drewN ?_ _) | (with_reducible refine Kd.C_drew ?_))); (case side2 => exact HC0_1.out); rintro e w30 ⟨v1125, v1127, rfl, ho0, ho1, hb⟩; refine ⟨_, rfl, ?_⟩; have n0_ := Aside0.mk (Kd.R_mono (Kd.R_told (Kd.R_told (Kd.R_old (by (with_reducible repeat (first | apply Kd.R_alloc | apply Kd.R_drewN | apply Kd.R_drew)); exact HO1114.out) hb) (Kd.R_base ho0)) (Kd.R_base ho1)) (fun _ h_ => h_.1)); have n1_ := Aside0.mk (Kd.R_mono (Kd.R_told (Kd.R_told (Kd.R_old (by (with_reducible repeat (first | apply Kd.R_alloc | apply Kd.R_drewN | apply Kd.R_drew)); exact HO1119.out) hb) (Kd.R_base ho0)) (Kd.R_base ho1)) (fun _ h_ => h_.1)); have n2_ := Aside0.mk (Kd.R_mono (Kd.R_told (Kd.R_told (Kd.R_old (by (with_reducible repeat (first | apply Kd.R_alloc | apply Kd.R_drewN | apply Kd.R_drew)); exact HO1121.out) hb) (Kd.R_base ho0)) (Kd.R_base ho1)) (fun _ h_ => h_.1)); have n3_ := Aside0.mk (Kd.R_lower (Kd.R_new' (Kd.R_new' (Kd.R_new' ho0 (Kd.R_lt (by (with_reducible repeat (first | apply Kd.R_alloc | apply Kd.R_drewN | apply Kd.R_drew)); exact HO1114.out))) (Kd.R_lt (by (with_reducible repeat (first | apply Kd.R_alloc | apply Kd.R_drewN | apply Kd.R_drew)); exact HO1119.out))) (Kd.R_lt (by (with_reducible repeat (first | apply Kd.R_alloc | apply Kd.R_drewN | apply Kd.R_drew)); exact HO1121.out))) (below_size (by repeat (first | (with_reducible first | exact HB.out | apply below_alloc | apply pw_below_drewN | apply below_drew1 | refine below_set ?_ GE1099.out) | exact HB.out)))); have n4_ := Aside0.mk (Kd.R_lower (Kd.R_new' (Kd.R_new' (Kd.R_new' ho1 (Kd.R_lt (by (with_reducible repeat (first | apply Kd.R_alloc | apply Kd.R_drewN | apply Kd.R_drew)); exact HO1114.out))) (Kd.R_lt (by (with_reducible repeat (first | apply Kd.R_alloc | apply Kd.R_drewN | apply Kd.R_drew)); exact HO1119.out))) (Kd.R_lt (by (with_reducible repeat (first | apply Kd.R_alloc | apply Kd.R_drewN | apply Kd.R_drew)); exact HO1121.out))) (below_size (by repeat (first | (with_reducible first | exact HB.out | apply below_alloc | apply pw_below_drewN | apply below_drew1 | refine below_set ?_ GE1099.out) | exact HB.out)))); have n5_ := Aside0.mk (blk_below (g := gb1099) (o := .cells #[.int .i64 a0_0, .slice A0_1 l0_1.length c0_1, .slice A0_2 l0_2.length c0_2, .int .i64 a0_3, .int .i64 a0_4] 76 (0, 0)) (by (with_reducible repeat (first | refine blk_drewN ?_ _ | refine blk_drew ?_ | refine blk_alloc ?_ _)); exact BK1099.out) hb); have n6_ := Aside0.mk (below_step (by repeat (first | (with_reducible first | exact HB.out | apply below_alloc | apply pw_below_drewN | apply below_drew1 | refine below_set ?_ GE1099.out) | exact HB.out)) hb); clear HO1114; clear HO1119; clear HO1121; clear BK1099; clear HB; have HO1114 := n0_; have HO1119 := n1_; have HO1121 := n2_; have HO1126 := n3_; have HO1128 := n4_; have BK1099 := n5_; have HB := n6_; clear n0_ n1_ n2_ n3_ n4_ n5_ n6_; (try clear hb); (try clear hb2); (try clear hk); (try clear hi); (try clear ho0); (try clear ho1); obtain ⟨Ao31, co31, eo31⟩ := Kd.R_slice HO1119.out; subst eo31; obtain ⟨Ao32, co32, eo32⟩ := Kd.R_slice HO1126.out; subst eo32) | ((with_reducible refine gate_callee (f := 76) rfl ?_); refine goesL_ (some 69) rfl rfl Try.func76 (by kernel_rfl) rfl #[.slice Ao31 t1115.length co31, .int .i64 t1117, .slice Ao32 t1122.length co32, .int .i64 t1124] rfl (by (try simp only [List.map_toArray, List.map_cons, List.map_nil]); first | done | rfl | (simp only [List.length_drop, List.length_take]; rfl)) ?_; (with_reducible refine (redraftlaw02_list.calls k _ _ t1115 t1117 _ _ t1122 t1124 true _ ?side1 ?side2 ?side3 ?side4 A20.out).mono ?_); (case side1 => repeat (first | exact (Kd.R_reads' HO1119.out).2.2 | (with_reducible refine Kd.C_alloc ?_ _) | (with_reducible refine Kd.C_drewN ?_ _) | (with_reducible refine Kd.C_drew ?_))); (case side2 => exact (Kd.R_reads' HO1119.out).2.1); (case side3 => repeat (first | exact (Kd.R_reads' HO1126.out).2.2 | (with_reducible refine Kd.C_alloc ?_ _) | (with_reducible refine Kd.C_drewN ?_ _) | (with_reducible refine Kd.C_drew ?_))); (case side4 => exact (Kd.R_reads' HO1126.out).2.1); rintro e w' ⟨rfl, ⟨nd, rfl⟩⟩; refine ⟨_, rfl, ?_⟩; obtain ⟨Ao33, co33, eo33⟩ := Kd.R_slice HO1121.out; subst eo33; obtain ⟨Ao34, co34, eo34⟩ := Kd.R_slice HO1128.out; subst eo34) | (go_at_call 25; (with_reducible refine (redraftlaw02_same.calls k _ _ t1116 _ _ t1123 t1130 _ ?side1 ?side2 ?side3 ?side4 A22.out).mono ?_); (case side1 => repeat (first | exact (Kd.R_reads' HO1121.out).2.2 | (with_reducible refine Kd.C_alloc ?_ _) | (with_reducible refine Kd.C_drewN ?_ _) | (with_reducible refine Kd.C_drew ?_))); (case side2 => exact (Kd.R_reads' HO1121.out).2.1); (case side3 => repeat (first | exact (Kd.R_reads' HO1128.out).2.2 | (with_reducible refine Kd.C_alloc ?_ _) | (with_reducible refine Kd.C_drewN ?_ _) | (with_reducible refine Kd.C_drew ?_))); (case side4 => exact (Kd.R_reads' HO1128.out).2.1); rintro e w' ⟨rfl, ⟨nd, rfl⟩⟩))
   go_ret
   exact ⟨by first | rfl | (simp [errW_none, errW_some] <;> rfl) | (simp [*, errW_none, errW_some] <;> rfl), by repeat (first | (with_reducible first | exact HB.out | apply below_alloc | apply pw_below_drewN | apply below_drew1 | refine below_set ?_ GE1099.out) | exact HB.out)⟩
  ·replace c21 := Bool.eq_false_iff.mpr c21
   subst c21
   have H1 : (some false) = some r := by rw [if_neg (show ¬ (false = true) by decide)] at H; exact H
   clear H
   have H := H1
   clear H1
   obtain rfl := Option.some.inj H
   go_enter Try.func63, Try.ntmps63
   try go_wp2_with (first | ((with_reducible refine gate_dst (N := 1) rfl ?_); refine box_event ?hg (N := 1) ?hd (cs := #[.int .i64 a0_0, .slice A0_1 l0_1.length c0_1, .slice A0_2 l0_2.length c0_2, .int .i64 a0_3, .int .i64 a0_4]) (t := 76) ?hr ?_; (case hd => rfl); (case hg => rfl); (case hr => first | (go_simp; done) | (go_simp; rfl)); intro gb1099 hg w35 hbox hb; have n0_ := Aside0.mk (below_step (by repeat (first | (with_reducible first | exact HB.out | apply below_alloc | apply pw_below_drewN | apply below_drew1) | exact HB.out)) hb); have n1_ := Aside0.mk (hbox); have n2_ := Aside0.mk ((by rw [hg]; exact (below_size (by repeat (first | (with_reducible first | exact HB.out | apply below_alloc | apply pw_below_drewN | apply below_drew1) | exact HB.out))) : w.heap.size ≤ gb1099)); have n3_ := Aside0.mk ((by rw [hg]; exact (below_size (by repeat (first | (with_reducible first | exact HB.out | apply below_alloc | apply pw_below_drewN | apply below_drew1) | exact HB.out))) : w.heap.size ≤ gb1099)); clear HB; have HB := n0_; have BK1099 := n1_; have GW1099 := n2_; have GE1099 := n3_; clear n0_ n1_ n2_ n3_; clear hb hbox hg; have hcz36_0 : w35.cell? ⟨gb1099, 0, none⟩ = some (.int .i64 a0_0) := (blk_cell BK1099.out 0).trans rfl; have hcz36_1 : w35.cell? ⟨gb1099, 1, none⟩ = some (.slice A0_1 l0_1.length c0_1) := (blk_cell BK1099.out 1).trans rfl; have hcz36_2 : w35.cell? ⟨gb1099, 2, none⟩ = some (.slice A0_2 l0_2.length c0_2) := (blk_cell BK1099.out 2).trans rfl; have hcz36_3 : w35.cell? ⟨gb1099, 3, none⟩ = some (.int .i64 a0_3) := (blk_cell BK1099.out 3).trans rfl; have hcz36_4 : w35.cell? ⟨gb1099, 4, none⟩ = some (.int .i64 a0_4) := (blk_cell BK1099.out 4).trans rfl; have hfz36_0 := blk_frozen BK1099.out 0; have hfz36_1 := blk_frozen BK1099.out 1; have hfz36_2 := blk_frozen BK1099.out 2; have hfz36_3 := blk_frozen BK1099.out 3; have hfz36_4 := blk_frozen BK1099.out 4))
   have n0_ := Aside0.mk (blk_drew BK1099.out)
   have n1_ := Aside0.mk (below_drew1 HB.out)
   clear BK1099
   clear HB
   have BK1099 := n0_
   have HB := n1_
   clear n0_ n1_
   refine start_ (n := 15) (S := fun w' => w'.cell? ⟨gb1099, 0, none⟩ = some (.int .i64 a0_0) ∧ w'.cell? ⟨gb1099, 1, none⟩ = some (.slice A0_1 l0_1.length c0_1) ∧ w'.cell? ⟨gb1099, 2, none⟩ = some (.slice A0_2 l0_2.length c0_2) ∧ w'.cell? ⟨gb1099, 3, none⟩ = some (.int .i64 a0_3) ∧ w'.cell? ⟨gb1099, 4, none⟩ = some (.int .i64 a0_4)) (ds := []) #[false, false, false, false, false, false, false, false, false, false, false, false, false, false, false] (by kernel_rfl) rfl rfl ⟨(blk_cell BK1099.out 0).trans rfl, (blk_cell BK1099.out 1).trans rfl, (blk_cell BK1099.out 2).trans rfl, (blk_cell BK1099.out 3).trans rfl, (blk_cell BK1099.out 4).trans rfl⟩ (fun hHeld => ?_); refine with_tabW redraftlaw02_moves.tab5 redraftlaw02_moves.bits5 (fun HT_ HW_ => ?_)
   generalize w35.drew = w37 at BK1099 HB hHeld ⊢
   refine pure_ (i := 0) (N := some 43) (v := ?_) (a' := ?_) #[true, false, false, false, false, false, false, false, false, false, false, false, false, false, false] rfl rfl (any_of HT_.out (by kernel_rfl)) (fun _ _ _ h => h) (Or.inl ⟨by rfl, ?_⟩) ?_ ?_
   rotate_left
   ·intro w'
    go_simp
    with_reducible rfl
   rotate_left
   ·simp only [Act.put, List.setIfInBounds_toArray, List.set_cons_zero, List.set_cons_succ, i64_w, i32_w]
    rfl
   refine pure_ (i := 3) (N := some 46) (v := ?_) (a' := ?_) #[true, false, false, true, false, false, false, false, false, false, false, false, false, false, false] rfl rfl (any_of HT_.out (by kernel_rfl)) (fun _ _ _ h => h) (Or.inl ⟨by rfl, ?_⟩) ?_ ?_
   rotate_left
   ·intro w'
    go_simp
    with_reducible rfl
   rotate_left
   ·simp only [Act.put, List.setIfInBounds_toArray, List.set_cons_zero, List.set_cons_succ, i64_w, i32_w]
    rfl
   refine pure_ (i := 5) (N := some 48) (v := ?_) (a' := ?_) #[true, false, false, true, false, true, false, false, false, false, false, false, false, false, false] rfl rfl (any_of HT_.out (by kernel_rfl)) (fun _ _ _ h => h) (Or.inl ⟨by rfl, ?_⟩) ?_ ?_
   rotate_left
   ·intro w'
    go_simp
    with_reducible rfl
   rotate_left
   ·simp only [Act.put, List.setIfInBounds_toArray, List.set_cons_zero, List.set_cons_succ, i64_w, i32_w]
    rfl
   refine take_ (i := 1) (N := some 44) (v := ?_) (a' := ?_) #[true, true, false, true, false, true, false, false, false, false, false, false, false, false, false] rfl rfl (take_ofW HT_.out HW_.out (by kernel_rfl)) (fun _ _ _ h => h) (Or.inl ⟨by rfl, ?_⟩) hHeld ?_ ?_
   rotate_left
   ·rintro w' ⟨s0, s1, s2, s3, s4⟩
    go_simp
    with_reducible rfl
   rotate_left
   ·simp only [Act.put, List.setIfInBounds_toArray, List.set_cons_zero, List.set_cons_succ, i64_w, i32_w]
    rfl
   refine take_ (i := 4) (N := some 47) (v := ?_) (a' := ?_) #[true, true, false, true, true, true, false, false, false, false, false, false, false, false, false] rfl rfl (take_ofW HT_.out HW_.out (by kernel_rfl)) (fun _ _ _ h => h) (Or.inl ⟨by rfl, ?_⟩) hHeld ?_ ?_
   rotate_left
   ·rintro w' ⟨s0, s1, s2, s3, s4⟩
    go_simp
    with_reducible rfl
   rotate_left
   ·simp only [Act.put, List.setIfInBounds_toArray, List.set_cons_zero, List.set_cons_succ, i64_w, i32_w]
    rfl
   refine take_ (i := 6) (N := some 49) (v := ?_) (a' := ?_) #[true, true, false, true, true, true, true, false, false, false, false, false, false, false, false] rfl rfl (take_ofW HT_.out HW_.out (by kernel_rfl)) (fun _ _ _ h => h) (Or.inl ⟨by rfl, ?_⟩) hHeld ?_ ?_
   rotate_left
   ·rintro w' ⟨s0, s1, s2, s3, s4⟩
    go_simp
    with_reducible rfl
   rotate_left
   ·simp only [Act.put, List.setIfInBounds_toArray, List.set_cons_zero, List.set_cons_succ, i64_w, i32_w]
    rfl
   refine one_ (i := 2) (N := some 45) #[true, true, true, true, true, true, true, false, false, false, false, false, false, false, false] rfl rfl (one_of HT_.out (by kernel_rfl)) (by decide) (fun K hK => ?_)
   refine goes_ Try.func17 (by kernel_rfl) rfl #[.slice A0_1 l0_1.length c0_1] (by rfl) rfl rfl (by (try simp only [List.map_toArray, List.map_cons, List.map_nil]); first | done | rfl | (simp only [List.length_drop, List.length_take]; rfl)) ?_
   with_reducible refine (redraftlaw02_copied.calls _ _ l0_1 t1112 _ ?side1 ?side2 A17.out).mono ?_
   (case side1 => repeat (first | exact (Kd.C_below HR0_1.out HB.out) | (with_reducible refine Kd.C_alloc ?_ _) | (with_reducible refine Kd.C_drewN ?_ _) | (with_reducible refine Kd.C_drew ?_)))
   (case side2 => exact HC0_1.out)
   rintro e w38 ⟨v1113, rfl, ho0, hb⟩
   refine ⟨_, rfl, ?_⟩
   have n0_ := Aside0.mk (Kd.R_lower ho0 (below_size (by repeat (first | (with_reducible first | exact HB.out | apply below_alloc | apply pw_below_drewN | apply below_drew1 | refine below_set ?_ GE1099.out) | exact HB.out))))
   have n1_ := Aside0.mk (blk_below (g := gb1099) (o := .cells #[.int .i64 a0_0, .slice A0_1 l0_1.length c0_1, .slice A0_2 l0_2.length c0_2, .int .i64 a0_3, .int .i64 a0_4] 76 (0, 0)) (by (with_reducible repeat (first | refine blk_drewN ?_ _ | refine blk_drew ?_ | refine blk_alloc ?_ _)); exact BK1099.out) hb)
   have n2_ := Aside0.mk (below_step (by repeat (first | (with_reducible first | exact HB.out | apply below_alloc | apply pw_below_drewN | apply below_drew1 | refine below_set ?_ GE1099.out) | exact HB.out)) hb)
   clear BK1099
   clear HB
   have HO1114 := n0_
   have BK1099 := n1_
   have HB := n2_
   clear n0_ n1_ n2_
   (try clear hb)
   (try clear hb2)
   (try clear hk)
   (try clear hi)
   (try clear ho0)
   obtain ⟨Ao39, co39, eo39⟩ := Kd.R_slice HO1114.out
   (first | subst eo39 | (injection eo39 with f1_ f2_ f3_; have f4_ := f1_.symm; have f5_ := f3_.symm; clear f1_ f2_ f3_; subst f4_; subst f5_))
   refine hK.out _ _ ⟨(blk_cell BK1099.out 0).trans rfl, (blk_cell BK1099.out 1).trans rfl, (blk_cell BK1099.out 2).trans rfl, (blk_cell BK1099.out 3).trans rfl, (blk_cell BK1099.out 4).trans rfl⟩ (fun hHeld => ?_)
   clear hK K
   refine norm_ (a' := ?_) ?_ ?_
   rotate_left
   ·show Act.put _ (some 45) _ = _
    simp only [Act.put, List.setIfInBounds_toArray, List.set_cons_zero, List.set_cons_succ, i64_w, i32_w]
    rfl
   refine one_ (i := 7) (N := some 50) #[true, true, true, true, true, true, true, true, false, false, false, false, false, false, false] rfl rfl (one_of HT_.out (by kernel_rfl)) (by decide) (fun K hK => ?_)
   refine goes_ Try.func21 (by kernel_rfl) rfl #[.slice Ao39 t1112.length co39, .int .i64 a0_3, .int .i64 a0_4] (by rfl) rfl rfl (by (try simp only [List.map_toArray, List.map_cons, List.map_nil]); first | done | rfl | (simp only [List.length_drop, List.length_take]; rfl)) ?_
   with_reducible refine (span_Back.calls k _ _ t1112 a0_3 a0_4 t1115 t1116 t1117 _ ?side1 ?side2 A18.out).mono ?_
   (case side1 => repeat (first | exact (Kd.R_reads' HO1114.out).2.2 | (with_reducible refine Kd.C_alloc ?_ _) | (with_reducible refine Kd.C_drewN ?_ _) | (with_reducible refine Kd.C_drew ?_)))
   (case side2 => exact (Kd.R_reads' HO1114.out).2.1)
   rintro e w40 ⟨v1118, v1120, rfl, ho0, ho1, hb⟩
   refine ⟨_, rfl, ?_⟩
   have n0_ := Aside0.mk (Kd.R_mono (Kd.R_told (Kd.R_told (Kd.R_old (by (with_reducible repeat (first | apply Kd.R_alloc | apply Kd.R_drewN | apply Kd.R_drew)); exact HO1114.out) hb) (Kd.R_base ho0)) (Kd.R_base ho1)) (fun _ h_ => h_.1))
   have n1_ := Aside0.mk (Kd.R_lower (Kd.R_new' ho0 (Kd.R_lt (by (with_reducible repeat (first | apply Kd.R_alloc | apply Kd.R_drewN | apply Kd.R_drew)); exact HO1114.out))) (below_size (by repeat (first | (with_reducible first | exact HB.out | apply below_alloc | apply pw_below_drewN | apply below_drew1 | refine below_set ?_ GE1099.out) | exact HB.out))))
   have n2_ := Aside0.mk (Kd.R_lower (Kd.R_new' ho1 (Kd.R_lt (by (with_reducible repeat (first | apply Kd.R_alloc | apply Kd.R_drewN | apply Kd.R_drew)); exact HO1114.out))) (below_size (by repeat (first | (with_reducible first | exact HB.out | apply below_alloc | apply pw_below_drewN | apply below_drew1 | refine below_set ?_ GE1099.out) | exact HB.out))))
   have n3_ := Aside0.mk (blk_below (g := gb1099) (o := .cells #[.int .i64 a0_0, .slice A0_1 l0_1.length c0_1, .slice A0_2 l0_2.length c0_2, .int .i64 a0_3, .int .i64 a0_4] 76 (0, 0)) (by (with_reducible repeat (first | refine blk_drewN ?_ _ | refine blk_drew ?_ | refine blk_alloc ?_ _)); exact BK1099.out) hb)
   have n4_ := Aside0.mk (below_step (by repeat (first | (with_reducible first | exact HB.out | apply below_alloc | apply pw_below_drewN | apply below_drew1 | refine below_set ?_ GE1099.out) | exact HB.out)) hb)
   clear HO1114
   clear BK1099
   clear HB
   have HO1114 := n0_
   have HO1119 := n1_
   have HO1121 := n2_
   have BK1099 := n3_
   have HB := n4_
   clear n0_ n1_ n2_ n3_ n4_
   (try clear hb)
   (try clear hb2)
   (try clear hk)
   (try clear hi)
   (try clear ho0)
   (try clear ho1)
   refine hK.out _ _ ⟨(blk_cell BK1099.out 0).trans rfl, (blk_cell BK1099.out 1).trans rfl, (blk_cell BK1099.out 2).trans rfl, (blk_cell BK1099.out 3).trans rfl, (blk_cell BK1099.out 4).trans rfl⟩ (fun hHeld => ?_)
   clear hK K
   refine norm_ (a' := ?_) ?_ ?_
   rotate_left
   ·show Act.put _ (some 50) _ = _
    simp only [Act.put, List.setIfInBounds_toArray, List.set_cons_zero, List.set_cons_succ, i64_w, i32_w]
    rfl
   refine pure_ (i := 8) (N := some 42) (v := ?_) (a' := ?_) #[true, true, true, true, true, true, true, true, true, false, false, false, false, false, false] rfl rfl (any_of HT_.out (by kernel_rfl)) (fun _ _ _ h => h) (Or.inl ⟨by rfl, ?_⟩) ?_ ?_
   rotate_left
   ·intro w'
    go_simp
    with_reducible rfl
   rotate_left
   ·simp only [Act.put, List.setIfInBounds_toArray, List.set_cons_zero, List.set_cons_succ, i64_w, i32_w]
    rfl
   refine pure_ (i := 9) (N := some 51) (v := ?_) (a' := ?_) #[true, true, true, true, true, true, true, true, true, true, false, false, false, false, false] rfl rfl (any_of HT_.out (by kernel_rfl)) (fun _ _ _ h => h) (Or.inl ⟨by rfl, ?_⟩) ?_ ?_
   rotate_left
   ·intro w'
    go_simp
    with_reducible rfl
   rotate_left
   ·simp only [Act.put, List.setIfInBounds_toArray, List.set_cons_zero, List.set_cons_succ, i64_w, i32_w]
    rfl
   refine pure_ (i := 10) (N := some 52) (v := ?_) (a' := ?_) #[true, true, true, true, true, true, true, true, true, true, true, false, false, false, false] rfl rfl (any_of HT_.out (by kernel_rfl)) (fun _ _ _ h => h) (Or.inl ⟨by rfl, ?_⟩) ?_ ?_
   rotate_left
   ·intro w'
    go_simp
    with_reducible rfl
   rotate_left
   ·simp only [Act.put, List.setIfInBounds_toArray, List.set_cons_zero, List.set_cons_succ, i64_w, i32_w]
    rfl
   refine pure_ (i := 11) (N := some 53) (v := ?_) (a' := ?_) #[true, true, true, true, true, true, true, true, true, true, true, true, false, false, false] rfl rfl (any_of HT_.out (by kernel_rfl)) (fun _ _ _ h => h) (Or.inl ⟨by rfl, ?_⟩) ?_ ?_
   rotate_left
   ·intro w'
    go_simp
    with_reducible rfl
   rotate_left
   ·simp only [Act.put, List.setIfInBounds_toArray, List.set_cons_zero, List.set_cons_succ, i64_w, i32_w]
    rfl
   refine pure_ (i := 12) (N := some 7) (v := ?_) (a' := ?_) #[true, true, true, true, true, true, true, true, true, true, true, true, true, false, false] rfl rfl (any_of HT_.out (by kernel_rfl)) (fun _ _ _ h => h) (Or.inl ⟨by rfl, ?_⟩) ?_ ?_
   rotate_left
   ·intro w'
    go_simp
    with_reducible rfl
   rotate_left
   ·simp only [Act.put, List.setIfInBounds_toArray, List.set_cons_zero, List.set_cons_succ, i64_w, i32_w]
    rfl
   refine pure_ (i := 13) (N := some 8) (v := ?_) (a' := ?_) #[true, true, true, true, true, true, true, true, true, true, true, true, true, true, false] rfl rfl (any_of HT_.out (by kernel_rfl)) (fun _ _ _ h => h) (Or.inl ⟨by rfl, ?_⟩) ?_ ?_
   rotate_left
   ·intro w'
    go_simp
    with_reducible rfl
   rotate_left
   ·simp only [Act.put, List.setIfInBounds_toArray, List.set_cons_zero, List.set_cons_succ, i64_w, i32_w]
    rfl
   refine pure_ (i := 14) (N := some 9) (v := ?_) (a' := ?_) #[true, true, true, true, true, true, true, true, true, true, true, true, true, true, true] rfl rfl (any_of HT_.out (by kernel_rfl)) (fun _ _ _ h => h) (Or.inl ⟨by rfl, ?_⟩) ?_ ?_
   rotate_left
   ·intro w'
    go_simp
    with_reducible rfl
   rotate_left
   ·simp only [Act.put, List.setIfInBounds_toArray, List.set_cons_zero, List.set_cons_succ, i64_w, i32_w]
    rfl
   refine done_ (done_of HT_.out (by kernel_rfl)) ?_
   have hcz41_0 : w40.cell? ⟨gb1099, 0, none⟩ = some (.int .i64 a0_0) := (blk_cell BK1099.out 0).trans rfl
   have hcz41_1 : w40.cell? ⟨gb1099, 1, none⟩ = some (.slice A0_1 l0_1.length c0_1) := (blk_cell BK1099.out 1).trans rfl
   have hcz41_2 : w40.cell? ⟨gb1099, 2, none⟩ = some (.slice A0_2 l0_2.length c0_2) := (blk_cell BK1099.out 2).trans rfl
   have hcz41_3 : w40.cell? ⟨gb1099, 3, none⟩ = some (.int .i64 a0_3) := (blk_cell BK1099.out 3).trans rfl
   have hcz41_4 : w40.cell? ⟨gb1099, 4, none⟩ = some (.int .i64 a0_4) := (blk_cell BK1099.out 4).trans rfl
   have hfz41_0 := blk_frozen BK1099.out 0
   have hfz41_1 := blk_frozen BK1099.out 1
   have hfz41_2 := blk_frozen BK1099.out 2
   have hfz41_3 := blk_frozen BK1099.out 3
   have hfz41_4 := blk_frozen BK1099.out 4
   try go_wp2_with (first | ((with_reducible refine gate_callee (f := 84) rfl ?_); refine goesL_ (some 61) rfl rfl Try.func84 (by kernel_rfl) rfl #[.slice A0_1 l0_1.length c0_1, .int .i64 a0_3, .int .i64 a0_4] rfl (by (try simp only [List.map_toArray, List.map_cons, List.map_nil]); first | done | rfl | (simp only [List.length_drop, List.length_take]; rfl)) ?_; (with_reducible refine (redraftref02_Back.calls k _ _ l0_1 a0_3 a0_4 t1122 t1123 t1124 _ ?side1 ?side2 A19.out).mono ?_); (case side1 => repeat (first | exact (Kd.C_below HR0_1.out HB.out) | (with_reducible refine Kd.C_alloc ?_ _) | (with_reducible refine Kd.C_drewN ?_ _) | (with_reducible refine Kd.C_drew ?_))); (case side2 => exact HC0_1.out); rintro e w42 ⟨v1125, v1127, rfl, ho0, ho1, hb⟩; refine ⟨_, rfl, ?_⟩; have n0_ := Aside0.mk (Kd.R_mono (Kd.R_told (Kd.R_told (Kd.R_old (by (with_reducible repeat (first | apply Kd.R_alloc | apply Kd.R_drewN | apply Kd.R_drew)); exact HO1114.out) hb) (Kd.R_base ho0)) (Kd.R_base ho1)) (fun _ h_ => h_.1)); have n1_ := Aside0.mk (Kd.R_mono (Kd.R_told (Kd.R_told (Kd.R_old (by (with_reducible repeat (first | apply Kd.R_alloc | apply Kd.R_drewN | apply Kd.R_drew)); exact HO1119.out) hb) (Kd.R_base ho0)) (Kd.R_base ho1)) (fun _ h_ => h_.1)); have n2_ := Aside0.mk (Kd.R_mono (Kd.R_told (Kd.R_told (Kd.R_old (by (with_reducible repeat (first | apply Kd.R_alloc | apply Kd.R_drewN | apply Kd.R_drew)); exact HO1121.out) hb) (Kd.R_base ho0)) (Kd.R_base ho1)) (fun _ h_ => h_.1)); have n3_ := Aside0.mk (Kd.R_lower (Kd.R_new' (Kd.R_new' (Kd.R_new' ho0 (Kd.R_lt (by (with_reducible repeat (first | apply Kd.R_alloc | apply Kd.R_drewN | apply Kd.R_drew)); exact HO1114.out))) (Kd.R_lt (by (with_reducible repeat (first | apply Kd.R_alloc | apply Kd.R_drewN | apply Kd.R_drew)); exact HO1119.out))) (Kd.R_lt (by (with_reducible repeat (first | apply Kd.R_alloc | apply Kd.R_drewN | apply Kd.R_drew)); exact HO1121.out))) (below_size (by repeat (first | (with_reducible first | exact HB.out | apply below_alloc | apply pw_below_drewN | apply below_drew1 | refine below_set ?_ GE1099.out) | exact HB.out)))); have n4_ := Aside0.mk (Kd.R_lower (Kd.R_new' (Kd.R_new' (Kd.R_new' ho1 (Kd.R_lt (by (with_reducible repeat (first | apply Kd.R_alloc | apply Kd.R_drewN | apply Kd.R_drew)); exact HO1114.out))) (Kd.R_lt (by (with_reducible repeat (first | apply Kd.R_alloc | apply Kd.R_drewN | apply Kd.R_drew)); exact HO1119.out))) (Kd.R_lt (by (with_reducible repeat (first | apply Kd.R_alloc | apply Kd.R_drewN | apply Kd.R_drew)); exact HO1121.out))) (below_size (by repeat (first | (with_reducible first | exact HB.out | apply below_alloc | apply pw_below_drewN | apply below_drew1 | refine below_set ?_ GE1099.out) | exact HB.out)))); have n5_ := Aside0.mk (blk_below (g := gb1099) (o := .cells #[.int .i64 a0_0, .slice A0_1 l0_1.length c0_1, .slice A0_2 l0_2.length c0_2, .int .i64 a0_3, .int .i64 a0_4] 76 (0, 0)) (by (with_reducible repeat (first | refine blk_drewN ?_ _ | refine blk_drew ?_ | refine blk_alloc ?_ _)); exact BK1099.out) hb); have n6_ := Aside0.mk (below_step (by repeat (first | (with_reducible first | exact HB.out | apply below_alloc | apply pw_below_drewN | apply below_drew1 | refine below_set ?_ GE1099.out) | exact HB.out)) hb); clear HO1114; clear HO1119; clear HO1121; clear BK1099; clear HB; have HO1114 := n0_; have HO1119 := n1_; have HO1121 := n2_; have HO1126 := n3_; have HO1128 := n4_; have BK1099 := n5_; have HB := n6_; clear n0_ n1_ n2_ n3_ n4_ n5_ n6_; (try clear hb); (try clear hb2); (try clear hk); (try clear hi); (try clear ho0); (try clear ho1); obtain ⟨Ao43, co43, eo43⟩ := Kd.R_slice HO1119.out; subst eo43; obtain ⟨Ao44, co44, eo44⟩ := Kd.R_slice HO1126.out; subst eo44) | ((with_reducible refine gate_callee (f := 76) rfl ?_); refine goesL_ (some 69) rfl rfl Try.func76 (by kernel_rfl) rfl #[.slice Ao43 t1115.length co43, .int .i64 t1117, .slice Ao44 t1122.length co44, .int .i64 t1124] rfl (by (try simp only [List.map_toArray, List.map_cons, List.map_nil]); first | done | rfl | (simp only [List.length_drop, List.length_take]; rfl)) ?_; (with_reducible refine (redraftlaw02_list.calls k _ _ t1115 t1117 _ _ t1122 t1124 false _ ?side1 ?side2 ?side3 ?side4 A20.out).mono ?_); (case side1 => repeat (first | exact (Kd.R_reads' HO1119.out).2.2 | (with_reducible refine Kd.C_alloc ?_ _) | (with_reducible refine Kd.C_drewN ?_ _) | (with_reducible refine Kd.C_drew ?_))); (case side2 => exact (Kd.R_reads' HO1119.out).2.1); (case side3 => repeat (first | exact (Kd.R_reads' HO1126.out).2.2 | (with_reducible refine Kd.C_alloc ?_ _) | (with_reducible refine Kd.C_drewN ?_ _) | (with_reducible refine Kd.C_drew ?_))); (case side4 => exact (Kd.R_reads' HO1126.out).2.1); rintro e w' ⟨rfl, ⟨nd, rfl⟩⟩; refine ⟨_, rfl, ?_⟩))
   go_ret
   exact ⟨by first | rfl | (simp [errW_none, errW_some] <;> rfl) | (simp [*, errW_none, errW_some] <;> rfl), by repeat (first | (with_reducible first | exact HB.out | apply below_alloc | apply pw_below_drewN | apply below_drew1 | refine below_set ?_ GE1099.out) | exact HB.out)⟩
end Go.Proofs.Ytmidiifgdloojaa.Pr
end
section
namespace Go.Proofs.Ytmidiifgdloojaa.SpanFns
open Go.RowKit Go.Proofs.YtmidiifgdloojaaW.PrintWords Go.Proofs.YtmidiifgdloojaaW.PrintMore Go.Proofs.Ytmidiifgdloojaa.Pr Go.Proofs.Ytmidiifgdloojaa.SpanMath
def Small (l : List S36) : Prop := ∀ r ∈ l, 0 ≤ r.f0 ∧ r.f0 < r.f1 ∧ r.f1 ≤ 1048576
theorem Good.small {l : List S36} (h : Good l) : Small l := fun r hr => ⟨(h.2.2 r hr).1, h.2.1.2 r hr, (h.2.2 r hr).2⟩
theorem Small.tail {r : S36} {l : List S36} (h : Small (r :: l)) : Small l := fun s hs => h s (List.mem_cons_of_mem _ hs)
theorem e_succ (pre : List S36) (r : S36) (h : pre.length < 8796093022208) : wrap64 ((pre.length : Int) + 1) = ((pre ++ [r]).length : Int) := by rw [w64 (by omega) (by omega)]; simp
end Go.Proofs.Ytmidiifgdloojaa.SpanFns
end
section
namespace Go.Proofs.Ytmidiifgdloojaa.SpanFns
open Go.RowKit Go.Proofs.YtmidiifgdloojaaW.PrintWords Go.Proofs.YtmidiifgdloojaaW.PrintMore Go.Proofs.Ytmidiifgdloojaa.Pr Go.Proofs.Ytmidiifgdloojaa.SpanMath
def few (l : List S36) : List S36 × Int := if l.length > 32768 then ([], 21) else (l, 0)
theorem bounded_few (l : List S36) : ((span_bounded.f l).bind fun x => some (x.1, x.2)) = some (few l) := by
  rw [bounded_f]
  unfold few
  simp only [Option.bind_some]
  split <;> rfl
theorem add_short {l : List S36} {n : Nat} (lo hi : Int) (h : l.length ≤ n) (hn : n < 8796093022207) : (addS l lo hi).length ≤ n + 1 ∧ Short (addS l lo hi) := by
  have := addS_len l lo hi
  exact ⟨by omega, by show (addS l lo hi).length < _; omega⟩
theorem Through_l0 (c n : Int) (hc : 0 ≤ c ∧ c ≤ 1048576) (hn : 0 ≤ n ∧ n ≤ 1048576) : ∀ (suf pre acc : List S36) (k : Nat), (pre ++ suf).length ≤ 32768 → Small suf → acc.length ≤ 2 * pre.length → suf.length + 1 ≤ k →
    span_Through.l0 k c n acc (pre ++ suf) ((pre ++ suf).length : Int) (pre.length : Int) = some (few (adds acc (throughP c n suf)))
  | [], pre, acc, k, hl, hs, ha, hk => by
    obtain ⟨k, rfl⟩ : ∃ m, k = m + 1 := ⟨k - 1, by omega⟩
    simp only [span_Through.l0]
    rw [if_neg (by simp), bounded_few]
    rfl
  | r :: suf, pre, acc, k, hl, hs, ha, hk => by
    simp only [List.length_cons] at hk
    obtain ⟨k, rfl⟩ : ∃ m, k = m + 1 := ⟨k - 1, by omega⟩
    have hl1 : (pre ++ r :: suf).length = pre.length + 1 + suf.length := by simp; omega
    obtain ⟨r1, r2, r3⟩ := hs r List.mem_cons_self
    have hm : 0 ≤ mx r.f0 c ∧ mx r.f0 c ≤ 1048576 := by unfold mx; split <;> omega
    obtain ⟨a1, a2⟩ := add_short (l := acc) (n := 2 * pre.length) r.f0 (mn r.f1 c) ha (by omega)
    obtain ⟨b1, b2⟩ := add_short (l := addS acc r.f0 (mn r.f1 c)) (n := 2 * pre.length + 1) (mx r.f0 c + n) (r.f1 + n) a1 (by omega)
    simp only [span_Through.l0]
    rw [if_pos (by omega), if_pos (by omega), if_pos (by omega), rd_at, add_f (by show acc.length < _; omega)]
    simp only [Option.bind_some]
    rw [w64 (n := mx r.f0 c + n) (by omega) (by omega), w64 (n := r.f1 + n) (by omega) (by omega), add_f a2]
    simp only [Option.bind_some]
    rw [e_succ pre r (by omega)]
    have ih := Through_l0 c n hc hn suf (pre ++ [r]) (addS (addS acc r.f0 (mn r.f1 c)) (mx r.f0 c + n) (r.f1 + n)) k (by rw [List.append_assoc]; exact hl) hs.tail (by simp only [List.length_append, List.length_singleton]; omega) (by omega)
    rw [List.append_assoc, List.singleton_append] at ih
    rw [ih, throughP_cons, adds_cons, adds_cons]
    rfl
theorem rd_getLast {l : List S36} {r : S36} (h : l.getLast? = some r) : rd_T36 l ((l.length : Int) - 1) = r := by
  rcases concat_cases l with rfl | ⟨i, x, rfl⟩
  · simp at h
  · rw [getLast_snoc] at h
    injection h with h
    subst h
    have := rd_last i x []
    rwa [List.append_nil] at this
def grows (l : List S36) (c n : Int) : Bool := l.getLast?.any (fun r => decide (r.f1 > c ∧ r.f1 + n > 1048576))
def throughA (l : List S36) (c n : Int) : List S36 × Int :=
  if (checkS l).2 = 0 then (if (c < 0 ∨ c > 1048576) ∨ (n < 0 ∨ n > 1048576) then ([], 12) else if grows l c n = true then ([], 24) else few (throughS c n l)) else ([], (checkS l).2)
theorem Through_ev {l : List S36} (hs : Short l) (c n : Int) : Ev (fun k => span_Through.f k l c n) (throughA l c n) := by
  refine ⟨2 * l.length + 5, fun k hk => ?_⟩
  dsimp only
  unfold span_Through.f throughA
  rw [Check_f hs (by omega)]
  simp only [Option.bind_some]
  by_cases g : (checkS l).2 = 0
  · have h := checkS_good.1 g
    rw [if_pos g, if_pos g]
    have key : ∀ b : Bool, b = decide ((c < 0 ∨ c > 1048576) ∨ (n < 0 ∨ n > 1048576)) → span_Through.j0 k l c n b = some (if (c < 0 ∨ c > 1048576) ∨ (n < 0 ∨ n > 1048576) then ([], 12) else if grows l c n = true then ([], 24) else few (throughS c n l)) := by
      rintro b rfl
      obtain ⟨k, rfl⟩ : ∃ m, k = m + 3 := ⟨k - 3, by omega⟩
      simp only [span_Through.j0]
      by_cases c2 : (c < 0 ∨ c > 1048576) ∨ (n < 0 ∨ n > 1048576)
      · rw [if_pos (by simpa using c2), if_pos c2]
      · have hj1 : span_Through.j1 (k + 2) l c n = some (few (throughS c n l)) := by
          simp only [span_Through.j1]
          have := Through_l0 c n (by omega) (by omega) l [] [] (k + 1) h.1 h.small (by simp) (by omega)
          exact this
        rw [if_neg (by simpa using c2), if_neg c2, hj1]
        rcases concat_cases l with rfl | ⟨i, r, rfl⟩
        · rw [if_neg (by simp), if_neg (by simp [grows])]
        · have hlen : (i ++ [r]).length = i.length + 1 := by simp
          have hb := h.1
          obtain ⟨r1, r2, r3⟩ := h.small r (by simp)
          rw [if_pos (by omega), w64 (n := ((i ++ [r]).length : Int) - 1) (by omega) (by omega), if_pos (by omega), if_pos (by omega), rd_getLast (getLast_snoc i r), w64 (n := r.f1 + n) (by omega) (by omega)]
          unfold grows
          rw [getLast_snoc]
          by_cases c3 : r.f1 > c
          · rw [if_pos c3]
            by_cases c4 : r.f1 + n > 1048576
            · rw [if_pos c4, if_pos (by simp; omega)]
            · rw [if_neg c4, if_neg (by simp; omega)]
          · rw [if_neg c3, if_neg (by simp; omega)]
    rw [outside_f]
    simp only [Option.bind_some]
    by_cases c1 : c < 0 ∨ c > 1048576
    · rw [if_pos (by simpa using c1)]
      exact key true (by simp [c1])
    · rw [if_neg (by simpa using c1), outside_f]
      simp only [Option.bind_some]
      exact key _ (by simp [c1])
  · rw [if_neg g, if_neg g]
end Go.Proofs.Ytmidiifgdloojaa.SpanFns
end
section
namespace Go.Proofs.Ytmidiifgdloojaa.SpanFns
open Go.RowKit Go.Proofs.YtmidiifgdloojaaW.PrintWords Go.Proofs.YtmidiifgdloojaaW.PrintMore Go.Proofs.Ytmidiifgdloojaa.Pr Go.Proofs.Ytmidiifgdloojaa.SpanMath
theorem rdi_at (pre : List Int) (x : Int) (suf : List Int) : rd (pre ++ x :: suf) (pre.length : Int) = x := by simp [rd]
theorem e_succ' {α : Type} (pre : List α) (r : α) (h : pre.length < 8796093022208) : wrap64 ((pre.length : Int) + 1) = ((pre ++ [r]).length : Int) := by rw [w64 (by omega) (by omega)]; simp
def mergeI : List Int → List Int → List Int
  | [], b => b
  | x :: a, [] => x :: a
  | x :: a, y :: b => if x ≤ y then x :: mergeI a (y :: b) else y :: mergeI (x :: a) b
termination_by a b => a.length + b.length
theorem mergeI_nil (b : List Int) : mergeI [] b = b := by rw [mergeI]
theorem mergeI_nil' (a : List Int) : mergeI a [] = a := by cases a <;> rw [mergeI]
theorem mergeI_le {x y : Int} (a b : List Int) (h : x ≤ y) : mergeI (x :: a) (y :: b) = x :: mergeI a (y :: b) := by rw [mergeI, if_pos h]
theorem mergeI_gt {x y : Int} (a b : List Int) (h : ¬ x ≤ y) : mergeI (x :: a) (y :: b) = y :: mergeI (x :: a) b := by rw [mergeI, if_neg h]
theorem mergeI_perm : ∀ (n : Nat) (a b : List Int), a.length + b.length ≤ n → (mergeI a b).Perm (a ++ b) := by
  intro n
  induction n with
  | zero =>
    intro a b h
    obtain rfl : a = [] := List.length_eq_zero_iff.1 (by omega)
    rw [mergeI_nil]; exact List.Perm.refl _
  | succ n ih =>
    intro a b h
    cases a with
    | nil => rw [mergeI_nil]; exact List.Perm.refl _
    | cons x a =>
      cases b with
      | nil => rw [mergeI_nil', List.append_nil]
      | cons y b =>
        simp only [List.length_cons] at h
        by_cases c : x ≤ y
        · rw [mergeI_le _ _ c]
          exact List.Perm.cons _ (ih a (y :: b) (by simp only [List.length_cons]; omega))
        · rw [mergeI_gt _ _ c]
          exact (List.Perm.cons _ (ih (x :: a) b (by simp only [List.length_cons]; omega))).trans List.perm_middle.symm
theorem mergeI_sorted : ∀ (n : Nat) (a b : List Int), a.length + b.length ≤ n → a.Pairwise (· ≤ ·) → b.Pairwise (· ≤ ·) → (mergeI a b).Pairwise (· ≤ ·) := by
  intro n
  induction n with
  | zero =>
    intro a b h _ hb
    obtain rfl : a = [] := List.length_eq_zero_iff.1 (by omega)
    rw [mergeI_nil]; exact hb
  | succ n ih =>
    intro a b h ha hb
    cases a with
    | nil => rw [mergeI_nil]; exact hb
    | cons x a =>
      cases b with
      | nil => rw [mergeI_nil']; exact ha
      | cons y b =>
        simp only [List.length_cons] at h
        have ha' := List.pairwise_cons.1 ha
        have hb' := List.pairwise_cons.1 hb
        by_cases c : x ≤ y
        · rw [mergeI_le _ _ c]
          refine List.pairwise_cons.2 ⟨fun z hz => ?_, ih a (y :: b) (by simp only [List.length_cons]; omega) ha'.2 hb⟩
          rcases List.mem_append.1 ((mergeI_perm _ a (y :: b) (Nat.le_refl _)).mem_iff.1 hz) with hz | hz
          · exact ha'.1 z hz
          · rcases List.mem_cons.1 hz with rfl | hz
            · exact c
            · exact Int.le_trans c (hb'.1 z hz)
        · rw [mergeI_gt _ _ c]
          refine List.pairwise_cons.2 ⟨fun z hz => ?_, ih (x :: a) b (by simp only [List.length_cons]; omega) ha hb'.2⟩
          rcases List.mem_append.1 ((mergeI_perm _ (x :: a) b (Nat.le_refl _)).mem_iff.1 hz) with hz | hz
          · rcases List.mem_cons.1 hz with rfl | hz
            · omega
            · have := ha'.1 z hz
              omega
          · exact hb'.1 z hz
theorem Sorted_l0 : ∀ (n : Nat) (a b pa pb out : List Int), a.length + b.length = n → (pa ++ a).length + (pb ++ b).length ≤ 1000000 → out.length = pa.length + pb.length →
    Ev (fun k => redraftref02_Sorted.l0 k (pa ++ a) (pb ++ b) out (pa.length : Int) (pb.length : Int)) (out ++ mergeI a b) := by
  intro n
  induction n with
  | zero =>
    intro a b pa pb out hn hl ho
    obtain rfl : a = [] := List.length_eq_zero_iff.1 (by omega)
    obtain rfl : b = [] := List.length_eq_zero_iff.1 (by omega)
    refine Ev.step (f := fun k => redraftref02_Sorted.j1 k (pa ++ []) (pb ++ []) out (pa.length : Int) (pb.length : Int) false) (fun k => ?_) (Ev.step (f := fun _ => some out) (fun k => ?_) ?_)
    · simp only [redraftref02_Sorted.l0]
      rw [if_neg (by simp)]
      simp
    · simp only [redraftref02_Sorted.j1]
      rw [if_neg (by simp)]
    · rw [mergeI_nil, List.append_nil]; exact Ev.now _
  | succ n ih =>
    intro a b pa pb out hn hl ho
    simp only [List.length_append] at hl
    have takeA : ∀ (x : Int) (a' : List Int), a = x :: a' → mergeI a b = x :: mergeI a' b → Ev (fun k => redraftref02_Sorted.j2 k (pa ++ a) (pb ++ b) out (pa.length : Int) (pb.length : Int) true) (out ++ mergeI a b) := by
      rintro x a' rfl hm
      simp only [List.length_cons] at hn hl
      have h := ih a' b (pa ++ [x]) pb (out ++ [x]) (by omega) (by simp only [List.length_append, List.length_singleton]; omega) (by simp only [List.length_append, List.length_singleton]; omega)
      rw [List.append_assoc, List.append_assoc, List.singleton_append, List.singleton_append] at h
      rw [hm]
      refine Ev.step (fun k => ?_) h
      simp only [redraftref02_Sorted.j2, if_true]
      rw [if_pos (by omega), if_pos (by simp only [List.length_append, List.length_cons]; omega), if_pos (by omega), rdi_at, e_succ' pa x (by omega)]
    have takeB : ∀ (y : Int) (b' : List Int), b = y :: b' → mergeI a b = y :: mergeI a b' → Ev (fun k => redraftref02_Sorted.j2 k (pa ++ a) (pb ++ b) out (pa.length : Int) (pb.length : Int) false) (out ++ mergeI a b) := by
      rintro y b' rfl hm
      simp only [List.length_cons] at hn hl
      have h := ih a b' pa (pb ++ [y]) (out ++ [y]) (by omega) (by simp only [List.length_append, List.length_singleton]; omega) (by simp only [List.length_append, List.length_singleton]; omega)
      rw [List.append_assoc, List.append_assoc, List.singleton_append, List.singleton_append] at h
      rw [hm]
      refine Ev.step (fun k => ?_) h
      simp only [redraftref02_Sorted.j2]
      rw [if_neg (by simp), if_pos (by omega), if_pos (by simp only [List.length_append, List.length_cons]; omega), if_pos (by omega), rdi_at, e_succ' pb y (by omega)]
    have j1 : Ev (fun k => redraftref02_Sorted.j1 k (pa ++ a) (pb ++ b) out (pa.length : Int) (pb.length : Int) true) (out ++ mergeI a b) := by
      cases b with
      | nil =>
        cases a with
        | nil => simp at hn
        | cons x a' =>
          refine Ev.step (fun k => ?_) (takeA x a' rfl (by rw [mergeI_nil', mergeI_nil']))
          simp only [redraftref02_Sorted.j1, if_true]
          rw [if_pos (by simp)]
      | cons y b' =>
        simp only [List.length_cons] at hl
        cases a with
        | nil =>
          refine Ev.step (fun k => ?_) (takeB y b' rfl (by rw [mergeI_nil, mergeI_nil]))
          simp only [redraftref02_Sorted.j1, if_true]
          rw [if_neg (by simp only [List.length_append, List.length_cons]; omega), if_neg (by simp)]
        | cons x a' =>
          simp only [List.length_cons] at hl
          by_cases c : x ≤ y
          · refine Ev.step (fun k => ?_) (takeA x a' rfl (mergeI_le _ _ c))
            simp only [redraftref02_Sorted.j1, if_true]
            rw [if_neg (by simp only [List.length_append, List.length_cons]; omega), if_pos (by simp only [List.length_append, List.length_cons]; omega), if_pos (by omega), if_pos (by omega), if_pos (by simp only [List.length_append, List.length_cons]; omega), rdi_at, rdi_at, show decide (x ≤ y) = true from by simpa using c]
          · refine Ev.step (fun k => ?_) (takeB y b' rfl (mergeI_gt _ _ c))
            simp only [redraftref02_Sorted.j1, if_true]
            rw [if_neg (by simp only [List.length_append, List.length_cons]; omega), if_pos (by simp only [List.length_append, List.length_cons]; omega), if_pos (by omega), if_pos (by omega), if_pos (by simp only [List.length_append, List.length_cons]; omega), rdi_at, rdi_at, show decide (x ≤ y) = false from by simpa using c]
    refine Ev.step (fun k => ?_) j1
    simp only [redraftref02_Sorted.l0]
    cases a with
    | nil =>
      simp only [List.length_nil] at hn
      rw [if_neg (by simp), show decide ((pb.length : Int) < ((pb ++ b).length : Int)) = true from by simp only [List.length_append, decide_eq_true_eq]; omega]
    | cons x a' => rw [if_pos (by simp only [List.length_append, List.length_cons]; omega)]
theorem Sorted_ev : ∀ (n : Nat) (l : List Int), l.length ≤ n → n ≤ 500000 → ∃ s : List Int, s.Perm l ∧ s.Pairwise (· ≤ ·) ∧ Ev (fun k => redraftref02_Sorted.f k l) s := by
  intro n
  induction n with
  | zero =>
    intro l hl _
    obtain rfl : l = [] := List.length_eq_zero_iff.1 (by omega)
    refine ⟨[], List.Perm.refl _, List.Pairwise.nil, Ev.step (f := fun _ => some []) (fun k => ?_) (Ev.now _)⟩
    simp only [redraftref02_Sorted.f]
    rfl
  | succ n ih =>
    intro l hl hn
    by_cases c : l.length < 2
    · refine ⟨l, List.Perm.refl _, ?_, Ev.step (f := fun _ => some l) (fun k => ?_) (Ev.now _)⟩
      · match l, c with
        | [], _ => exact List.Pairwise.nil
        | [x], _ => exact List.pairwise_singleton _ _
      · simp only [redraftref02_Sorted.f]
        rw [if_pos (by omega), if_pos (by simp; omega)]
        rfl
    · have e : wrap64 ((l.length : Int) / 2) = (l.length : Int) / 2 := w64 (by omega) (by omega)
      have e2 : ((l.length : Int) / 2).toNat = l.length / 2 := by omega
      obtain ⟨s1, p1, o1, v1⟩ := ih (l.take (l.length / 2)) (by rw [List.length_take]; omega) (by omega)
      obtain ⟨s2, p2, o2, v2⟩ := ih (l.drop (l.length / 2)) (by rw [List.length_drop]; omega) (by omega)
      have h1 := p1.length_eq
      have h2 := p2.length_eq
      rw [List.length_take] at h1
      rw [List.length_drop] at h2
      refine ⟨mergeI s1 s2, ?_, mergeI_sorted _ s1 s2 (Nat.le_refl _) o1 o2, ?_⟩
      · refine (mergeI_perm _ s1 s2 (Nat.le_refl _)).trans ((p1.append p2).trans ?_)
        rw [List.take_append_drop]
      · refine Ev.step (f := fun k => (redraftref02_Sorted.f k (l.take (l.length / 2))).bind fun t => (redraftref02_Sorted.f k (l.drop (l.length / 2))).bind fun u => redraftref02_Sorted.l0 k t u [] 0 0) (fun k => ?_) ?_
        · simp only [redraftref02_Sorted.f]
          rw [if_neg (by omega), e, e2, if_pos (by omega), if_pos (by omega)]
          have : ((l.length : Int)).toNat ≤ 35184372088832 := by omega
          simp only [if_pos this]
        · refine Ev.bind v1 (Ev.bind v2 ?_)
          have := Sorted_l0 _ s1 s2 [] [] [] rfl (by simp only [List.nil_append]; omega) rfl
          exact this
def cntLe (l : List Int) (x : Int) : Nat := l.countP (fun y => decide (y ≤ x))
theorem cntLe_perm {l m : List Int} (h : l.Perm m) (x : Int) : cntLe l x = cntLe m x := h.countP_eq _
theorem cntLe_split {l : List Int} {x : Int} {r : Nat} (hr : r ≤ l.length) (h1 : ∀ i (h : i < l.length), i < r → l[i] ≤ x) (h2 : ∀ i (h : i < l.length), r ≤ i → x < l[i]) : cntLe l x = r := by
  unfold cntLe
  rw [← List.take_append_drop r l, List.countP_append]
  have e1 : (l.take r).countP (fun y => decide (y ≤ x)) = r := by
    rw [List.countP_eq_length.2]
    · rw [List.length_take]; omega
    · intro y hy
      obtain ⟨i, hi, rfl⟩ := List.getElem_of_mem hy
      rw [List.length_take] at hi
      rw [List.getElem_take]
      simpa using h1 i (by omega) (by omega)
  have e2 : (l.drop r).countP (fun y => decide (y ≤ x)) = 0 := by
    rw [List.countP_eq_zero]
    intro y hy
    obtain ⟨i, hi, rfl⟩ := List.getElem_of_mem hy
    rw [List.length_drop] at hi
    rw [List.getElem_drop]
    have := h2 (r + i) (by omega) (by omega)
    simp; omega
  omega
theorem half (lo hi : Int) (h : lo < hi) (h0 : 0 ≤ lo) (h1 : hi ≤ 1000000) : wrap64 (lo + wrap64 (Int.tdiv (wrap64 (hi - lo)) 2)) = lo + (hi - lo) / 2 := by
  rw [w64 (n := hi - lo) (by omega) (by omega), Int.tdiv_eq_ediv_of_nonneg (by omega), w64 (n := (hi - lo) / 2) (by omega) (by omega), w64 (by omega) (by omega)]
theorem rdi_get {l : List Int} {m : Int} (h0 : 0 ≤ m) (h : m < l.length) : rd l m = l[m.toNat]'(by omega) := by
  unfold rd
  rw [List.getD_eq_getElem?_getD, List.getElem?_eq_getElem (by omega)]
  rfl
theorem sorted_get {l : List Int} (h : l.Pairwise (· ≤ ·)) {i j : Nat} (hj : j < l.length) (hij : i ≤ j) : l[i]'(by omega) ≤ l[j] := by
  rcases Nat.lt_or_eq_of_le hij with h1 | h1
  · exact List.pairwise_iff_getElem.1 h i j (by omega) hj h1
  · subst h1; exact Int.le_refl _
theorem upTo_l0' {l : List Int} (hs : l.Pairwise (· ≤ ·)) (hl : l.length ≤ 1000000) (x : Int) : ∀ (n : Nat) (lo hi : Int), (hi - lo).toNat ≤ n → 0 ≤ lo → lo ≤ hi → hi ≤ l.length →
    (∀ i (h : i < l.length), (i : Int) < lo → l[i] ≤ x) → (∀ i (h : i < l.length), hi ≤ (i : Int) → x < l[i]) → Ev (fun k => redraftref02_upTo.l0 k l x lo hi) (cntLe l x : Int) := by
  intro n
  induction n with
  | zero =>
    intro lo hi hn h0 h1 h2 ha hb
    have : lo = hi := by omega
    subst this
    refine Ev.step (f := fun _ => some lo) (fun k => ?_) ?_
    · simp only [redraftref02_upTo.l0]
      rw [if_neg (by omega)]
    · have := cntLe_split (r := lo.toNat) (x := x) (l := l) (by omega) (fun i h hx => ha i h (by omega)) (fun i h hx => hb i h (by omega))
      rw [this, Int.toNat_of_nonneg h0]
      exact Ev.now _
  | succ n ih =>
    intro lo hi hn h0 h1 h2 ha hb
    by_cases c : lo < hi
    · have hm := half lo hi c h0 (by omega)
      have hlt : lo + (hi - lo) / 2 < hi := by omega
      have hge : lo ≤ lo + (hi - lo) / 2 := by omega
      by_cases c2 : l[(lo + (hi - lo) / 2).toNat]'(by omega) ≤ x
      · refine Ev.step (f := fun k => redraftref02_upTo.l0 k l x (lo + (hi - lo) / 2 + 1) hi) (fun k => ?_) (ih (lo + (hi - lo) / 2 + 1) hi (by omega) (by omega) (by omega) h2 (fun i h hx => ?_) hb)
        · simp only [redraftref02_upTo.l0]
          rw [if_pos c, hm, if_pos (by omega), if_pos (by omega), rdi_get (by omega) (by omega), if_pos c2, w64 (by omega) (by omega)]
        · have := sorted_get hs (i := i) (j := (lo + (hi - lo) / 2).toNat) (by omega) (by omega)
          omega
      · refine Ev.step (f := fun k => redraftref02_upTo.l0 k l x lo (lo + (hi - lo) / 2)) (fun k => ?_) (ih lo (lo + (hi - lo) / 2) (by omega) (by omega) (by omega) (by omega) ha (fun i h hx => ?_))
        · simp only [redraftref02_upTo.l0]
          rw [if_pos c, hm, if_pos (by omega), if_pos (by omega), rdi_get (by omega) (by omega), if_neg c2]
        · have := sorted_get hs (i := (lo + (hi - lo) / 2).toNat) (j := i) h (by omega)
          omega
    · exact ih lo hi (by omega) h0 h1 h2 ha hb
theorem upTo_count {l : List Int} (hs : l.Pairwise (· ≤ ·)) (hl : l.length ≤ 1000000) (x : Int) : Ev (fun k => redraftref02_upTo.f k l x) (cntLe l x : Int) :=
  upTo_l0' hs hl x l.length 0 (l.length : Int) (by omega) (by omega) (by omega) (by omega) (fun i h hx => by omega) (fun i h hx => by omega)
theorem rdb_at (pre : List Bool) (x : Bool) (suf : List Bool) : rdOf false (pre ++ x :: suf) (pre.length : Int) = x := by simp [rdOf]
theorem joined_l0 : ∀ (cs : List Int) (c : Int) (bs : List Bool) (pc : List Int) (pb : List Bool) (acc : List S36), pc.length = pb.length → bs.length = cs.length + 1 → (pc ++ c :: cs).length ≤ 1000000 → (c :: cs).Pairwise (· ≤ ·) →
    acc.length ≤ pc.length → (∀ r ∈ acc.getLast?, r.f1 ≤ c) → Ev (fun k => redraftref02_joined.l0 k (pc ++ c :: cs) (pb ++ bs) acc (pc.length : Int)) (adds acc (pieces (c :: cs) bs))
  | [], c, bs, pc, pb, acc, hp, hb, hl, hs, ha, hr => by
    refine Ev.step (f := fun _ => some acc) (fun k => ?_) ?_
    · simp only [redraftref02_joined.l0]
      simp only [List.length_append, List.length_singleton] at hl
      rw [w64 (by omega) (by omega), if_neg (by simp)]
    · rw [pieces_one, adds_nil]; exact Ev.now _
  | c' :: cs, c, bs, pc, pb, acc, hp, hb, hl, hs, ha, hr => by
    obtain ⟨b, bs, rfl⟩ : ∃ b t, bs = b :: t := by
      cases bs with
      | nil => simp at hb
      | cons b t => exact ⟨b, t, rfl⟩
    simp only [List.length_cons] at hb
    have hl1 : (pc ++ c :: c' :: cs).length = pc.length + 2 + cs.length := by simp; omega
    have hl2 : (pb ++ b :: bs).length = pb.length + 1 + bs.length := by simp; omega
    have hs' := List.pairwise_cons.1 hs
    have hcc := hs'.1 c' List.mem_cons_self
    have e1 : wrap64 ((pc.length : Int) + 1) = ((pc ++ [c]).length : Int) := e_succ' pc c (by omega)
    have rec_ := fun (acc' : List S36) (h1 : acc'.length ≤ pc.length + 1) (h2 : ∀ r ∈ acc'.getLast?, r.f1 ≤ c') => joined_l0 cs c' bs (pc ++ [c]) (pb ++ [b]) acc' (by simp [hp]) (by omega) (by simp only [List.append_assoc, List.singleton_append]; exact hl) hs'.2 (by simp only [List.length_append, List.length_singleton]; omega) h2
    simp only [List.append_assoc, List.singleton_append] at rec_
    have lc : ((pc ++ [c]).length : Int) = (pc.length : Int) + 1 := by simp
    have rc : rd (pc ++ c :: c' :: cs) ((pc ++ [c]).length : Int) = c' := by have := rdi_at (pc ++ [c]) c' cs; simp only [List.append_assoc, List.singleton_append] at this; exact this
    have skip : ∀ (h : b = false ∨ c = c'), Ev (fun k => redraftref02_joined.j1 k (pc ++ c :: c' :: cs) (pb ++ b :: bs) acc (pc.length : Int) true) (adds acc (pieces (c :: c' :: cs) (b :: bs))) := by
      intro h
      have e : adds acc (pieces (c :: c' :: cs) (b :: bs)) = adds acc (pieces (c' :: cs) bs) := by
        cases b with
        | false => rw [pieces_no]
        | true =>
          rcases h with h | h
          · exact absurd h (by simp)
          · rw [pieces_yes, adds_cons, addS_empty (by show c' ≤ c; omega)]
      rw [e]
      refine Ev.step (fun k => ?_) (rec_ acc (by omega) (fun r hr' => Int.le_trans (hr r hr') hcc))
      simp only [redraftref02_joined.j1, if_true]
      rw [e1]
    cases b with
    | false =>
      refine Ev.step (fun k => ?_) (skip (.inl rfl))
      simp only [redraftref02_joined.l0]
      rw [e1, if_pos (by omega), if_pos (by omega), if_pos (by omega), rdb_at' pb pc hp, if_neg (by simp)]
    | true =>
      by_cases cq : c = c'
      · refine Ev.step (fun k => ?_) (skip (.inr cq))
        simp only [redraftref02_joined.l0]
        rw [e1, if_pos (by omega), if_pos (by omega), if_pos (by omega), rdb_at' pb pc hp, if_pos rfl, if_pos (by omega), if_pos (by omega), rdi_at, rc, show (c == c') = true from by simpa using cq]
      · refine Ev.step (f := fun k => redraftref02_joined.j1 k (pc ++ c :: c' :: cs) (pb ++ true :: bs) acc (pc.length : Int) false) (fun k => ?_) ?_
        · simp only [redraftref02_joined.l0]
          rw [e1, if_pos (by omega), if_pos (by omega), if_pos (by omega), rdb_at' pb pc hp, if_pos rfl, if_pos (by omega), if_pos (by omega), rdi_at, rc, show (c == c') = false from by simpa using cq]
        · rw [pieces_yes, adds_cons]
          have more : Ev (fun k => redraftref02_joined.j2 k (pc ++ c :: c' :: cs) (pb ++ true :: bs) acc (pc.length : Int) (acc.length : Int) false) (adds (acc ++ [⟨c, c'⟩]) (pieces (c' :: cs) bs)) := by
            refine Ev.step (fun k => ?_) (rec_ (acc ++ [⟨c, c'⟩]) (by simp only [List.length_append, List.length_singleton]; omega) (fun r hr' => by simp at hr'; subst hr'; exact Int.le_refl _))
            simp only [redraftref02_joined.j2]
            rw [if_neg (by simp), if_pos (by omega), if_pos (by omega), e1, if_pos (by omega), if_pos (by omega), if_pos (by omega), rdi_at, rc]
          rcases concat_cases acc with rfl | ⟨i, r, rfl⟩
          · refine Ev.step (fun k => ?_) (by rw [addS_nil (by show c < c'; omega)]; exact more)
            simp only [redraftref02_joined.j1]
            rw [if_neg (by simp), if_neg (by simp)]
          · have hr' := hr r (by simp)
            have hil : (i ++ [r]).length = i.length + 1 := by simp
            have e3 : wrap64 (((i ++ [r]).length : Int) - 1) = ((i ++ [r]).length : Int) - 1 := w64 (by omega) (by omega)
            have e4 : rd_T36 (i ++ [r]) (((i ++ [r]).length : Int) - 1) = r := by have := rd_last i r []; rwa [List.append_nil] at this
            have e5 : (((i ++ [r]).length : Int) - 1).toNat = i.length := by omega
            by_cases cr : r.f1 = c
            · refine Ev.step (f := fun k => redraftref02_joined.j2 k (pc ++ c :: c' :: cs) (pb ++ true :: bs) (i ++ [r]) (pc.length : Int) ((i ++ [r]).length : Int) true) (fun k => ?_) (Ev.step (f := fun k => redraftref02_joined.l0 k (pc ++ c :: c' :: cs) (pb ++ true :: bs) (i ++ [⟨r.f0, c'⟩]) ((pc ++ [c]).length : Int)) (fun k => ?_) ?_)
              · simp only [redraftref02_joined.j1]
                rw [if_neg (by simp), if_pos (by omega), e3, if_pos (by omega), if_pos (by omega), if_pos (by omega), if_pos (by omega), e4, rdi_at, show (r.f1 == c) = true from by simpa using cr]
              · simp only [redraftref02_joined.j2, if_true]
                rw [e1, if_pos (by omega), if_pos (by omega), e3, if_pos (by omega), if_pos (by omega), e4, rc, e5]
                simp
              · rw [addS_join (by show c < c'; omega) (by show c ≤ r.f1; omega)]
                have : (if r.f1 < c' then c' else r.f1) = c' := by rw [if_pos (by omega)]
                simp only [this]
                exact rec_ (i ++ [⟨r.f0, c'⟩]) (by simp only [List.length_append, List.length_singleton] at ha ⊢; omega) (fun s hs => by simp at hs; subst hs; exact Int.le_refl _)
            · refine Ev.step (fun k => ?_) (by rw [addS_more (by show c < c'; omega) (by show r.f1 < c; omega)]; exact more)
              simp only [redraftref02_joined.j1]
              rw [if_neg (by simp), if_pos (by omega), e3, if_pos (by omega), if_pos (by omega), if_pos (by omega), if_pos (by omega), e4, rdi_at, show (r.f1 == c) = false from by simpa using cr]
where
  rdb_at' {x : Bool} {suf : List Bool} (pb : List Bool) (pc : List Int) (h : pc.length = pb.length) : rdOf false (pb ++ x :: suf) (pc.length : Int) = x := by rw [h]; exact rdb_at pb x suf
theorem joined_ev {cs : List Int} {bs : List Bool} (hb : bs.length = cs.length) (hl : cs.length ≤ 1000000) (hs : cs.Pairwise (· ≤ ·)) : Ev (fun k => redraftref02_joined.f k cs bs) (adds [] (pieces cs bs)) := by
  cases cs with
  | nil =>
    refine Ev.congr (f := fun k => redraftref02_joined.l0 k [] bs [] 0) (fun k => rfl) (Ev.step (f := fun _ => some []) (fun k => ?_) ?_)
    · simp only [redraftref02_joined.l0]
      rw [w64 (by omega) (by omega), if_neg (by simp)]
    · rw [pieces_nil]; exact Ev.now _
  | cons c cs => exact joined_l0 cs c bs [] [] [] rfl (by simpa using hb) (by simpa using hl) hs (by simp) (by simp)
end Go.Proofs.Ytmidiifgdloojaa.SpanFns
end
section
namespace Go.Proofs.Ytmidiifgdloojaa.SpanFns
open Go.RowKit Go.Proofs.YtmidiifgdloojaaW.PrintWords Go.Proofs.YtmidiifgdloojaaW.PrintMore Go.Proofs.Ytmidiifgdloojaa.Pr Go.Proofs.Ytmidiifgdloojaa.SpanMath
theorem reffew (t : List S36) : ((redraftref02_few.f t).bind fun b => some (b.1, b.2)) = some (few t) := by
  unfold redraftref02_few.f few
  by_cases c : t.length > 32768
  · rw [if_pos (by omega), if_pos c]; rfl
  · rw [if_neg (by omega), if_neg c]; rfl
theorem set_rep (f : Int → Bool) (pre : List Int) (b : Bool) (n : Nat) : (pre.map f ++ List.replicate (n + 1) false).set pre.length b = pre.map f ++ b :: List.replicate n false := by
  rw [List.set_append_right _ _ (by simp)]
  simp [List.replicate_succ]
end Go.Proofs.Ytmidiifgdloojaa.SpanFns
end
section
namespace Go.Proofs.Ytmidiifgdloojaa.SpanFns
open Go.RowKit Go.Proofs.YtmidiifgdloojaaW.PrintWords Go.Proofs.YtmidiifgdloojaaW.PrintMore Go.Proofs.Ytmidiifgdloojaa.Pr Go.Proofs.Ytmidiifgdloojaa.SpanMath
def los (l : List S36) : List Int := l.map (fun r => r.f0)
def his (l : List S36) : List Int := l.map (fun r => r.f1)
theorem cnt_begun (q : Int) : ∀ (l : List S36), (∀ r ∈ l, r.f0 ≤ r.f1) → cntLe (his l) q ≤ cntLe (los l) q ∧ (cntLe (his l) q < cntLe (los l) q ↔ mem l q)
  | [], _ => by simp [cntLe, mem, los, his]
  | r :: l, h => by
    obtain ⟨i1, i2⟩ := cnt_begun q l (fun s hs => h s (List.mem_cons_of_mem _ hs))
    have hr := h r List.mem_cons_self
    have e0 : cntLe (los (r :: l)) q = cntLe (los l) q + if r.f0 ≤ q then 1 else 0 := by simp [cntLe, los, List.countP_cons]
    have e1 : cntLe (his (r :: l)) q = cntLe (his l) q + if r.f1 ≤ q then 1 else 0 := by simp [cntLe, his, List.countP_cons]
    rw [e0, e1, mem_cons, ← i2]
    by_cases c0 : r.f0 ≤ q <;> by_cases c1 : r.f1 ≤ q
    · rw [if_pos c0, if_pos c1]; omega
    · rw [if_pos c0, if_neg c1]; omega
    · omega
    · rw [if_neg c0, if_neg c1]; omega
theorem cntLe_const {l A : List Int} (h : ∀ c ∈ l, c ∈ A) {x y : Int} (hxy : x ≤ y) (hc : ∀ c ∈ A, c ≤ x ∨ y < c) : cntLe l x = cntLe l y := by
  unfold cntLe
  refine List.countP_congr (fun c hm => ?_)
  have := hc c (h c hm)
  simp only [decide_eq_true_iff]
  omega
theorem cntLe_all {l A : List Int} (h : ∀ c ∈ l, c ∈ A) {y : Int} (hc : ∀ c ∈ A, c ≤ y) : cntLe l y = l.length := by
  unfold cntLe
  exact List.countP_eq_length.2 (fun c hm => by simpa using hc c (h c hm))
theorem cntLe_none {l A : List Int} (h : ∀ c ∈ l, c ∈ A) {y : Int} (hc : ∀ c ∈ A, y < c) : cntLe l y = 0 := by
  unfold cntLe
  refine List.countP_eq_zero.2 (fun c hm => ?_)
  have := hc c (h c hm)
  simp only [decide_eq_true_iff]
  omega
theorem Places_l1 {lo hi : List Int} (h1 : lo.Pairwise (· ≤ ·)) (h2 : hi.Pairwise (· ≤ ·)) (l1 : lo.length ≤ 1000000) (l2 : hi.length ≤ 1000000) {p : Int → Bool} (hp : p = fun q => decide ((cntLe lo q : Int) > (cntLe hi q : Int))) {R : List S36} : ∀ (suf pre : List Int),
    (pre ++ suf).length ≤ 1000000 → Ev (fun k => (redraftref02_joined.f k (pre ++ suf) ((pre ++ suf).map p)).bind fun t => some t) R →
    Ev (fun k => redraftref02_Places.l1 k lo hi (pre ++ suf) (pre.map p ++ List.replicate suf.length false) (pre.length : Int)) R
  | [], pre, hl, h => by
    refine Ev.step (fun k => ?_) h
    simp only [redraftref02_Places.l1]
    rw [if_neg (by simp)]
    simp
  | c :: suf, pre, hl, h => by
    have hl1 : (pre ++ c :: suf).length = pre.length + 1 + suf.length := by simp; omega
    refine Ev.step (f := fun k => (redraftref02_upTo.f k lo c).bind fun t => (redraftref02_upTo.f k hi c).bind fun u => redraftref02_Places.l1 k lo hi (pre ++ c :: suf) (pre.map p ++ decide (t > u) :: List.replicate suf.length false) (((pre ++ [c]).length : Nat) : Int)) (fun k => ?_) ?_
    · simp only [redraftref02_Places.l1]
      rw [if_pos (by omega), if_pos (by omega), rdi_at, e_succ' pre c (by omega)]
      congr 1
      funext t
      congr 1
      funext u
      rw [if_pos (by simp; omega), Int.toNat_natCast, List.length_cons, set_rep]
    · refine Ev.bind (upTo_count h1 l1 c) (Ev.bind (upTo_count h2 l2 c) ?_)
      have ih := Places_l1 h1 h2 l1 l2 hp suf (pre ++ [c]) (by rw [List.append_assoc]; exact hl) (by rw [List.append_assoc]; exact h)
      simp only [List.append_assoc, List.singleton_append, List.map_append, List.map_cons, List.map_nil] at ih
      rw [show decide ((cntLe lo c : Int) > (cntLe hi c : Int)) = p c from by rw [hp]]
      exact ih
def tailP (k : Nat) (x3 x4 : List Int) : Option (List S36) := (redraftref02_Sorted.f k x3).bind fun t842 => ((redraftref02_Sorted.f k x4).bind fun t845 => (if ([] : List Int).length + t842.length < 17592186044416 then ((some (([] : List Int) ++ t842 : List Int)).bind fun y848 => (if y848.length + t845.length < 17592186044416 then ((redraftref02_Sorted.f k (y848 ++ t845)).bind fun t854 => (if 0 ≤ (t854.length : Int) then (if ((t854.length : Int) : Int).toNat ≤ 281474976710656 then (redraftref02_Places.l1 k t842 t845 t854 (List.replicate ((t854.length : Int) : Int).toNat false) 0) else (none)) else (none))) else (none))) else (none)))
theorem Places_l0 {R : List S36} : ∀ (suf pre : List S36) (lo hi : List Int), lo.length = pre.length → hi.length = pre.length → (pre ++ suf).length ≤ 100000 → Ev (fun k => tailP k (lo ++ los suf) (hi ++ his suf)) R →
    Ev (fun k => redraftref02_Places.l0 k (pre ++ suf) lo hi (pre.length : Int)) R
  | [], pre, lo, hi, e1, e2, hl, h => by
    refine Ev.step (fun k => ?_) h
    simp only [redraftref02_Places.l0]
    rw [if_neg (by simp)]
    simp [tailP, los, his]
  | r :: suf, pre, lo, hi, e1, e2, hl, h => by
    have hl1 : (pre ++ r :: suf).length = pre.length + 1 + suf.length := by simp; omega
    have ih := Places_l0 (R := R) suf (pre ++ [r]) (lo ++ [r.f0]) (hi ++ [r.f1]) (by simp [e1]) (by simp [e2]) (by rw [List.append_assoc]; exact hl) (by simpa [los, his] using h)
    rw [List.append_assoc, List.singleton_append] at ih
    refine Ev.step (fun k => ?_) ih
    simp only [redraftref02_Places.l0]
    rw [if_pos (by omega), if_pos (by omega), if_pos (by omega), if_pos (by omega), rd_at, e_succ pre r (by omega)]
theorem tailP_ev {l F : List S36} (hl : l.length ≤ 100000) (hr : ∀ r ∈ l, r.f0 ≤ r.f1) (hF : Nrm F) (hm : ∀ q, mem F q ↔ mem l q) : Ev (fun k => tailP k (los l) (his l)) F := by
  have len0 : (los l).length = l.length := by simp [los]
  have len1 : (his l).length = l.length := by simp [his]
  obtain ⟨s, p1, p2, p3⟩ := Sorted_ev l.length (los l) (by omega) (by omega)
  obtain ⟨t, q1, q2, q3⟩ := Sorted_ev l.length (his l) (by omega) (by omega)
  have ls := p1.length_eq
  have lt := q1.length_eq
  obtain ⟨u, r1, r2, r3⟩ := Sorted_ev (2 * l.length) ([] ++ s ++ t) (by simp; omega) (by omega)
  have lu := r1.length_eq
  simp only [List.nil_append, List.length_append] at lu r1
  unfold tailP
  refine Ev.bind p3 (Ev.bind q3 ?_)
  simp only [if_pos (show ([] : List Int).length + s.length < 17592186044416 from by simp; omega), Option.bind_some, if_pos (show ([] ++ s).length + t.length < 17592186044416 from by simp; omega)]
  refine Ev.bind r3 ?_
  simp only [if_pos (show (0 : Int) ≤ (u.length : Int) from by omega), Int.toNat_natCast, if_pos (show u.length ≤ 281474976710656 from by omega)]
  have ms : ∀ c ∈ s, c ∈ u := fun c hc => r1.mem_iff.2 (List.mem_append_left _ hc)
  have mt : ∀ c ∈ t, c ∈ u := fun c hc => r1.mem_iff.2 (List.mem_append_right _ hc)
  have cb : ∀ q, (cntLe s q : Int) > (cntLe t q : Int) ↔ mem l q := fun q => by
    rw [← (cnt_begun q l hr).2, cntLe_perm p1, cntLe_perm q1]
    omega
  obtain ⟨g1, g2⟩ := cuts_spec (fun q => decide ((cntLe s q : Int) > (cntLe t q : Int))) u r2 (fun x y hxy hc => by simp only [cntLe_const ms hxy hc, cntLe_const mt hxy hc]) (fun y hc => by simp only [cntLe_all ms hc, cntLe_all mt hc]; simp; omega) (fun y hc => by simp only [cntLe_none ms hc, cntLe_none mt hc]; simp)
  have eF : adds [] (pieces u (u.map fun q => decide ((cntLe s q : Int) > (cntLe t q : Int)))) = F := nrm_ext g1 hF (fun q => by rw [g2, hm, decide_eq_true_iff, cb])
  refine Places_l1 p2 q2 (by omega) (by omega) rfl u [] (by simp; omega) ?_
  rw [List.nil_append]
  refine Ev.bind (joined_ev (by simp) (by omega) r2) ?_
  rw [eF]
  exact Ev.now _
theorem Places_eq {l F : List S36} (hl : l.length ≤ 100000) (hr : ∀ r ∈ l, r.f0 ≤ r.f1) (hF : Nrm F) (hm : ∀ q, mem F q ↔ mem l q) : Ev (fun k => redraftref02_Places.f k l) F :=
  Places_l0 l [] [] [] rfl rfl hl (tailP_ev hl hr hF hm)
def one (b : Bool) (r : S36) : List S36 := if b then [r] else []
theorem one_mem {b : Bool} {r : S36} (h : b = false → r.f1 ≤ r.f0) (q : Int) : mem (one b r) q ↔ (r.f0 ≤ q ∧ q < r.f1) := by
  unfold one
  cases b with
  | false =>
    have := h rfl
    simp [mem]
    omega
  | true => simp [mem]
theorem one_in {b : Bool} {r x : S36} (h : x ∈ one b r) : b = true ∧ x = r := by
  unfold one at h
  cases b <;> simp_all
theorem one_len (b : Bool) (r : S36) : (one b r).length ≤ 1 := by unfold one; split <;> simp
def thrQ (c n : Int) (l : List S36) : List S36 := l.flatMap (fun r => one (decide (r.f0 < c)) ⟨r.f0, mn r.f1 c⟩ ++ one (decide (r.f1 > c)) ⟨mx r.f0 c + n, r.f1 + n⟩)
def oldQ (c n : Int) (l : List S36) : List S36 := l.flatMap (fun r => one (decide (r.f0 < c)) ⟨r.f0, mn r.f1 c⟩ ++ one (decide (r.f1 > c + n)) ⟨mx r.f0 (c + n) - n, r.f1 - n⟩)
def inQ (c n : Int) (l : List S36) : List S36 := l.flatMap (fun r => one (decide (r.f1 > c ∧ r.f0 < c + n)) ⟨mx r.f0 c - c, mn r.f1 (c + n) - c⟩)
theorem thrQ_cons (c n : Int) (r : S36) (l : List S36) : thrQ c n (r :: l) = one (decide (r.f0 < c)) ⟨r.f0, mn r.f1 c⟩ ++ (one (decide (r.f1 > c)) ⟨mx r.f0 c + n, r.f1 + n⟩ ++ thrQ c n l) := by simp [thrQ]
theorem oldQ_cons (c n : Int) (r : S36) (l : List S36) : oldQ c n (r :: l) = one (decide (r.f0 < c)) ⟨r.f0, mn r.f1 c⟩ ++ (one (decide (r.f1 > c + n)) ⟨mx r.f0 (c + n) - n, r.f1 - n⟩ ++ oldQ c n l) := by simp [oldQ]
theorem inQ_cons (c n : Int) (r : S36) (l : List S36) : inQ c n (r :: l) = one (decide (r.f1 > c ∧ r.f0 < c + n)) ⟨mx r.f0 c - c, mn r.f1 (c + n) - c⟩ ++ inQ c n l := by simp [inQ]
theorem thrQ_mem (c n q : Int) : ∀ (l : List S36), (∀ r ∈ l, r.f0 < r.f1) → (mem (thrQ c n l) q ↔ mem (throughP c n l) q)
  | [], _ => by simp [thrQ, throughP]
  | r :: l, h => by
    have hr := h r List.mem_cons_self
    rw [thrQ_cons, throughP_cons, mem_append, mem_append, mem_cons, mem_cons, thrQ_mem c n q l (fun s hs => h s (List.mem_cons_of_mem _ hs)),
      one_mem (fun hb => by have := of_decide_eq_false hb; unfold mn; dsimp only; split <;> omega), one_mem (fun hb => by have := of_decide_eq_false hb; unfold mx; dsimp only; split <;> omega)]
    rfl
theorem oldQ_mem (c n q : Int) (hn : 0 ≤ n) : ∀ (l : List S36), (∀ r ∈ l, r.f0 < r.f1) → (mem (oldQ c n l) q ↔ mem (oldP c n l) q)
  | [], _ => by simp [oldQ, oldP]
  | r :: l, h => by
    have hr := h r List.mem_cons_self
    rw [oldQ_cons, oldP_cons, mem_append, mem_append, mem_cons, mem_cons, oldQ_mem c n q hn l (fun s hs => h s (List.mem_cons_of_mem _ hs)),
      one_mem (fun hb => by have := of_decide_eq_false hb; unfold mn; dsimp only; split <;> omega), one_mem (fun hb => by have := of_decide_eq_false hb; unfold mx; dsimp only; split <;> omega)]
    rfl
theorem inQ_mem (c n q : Int) (hn : 0 ≤ n) : ∀ (l : List S36), (∀ r ∈ l, r.f0 < r.f1) → (mem (inQ c n l) q ↔ mem (inP c n l) q)
  | [], _ => by simp [inQ, inP]
  | r :: l, h => by
    have hr := h r List.mem_cons_self
    rw [inQ_cons, inP_cons, mem_append, mem_cons, inQ_mem c n q hn l (fun s hs => h s (List.mem_cons_of_mem _ hs)),
      one_mem (fun hb => by have := of_decide_eq_false hb; unfold mx mn; dsimp only; split <;> split <;> omega)]
    rfl
theorem thrQ_ok (c n : Int) (hn : 0 ≤ n) : ∀ (l : List S36), (∀ r ∈ l, r.f0 < r.f1) → (thrQ c n l).length ≤ 2 * l.length ∧ ∀ r ∈ thrQ c n l, r.f0 ≤ r.f1
  | [], _ => by simp [thrQ]
  | r :: l, h => by
    have hr := h r List.mem_cons_self
    obtain ⟨i1, i2⟩ := thrQ_ok c n hn l (fun s hs => h s (List.mem_cons_of_mem _ hs))
    rw [thrQ_cons]
    constructor
    · have := one_len (decide (r.f0 < c)) ⟨r.f0, mn r.f1 c⟩
      have := one_len (decide (r.f1 > c)) ⟨mx r.f0 c + n, r.f1 + n⟩
      simp only [List.length_append, List.length_cons]
      omega
    · intro x hx
      rcases List.mem_append.1 hx with hx | hx
      · obtain ⟨hb, rfl⟩ := one_in hx
        have := of_decide_eq_true hb
        unfold mn; dsimp only; split <;> omega
      · rcases List.mem_append.1 hx with hx | hx
        · obtain ⟨hb, rfl⟩ := one_in hx
          have := of_decide_eq_true hb
          unfold mx; dsimp only; split <;> omega
        · exact i2 x hx
theorem oldQ_ok (c n : Int) (hn : 0 ≤ n) : ∀ (l : List S36), (∀ r ∈ l, r.f0 < r.f1) → (oldQ c n l).length ≤ 2 * l.length ∧ ∀ r ∈ oldQ c n l, r.f0 ≤ r.f1
  | [], _ => by simp [oldQ]
  | r :: l, h => by
    have hr := h r List.mem_cons_self
    obtain ⟨i1, i2⟩ := oldQ_ok c n hn l (fun s hs => h s (List.mem_cons_of_mem _ hs))
    rw [oldQ_cons]
    constructor
    · have := one_len (decide (r.f0 < c)) ⟨r.f0, mn r.f1 c⟩
      have := one_len (decide (r.f1 > c + n)) ⟨mx r.f0 (c + n) - n, r.f1 - n⟩
      simp only [List.length_append, List.length_cons]
      omega
    · intro x hx
      rcases List.mem_append.1 hx with hx | hx
      · obtain ⟨hb, rfl⟩ := one_in hx
        have := of_decide_eq_true hb
        unfold mn; dsimp only; split <;> omega
      · rcases List.mem_append.1 hx with hx | hx
        · obtain ⟨hb, rfl⟩ := one_in hx
          have := of_decide_eq_true hb
          unfold mx; dsimp only; split <;> omega
        · exact i2 x hx
theorem inQ_ok (c n : Int) (hn : 0 ≤ n) : ∀ (l : List S36), (∀ r ∈ l, r.f0 < r.f1) → (inQ c n l).length ≤ 2 * l.length ∧ ∀ r ∈ inQ c n l, r.f0 ≤ r.f1
  | [], _ => by simp [inQ]
  | r :: l, h => by
    have hr := h r List.mem_cons_self
    obtain ⟨i1, i2⟩ := inQ_ok c n hn l (fun s hs => h s (List.mem_cons_of_mem _ hs))
    rw [inQ_cons]
    constructor
    · have := one_len (decide (r.f1 > c ∧ r.f0 < c + n)) ⟨mx r.f0 c - c, mn r.f1 (c + n) - c⟩
      simp only [List.length_append, List.length_cons]
      omega
    · intro x hx
      rcases List.mem_append.1 hx with hx | hx
      · obtain ⟨hb, rfl⟩ := one_in hx
        have := of_decide_eq_true hb
        unfold mx mn; dsimp only; split <;> split <;> omega
      · exact i2 x hx
theorem grows_iff {l : List S36} (h : Nrm l) (c n : Int) : grows l c n = true ↔ ∃ r ∈ l, r.f1 > c ∧ r.f1 + n > 1048576 := by
  rcases concat_cases l with rfl | ⟨i, x, rfl⟩
  · simp [grows]
  · obtain ⟨_, h2, h3⟩ := nrm_append.1 h
    have hx := h2.2 x (by simp)
    unfold grows
    rw [getLast_snoc]
    simp only [Option.any_some, decide_eq_true_iff]
    constructor
    · exact fun g => ⟨x, by simp, g⟩
    · rintro ⟨r, hr, g1, g2⟩
      rcases List.mem_append.1 hr with hr | hr
      · have := h3 r hr x (by simp)
        omega
      · have : r = x := by simpa using hr
        subst this
        exact ⟨g1, g2⟩
theorem refThrough_l0 {c n : Int} (hc : 0 ≤ c ∧ c ≤ 1048576) (hn : 0 ≤ n ∧ n ≤ 1048576) {R : List S36 × Int} : ∀ (suf pre acc : List S36), (pre ++ suf).length ≤ 32768 → Small suf → acc.length ≤ 2 * pre.length →
    ((∃ r ∈ suf, r.f1 > c ∧ r.f1 + n > 1048576) → R = ([], 24)) →
    ((¬ ∃ r ∈ suf, r.f1 > c ∧ r.f1 + n > 1048576) → Ev (fun k => (redraftref02_Places.f k (acc ++ thrQ c n suf)).bind fun t => (redraftref02_few.f t).bind fun b => some (b.1, b.2)) R) →
    Ev (fun k => redraftref02_Through.l0 k (pre ++ suf) c n acc (pre.length : Int)) R
  | [], pre, acc, hl, hs, ha, h1, h2 => by
    refine Ev.step (fun k => ?_) (h2 (by simp))
    simp only [redraftref02_Through.l0]
    rw [if_neg (by simp)]
    simp [thrQ]
  | r :: suf, pre, acc, hl, hs, ha, h1, h2 => by
    have hl1 : (pre ++ r :: suf).length = pre.length + 1 + suf.length := by simp; omega
    obtain ⟨s1, s2, s3⟩ := hs r List.mem_cons_self
    have hm : 0 ≤ mx r.f0 c ∧ mx r.f0 c ≤ 1048576 := by unfold mx; split <;> omega
    have more : ∀ acc' : List S36, acc'.length ≤ 2 * pre.length + 2 → acc' ++ thrQ c n suf = acc ++ thrQ c n (r :: suf) → (¬ (r.f1 > c ∧ r.f1 + n > 1048576)) → Ev (fun k => redraftref02_Through.l0 k (pre ++ r :: suf) c n acc' (((pre ++ [r]).length : Nat) : Int)) R := by
      intro acc' e1 e2 e3
      have ih := refThrough_l0 hc hn (R := R) suf (pre ++ [r]) acc' (by rw [List.append_assoc]; exact hl) hs.tail (by simp; omega) (fun ⟨x, hx, g⟩ => h1 ⟨x, List.mem_cons_of_mem _ hx, g⟩) (fun g => by
        rw [e2]
        refine h2 ?_
        rintro ⟨x, hx, g2⟩
        rcases List.mem_cons.1 hx with rfl | hx
        · exact e3 g2
        · exact g ⟨x, hx, g2⟩)
      rw [List.append_assoc, List.singleton_append] at ih
      exact ih
    have second : ∀ acc' : List S36, acc' = acc ++ one (decide (r.f0 < c)) ⟨r.f0, mn r.f1 c⟩ → acc'.length ≤ 2 * pre.length + 1 → Ev (fun k => redraftref02_Through.j2 k (pre ++ r :: suf) c n acc' (pre.length : Int) r.f0 r.f1) R := by
      intro acc' e1 e2
      by_cases d : r.f1 > c
      · by_cases g : r.f1 + n > 1048576
        · rw [h1 ⟨r, List.mem_cons_self, d, g⟩]
          refine Ev.step (f := fun _ => some ([], 24)) (fun k => ?_) (Ev.now _)
          simp only [redraftref02_Through.j2]
          rw [if_pos d, w64 (n := r.f1 + n) (by omega) (by omega), if_pos g]
        · refine Ev.step (fun k => ?_) (more (acc' ++ [⟨mx r.f0 c + n, r.f1 + n⟩]) (by simp; omega) (by rw [thrQ_cons, e1]; simp [one, d]) (fun h => g h.2))
          simp only [redraftref02_Through.j2]
          rw [if_pos d, w64 (n := r.f1 + n) (by omega) (by omega), if_neg g, if_pos (by omega), w64 (n := mx r.f0 c + n) (by omega) (by omega), e_succ pre r (by omega)]
      · refine Ev.step (fun k => ?_) (more acc' (by omega) (by rw [thrQ_cons, e1]; simp [one, d]) (fun h => d h.1))
        simp only [redraftref02_Through.j2]
        rw [if_neg d, e_succ pre r (by omega)]
    by_cases d : r.f0 < c
    · refine Ev.step (fun k => ?_) (second (acc ++ [⟨r.f0, mn r.f1 c⟩]) (by simp [one, d]) (by simp; omega))
      simp only [redraftref02_Through.l0]
      rw [if_pos (by omega), if_pos (by omega), rd_at, if_pos d, if_pos (by omega)]
    · refine Ev.step (fun k => ?_) (second acc (by simp [one, d]) (by omega))
      simp only [redraftref02_Through.l0]
      rw [if_pos (by omega), if_pos (by omega), rd_at, if_neg d]
theorem refThrough_ev {l : List S36} (hs : Short l) (c n : Int) : Ev (fun k => redraftref02_Through.f k l c n) (throughA l c n) := by
  unfold redraftref02_Through.f throughA
  refine Ev.bind (refCheck_ev hs) ?_
  by_cases g : (checkS l).2 = 0
  · simp only [if_pos g]
    have h := checkS_good.1 g
    have key : ∀ b : Bool, b = decide ((c < 0 ∨ c > 1048576) ∨ (n < 0 ∨ n > 1048576)) → Ev (fun k => redraftref02_Through.j0 k l c n b) (if (c < 0 ∨ c > 1048576) ∨ (n < 0 ∨ n > 1048576) then ([], 12) else if grows l c n = true then ([], 24) else few (throughS c n l)) := by
      rintro b rfl
      by_cases c2 : (c < 0 ∨ c > 1048576) ∨ (n < 0 ∨ n > 1048576)
      · rw [if_pos c2]
        refine Ev.step (f := fun _ => some ([], 12)) (fun k => ?_) (Ev.now _)
        simp only [redraftref02_Through.j0]
        rw [if_pos (by simpa using c2)]
      · rw [if_neg c2]
        refine Ev.step (f := fun k => redraftref02_Through.l0 k l c n [] 0) (fun k => ?_) ?_
        · simp only [redraftref02_Through.j0]
          rw [if_neg (by simpa using c2)]
        · refine refThrough_l0 (by omega) (by omega) l [] [] h.1 h.small (by simp) (fun e => ?_) (fun e => ?_)
          · rw [if_pos ((grows_iff h.nrm c n).2 e)]
          · rw [if_neg (fun e2 => e ((grows_iff h.nrm c n).1 e2))]
            have hn : 0 ≤ n := by omega
            have hlt : ∀ r ∈ l, r.f0 < r.f1 := h.nrm.2
            obtain ⟨o1, o2⟩ := thrQ_ok c n hn l hlt
            obtain ⟨t1, t2⟩ := throughS_spec (c := c) hn h.nrm
            have hl := h.1
            rw [List.nil_append]
            refine Ev.bind (Places_eq (by omega) o2 t1 (fun q => by rw [t2, thrQ_mem c n q l hlt, (throughP_spec c n hn l h.nrm).1])) ?_
            simp only [reffew]
            exact Ev.now _
    by_cases a1 : c < 0
    · simp only [if_pos a1]; exact key true (by simp [a1])
    · simp only [if_neg a1]
      by_cases a2 : n < 0
      · simp only [if_pos a2]; exact key true (by simp [a2])
      · simp only [if_neg a2]
        by_cases a3 : c > 1048576
        · simp only [if_pos a3]; exact key true (by simp [a3])
        · simp only [if_neg a3]
          exact key _ (by rw [Bool.eq_iff_iff, decide_eq_true_iff, decide_eq_true_iff]; omega)
  · simp only [if_neg g]
    exact Ev.now _
def backA (l : List S36) (c n : Int) : List S36 × List S36 × Int :=
  if (checkS l).2 = 0 then (if ((c < 0 ∨ c > 1048576) ∨ (n < 0 ∨ n > 1048576)) ∨ c + n > 1048576 then ([], [], 12) else (oldS c n l, inS c n l, 0)) else ([], [], (checkS l).2)
theorem refBack_l0 {c n : Int} (hc : 0 ≤ c ∧ c ≤ 1048576) (hn : 0 ≤ n ∧ n ≤ 1048576) {R : List S36 × List S36 × Int} : ∀ (suf pre x y : List S36), (pre ++ suf).length ≤ 32768 → Small suf → x.length ≤ 2 * pre.length → y.length ≤ pre.length →
    Ev (fun k => (redraftref02_Places.f k (x ++ oldQ c n suf)).bind fun t => (redraftref02_Places.f k (y ++ inQ c n suf)).bind fun u => some (t, u, 0)) R →
    Ev (fun k => redraftref02_Back.l0 k (pre ++ suf) c n x y (pre.length : Int)) R
  | [], pre, x, y, hl, hs, hx, hy, h => by
    refine Ev.step (fun k => ?_) h
    simp only [redraftref02_Back.l0]
    rw [if_neg (by simp)]
    simp [oldQ, inQ]
  | r :: suf, pre, x, y, hl, hs, hx, hy, h => by
    have hl1 : (pre ++ r :: suf).length = pre.length + 1 + suf.length := by simp; omega
    obtain ⟨s1, s2, s3⟩ := hs r List.mem_cons_self
    have hm : 0 ≤ mx r.f0 c ∧ mx r.f0 c ≤ 1048576 := by unfold mx; split <;> omega
    have hm2 : 0 ≤ mx r.f0 (c + n) ∧ mx r.f0 (c + n) ≤ 2097152 := by unfold mx; split <;> omega
    have hm3 : 0 ≤ mn r.f1 (c + n) ∧ mn r.f1 (c + n) ≤ 1048576 := by unfold mn; split <;> omega
    have ecn : wrap64 (c + n) = c + n := w64 (by omega) (by omega)
    have more : ∀ x' y' : List S36, x'.length ≤ 2 * pre.length + 2 → y'.length ≤ pre.length + 1 → x' ++ oldQ c n suf = x ++ oldQ c n (r :: suf) → y' ++ inQ c n suf = y ++ inQ c n (r :: suf) → Ev (fun k => redraftref02_Back.l0 k (pre ++ r :: suf) c n x' y' (((pre ++ [r]).length : Nat) : Int)) R := by
      intro x' y' e1 e2 e3 e4
      have ih := refBack_l0 hc hn (R := R) suf (pre ++ [r]) x' y' (by rw [List.append_assoc]; exact hl) hs.tail (by simp; omega) (by simp; omega) (by rw [e3, e4]; exact h)
      rw [List.append_assoc, List.singleton_append] at ih
      exact ih
    have third : ∀ (x' y' : List S36) (k : Nat), x'.length ≤ 2 * pre.length + 1 → (if r.f1 > c + n then (if x'.length < 8796093022208 then (redraftref02_Back.l0 k (pre ++ r :: suf) c n (x' ++ [(⟨wrap64 ((mx r.f0 (c + n)) - n), wrap64 (r.f1 - n)⟩ : S36)]) y' (wrap64 ((pre.length : Int) + 1))) else none) else redraftref02_Back.l0 k (pre ++ r :: suf) c n x' y' (wrap64 ((pre.length : Int) + 1))) =
        redraftref02_Back.l0 k (pre ++ r :: suf) c n (x' ++ one (decide (r.f1 > c + n)) ⟨mx r.f0 (c + n) - n, r.f1 - n⟩) y' (((pre ++ [r]).length : Nat) : Int) := by
      intro x' y' k e1
      rw [e_succ pre r (by omega)]
      by_cases d : r.f1 > c + n
      · rw [if_pos d, if_pos (by omega), w64 (n := mx r.f0 (c + n) - n) (by omega) (by omega), w64 (n := r.f1 - n) (by omega) (by omega)]
        simp [one, d]
      · rw [if_neg d]
        simp [one, d]
    have second : ∀ x' : List S36, x' = x ++ one (decide (r.f0 < c)) ⟨r.f0, mn r.f1 c⟩ → x'.length ≤ 2 * pre.length + 1 → Ev (fun k => redraftref02_Back.j2 k (pre ++ r :: suf) c n x' y (pre.length : Int) r.f0 r.f1) R := by
      intro x' e1 e2
      have l1 := one_len (decide (r.f1 > c + n)) ⟨mx r.f0 (c + n) - n, r.f1 - n⟩
      have l2 := one_len (decide (r.f1 > c ∧ r.f0 < c + n)) ⟨mx r.f0 c - c, mn r.f1 (c + n) - c⟩
      have hj3 : ∀ b : Bool, b = decide (r.f1 > c ∧ r.f0 < c + n) → Ev (fun k => redraftref02_Back.j3 k (pre ++ r :: suf) c n x' y (pre.length : Int) r.f0 r.f1 b) R := by
        rintro b rfl
        refine Ev.step (fun k => ?_) (more (x' ++ one (decide (r.f1 > c + n)) ⟨mx r.f0 (c + n) - n, r.f1 - n⟩) (y ++ one (decide (r.f1 > c ∧ r.f0 < c + n)) ⟨mx r.f0 c - c, mn r.f1 (c + n) - c⟩) (by simp only [List.length_append]; omega) (by simp only [List.length_append]; omega) (by rw [oldQ_cons, e1]; simp) (by rw [inQ_cons]; simp))
        simp only [redraftref02_Back.j3, ecn]
        by_cases d : r.f1 > c ∧ r.f0 < c + n
        · rw [if_pos (by simpa using d), if_pos (by omega)]
          simp only [Option.bind_some]
          rw [third _ _ _ e2, w64 (n := mx r.f0 c - c) (by omega) (by omega), w64 (n := mn r.f1 (c + n) - c) (by omega) (by omega)]
          simp [one, d]
        · rw [if_neg (by simpa using d), third _ _ _ e2]
          simp [one, d]
      by_cases d : r.f1 > c
      · refine Ev.step (fun k => ?_) (hj3 (decide (r.f0 < c + n)) (by simp [d]))
        simp only [redraftref02_Back.j2]
        rw [if_pos d, ecn]
      · refine Ev.step (fun k => ?_) (hj3 false (by simp [d]))
        simp only [redraftref02_Back.j2]
        rw [if_neg d]
    by_cases d : r.f0 < c
    · refine Ev.step (fun k => ?_) (second (x ++ [⟨r.f0, mn r.f1 c⟩]) (by simp [one, d]) (by simp; omega))
      simp only [redraftref02_Back.l0]
      rw [if_pos (by omega), if_pos (by omega), rd_at, if_pos d, if_pos (by omega)]
    · refine Ev.step (fun k => ?_) (second x (by simp [one, d]) (by omega))
      simp only [redraftref02_Back.l0]
      rw [if_pos (by omega), if_pos (by omega), rd_at, if_neg d]
theorem refBack_ev {l : List S36} (hs : Short l) (c n : Int) : Ev (fun k => redraftref02_Back.f k l c n) (backA l c n) := by
  unfold redraftref02_Back.f backA
  refine Ev.bind (refCheck_ev hs) ?_
  by_cases g : (checkS l).2 = 0
  · simp only [if_pos g]
    have h := checkS_good.1 g
    have key : ∀ b : Bool, b = decide (((c < 0 ∨ c > 1048576) ∨ (n < 0 ∨ n > 1048576)) ∨ c + n > 1048576) → Ev (fun k => redraftref02_Back.j0 k l c n b) (if ((c < 0 ∨ c > 1048576) ∨ (n < 0 ∨ n > 1048576)) ∨ c + n > 1048576 then ([], [], 12) else (oldS c n l, inS c n l, 0)) := by
      rintro b rfl
      by_cases c2 : ((c < 0 ∨ c > 1048576) ∨ (n < 0 ∨ n > 1048576)) ∨ c + n > 1048576
      · rw [if_pos c2]
        refine Ev.step (f := fun _ => some ([], [], 12)) (fun k => ?_) (Ev.now _)
        simp only [redraftref02_Back.j0]
        rw [if_pos (decide_eq_true c2)]
      · rw [if_neg c2]
        refine Ev.step (f := fun k => redraftref02_Back.l0 k l c n [] [] 0) (fun k => ?_) ?_
        · simp only [redraftref02_Back.j0]
          rw [if_neg (fun e => c2 (of_decide_eq_true e))]
        · refine refBack_l0 (by omega) (by omega) l [] [] [] h.1 h.small (by simp) (by simp) ?_
          have hn : 0 ≤ n := by omega
          have hlt : ∀ r ∈ l, r.f0 < r.f1 := h.nrm.2
          obtain ⟨o1, o2⟩ := oldQ_ok c n hn l hlt
          obtain ⟨p1, p2⟩ := inQ_ok c n hn l hlt
          obtain ⟨t1, t2⟩ := oldS_spec (c := c) hn h.nrm
          obtain ⟨u1, u2⟩ := inS_spec (c := c) (n := n) h.nrm
          have hl := h.1
          rw [List.nil_append, List.nil_append]
          refine Ev.bind (Places_eq (by omega) o2 t1 (fun q => by rw [t2, oldQ_mem c n q hn l hlt, (oldP_spec c n hn l h.nrm).1])) (Ev.bind (Places_eq (by omega) p2 u1 (fun q => by rw [u2, inQ_mem c n q hn l hlt, (inP_spec c n l h.nrm).1])) (Ev.now _))
    by_cases a1 : c < 0
    · simp only [if_pos a1]; exact key true (by simp [a1])
    · simp only [if_neg a1]
      by_cases a2 : n < 0
      · simp only [if_pos a2]; exact key true (by simp [a2])
      · simp only [if_neg a2]
        by_cases a3 : c > 1048576
        · simp only [if_pos a3]; exact key true (by simp [a3])
        · simp only [if_neg a3]
          by_cases a4 : n > 1048576
          · simp only [if_pos a4]; exact key true (by simp [a4])
          · simp only [if_neg a4]
            exact key _ (by rw [w64 (n := c + n) (by omega) (by omega), Bool.eq_iff_iff, decide_eq_true_iff, decide_eq_true_iff]; omega)
  · simp only [if_neg g]
    exact Ev.now _
theorem Back_l0 {c n : Int} (hc : 0 ≤ c ∧ c ≤ 1048576) (hn : 0 ≤ n ∧ n ≤ 1048576) : ∀ (suf pre x y : List S36), (pre ++ suf).length ≤ 32768 → Small suf → x.length ≤ 2 * pre.length → y.length ≤ pre.length →
    Ev (fun k => span_Back.l0 k c n x y (pre ++ suf) ((pre ++ suf).length : Int) (pre.length : Int)) (adds x (oldP c n suf), adds y (inP c n suf), 0)
  | [], pre, x, y, hl, hs, hx, hy => by
    refine Ev.step (f := fun _ => some (x, y, 0)) (fun k => ?_) (Ev.now _)
    simp only [span_Back.l0]
    rw [if_neg (by simp)]
  | r :: suf, pre, x, y, hl, hs, hx, hy => by
    have hl1 : (pre ++ r :: suf).length = pre.length + 1 + suf.length := by simp; omega
    obtain ⟨s1, s2, s3⟩ := hs r List.mem_cons_self
    have hm : 0 ≤ mx r.f0 c ∧ mx r.f0 c ≤ 1048576 := by unfold mx; split <;> omega
    have hm2 : 0 ≤ mx r.f0 (c + n) ∧ mx r.f0 (c + n) ≤ 2097152 := by unfold mx; split <;> omega
    have hm3 : 0 ≤ mn r.f1 (c + n) ∧ mn r.f1 (c + n) ≤ 1048576 := by unfold mn; split <;> omega
    have ecn : wrap64 (c + n) = c + n := w64 (by omega) (by omega)
    obtain ⟨a1, a2⟩ := add_short (l := x) (n := 2 * pre.length) r.f0 (mn r.f1 c) hx (by omega)
    obtain ⟨b1, b2⟩ := add_short (l := y) (n := pre.length) (mx r.f0 c - c) (mn r.f1 (c + n) - c) hy (by omega)
    obtain ⟨c1, c2⟩ := add_short (l := addS x r.f0 (mn r.f1 c)) (n := 2 * pre.length + 1) (mx r.f0 (c + n) - n) (r.f1 - n) a1 (by omega)
    have ih := Back_l0 hc hn suf (pre ++ [r]) (addS (addS x r.f0 (mn r.f1 c)) (mx r.f0 (c + n) - n) (r.f1 - n)) (addS y (mx r.f0 c - c) (mn r.f1 (c + n) - c)) (by rw [List.append_assoc]; exact hl) hs.tail (by simp; omega) (by simp; omega)
    rw [List.append_assoc, List.singleton_append] at ih
    rw [oldP_cons, inP_cons, adds_cons, adds_cons, adds_cons]
    refine Ev.step (fun k => ?_) ih
    simp only [span_Back.l0]
    rw [if_pos (by omega), if_pos (by omega), if_pos (by omega), rd_at, ecn, add_f (by show x.length < _; omega)]
    simp only [Option.bind_some]
    rw [w64 (n := mx r.f0 c - c) (by omega) (by omega), w64 (n := mn r.f1 (c + n) - c) (by omega) (by omega), add_f (by show y.length < _; omega)]
    simp only [Option.bind_some]
    rw [w64 (n := mx r.f0 (c + n) - n) (by omega) (by omega), w64 (n := r.f1 - n) (by omega) (by omega), add_f a2]
    simp only [Option.bind_some]
    rw [e_succ pre r (by omega)]
theorem Back_ev {l : List S36} (hs : Short l) (c n : Int) : Ev (fun k => span_Back.f k l c n) (backA l c n) := by
  unfold span_Back.f backA
  refine Ev.bind (Check_ev hs) ?_
  by_cases g : (checkS l).2 = 0
  · simp only [if_pos g]
    have h := checkS_good.1 g
    have key : ∀ b : Bool, b = decide (((c < 0 ∨ c > 1048576) ∨ (n < 0 ∨ n > 1048576)) ∨ c + n > 1048576) → Ev (fun k => span_Back.j0 k l c n [] [] b) (if ((c < 0 ∨ c > 1048576) ∨ (n < 0 ∨ n > 1048576)) ∨ c + n > 1048576 then ([], [], 12) else (oldS c n l, inS c n l, 0)) := by
      rintro b rfl
      by_cases c2 : ((c < 0 ∨ c > 1048576) ∨ (n < 0 ∨ n > 1048576)) ∨ c + n > 1048576
      · rw [if_pos c2]
        refine Ev.step (f := fun _ => some ([], [], 12)) (fun k => ?_) (Ev.now _)
        simp only [span_Back.j0]
        rw [if_pos (decide_eq_true c2)]
      · rw [if_neg c2]
        refine Ev.step (f := fun k => span_Back.l0 k c n [] [] l (l.length : Int) 0) (fun k => ?_) ?_
        · simp only [span_Back.j0]
          rw [if_neg (fun e => c2 (of_decide_eq_true e))]
        · exact Back_l0 (by omega) (by omega) l [] [] [] h.1 h.small (by simp) (by simp)
    simp only [outside_f, Option.bind_some]
    by_cases a1 : c < 0 ∨ c > 1048576
    · simp only [decide_eq_true a1, if_true]; exact key true (by simp [a1])
    · simp only [show decide (c < 0 ∨ c > 1048576) = false from by simpa using a1, if_false, Bool.false_eq_true]
      by_cases a2 : n < 0 ∨ n > 1048576
      · simp only [decide_eq_true a2, if_true]; exact key true (by simp [a2])
      · simp only [show decide (n < 0 ∨ n > 1048576) = false from by simpa using a2, if_false, Bool.false_eq_true]
        exact key _ (by rw [w64 (n := c + n) (by omega) (by omega), Bool.eq_iff_iff, decide_eq_true_iff, decide_eq_true_iff]; omega)
  · simp only [if_neg g]
    exact Ev.now _
theorem oldP_len (c n : Int) (l : List S36) : (oldP c n l).length = 2 * l.length := by
  induction l with
  | nil => rfl
  | cons r l ih => rw [oldP_cons]; simp only [List.length_cons]; omega
theorem backA_short (l : List S36) (c n : Int) : Short (backA l c n).1 ∧ Short (backA l c n).2.1 := by
  unfold backA
  split
  · rename_i g
    have h := (checkS_good.1 g).1
    split
    · exact ⟨by show (0 : Nat) < _; omega, by show (0 : Nat) < _; omega⟩
    · have e1 : (oldP c n l).length = 2 * l.length := by
        exact oldP_len c n l
      have e2 : (inP c n l).length = l.length := by simp [inP]
      have a1 := adds_len (oldP c n l) []
      have a2 := adds_len (inP c n l) []
      simp only [List.length_nil] at a1 a2
      exact ⟨by show (adds [] (oldP c n l)).length < _; omega, by show (adds [] (inP c n l)).length < _; omega⟩
  · exact ⟨by show (0 : Nat) < _; omega, by show (0 : Nat) < _; omega⟩
theorem few_short (l : List S36) : Short (few l).1 := by
  unfold few
  split
  · show (0 : Nat) < _; omega
  · show l.length < _; omega
end Go.Proofs.Ytmidiifgdloojaa.SpanFns
end
section
namespace Go.Proofs.Ytmidiifgdloojaa.Km
open Go.Proofs.Ytmidiifgdloojaa.Pr
open Go.RowKit Go.Proofs.YtmidiifgdloojaaW.PrintWords Go.Proofs.YtmidiifgdloojaaW.PrintLast Go.Proofs.YtmidiifgdloojaaW.PrintMore
attribute [local go_sem] max2_int min2_int max_two min_two max_three min_three max_four min_four
set_option linter.unusedVariables false
set_option linter.unusedSimpArgs false
def redraftlaw02_sets.f (a0_0 : Int) (l0_1 : List (S36)) (l0_2 : List (S36)) (a0_3 : Int) (a0_4 : Int) : Option (Bool) := none
set_option maxHeartbeats 8000000 in
set_option maxRecDepth 100000 in
theorem redraftlaw02_sets.calls (a0_0 : Int) (A0_1 : Option Addr) (c0_1 : Nat) (l0_1 : List (S36)) (A0_2 : Option Addr) (c0_2 : Nat) (l0_2 : List (S36)) (a0_3 : Int) (a0_4 : Int) (r : Bool) (w : World) (hr0_1 : Kd.C k36 w A0_1 l0_1.length l0_1) (hc0_1 : l0_1.length ≤ c0_1) (hr0_2 : Kd.C k36 w A0_2 l0_2.length l0_2) (hc0_2 : l0_2.length ≤ c0_2) (h : redraftlaw02_sets.f a0_0 l0_1 l0_2 a0_3 a0_4 = some r) :
  Calls Try.prog 61 #[.agg #[.int .i64 a0_0, .slice A0_1 l0_1.length c0_1, .slice A0_2 l0_2.length c0_2, .int .i64 a0_3, .int .i64 a0_4]] w fun e w' => e = .returned (.bool r) ∧ Below w.heap.size w w' := by
 have hu76 := Try.underlying76
 have HR0_1 := Aside0.mk hr0_1
 have HC0_1 := Aside0.mk hc0_1
 clear hr0_1 hc0_1
 have HR0_2 := Aside0.mk hr0_2
 have HC0_2 := Aside0.mk hc0_2
 clear hr0_2 hc0_2
 have HB := Aside0.mk (Below.refl w.heap.size w)
 have H : (none) = some r := h
 clear h
 exact absurd H (by simp)
end Go.Proofs.Ytmidiifgdloojaa.Km
end
section
namespace Go.Proofs.Ytmidiifgdloojaa.Km
open Go.Proofs.Ytmidiifgdloojaa.Pr
open Go.RowKit Go.Proofs.YtmidiifgdloojaaW.PrintWords Go.Proofs.YtmidiifgdloojaaW.PrintLast Go.Proofs.YtmidiifgdloojaaW.PrintMore
attribute [local go_sem] max2_int min2_int max_two min_two max_three min_three max_four min_four
set_option linter.unusedVariables false
set_option linter.unusedSimpArgs false
def redraftlaw02_counts.f (a0_0 : Int) (l0_1 : List (S36)) (l0_2 : List (S36)) (a0_3 : Int) (a0_4 : Int) : Option (Bool) := none
set_option maxHeartbeats 8000000 in
set_option maxRecDepth 100000 in
theorem redraftlaw02_counts.calls (a0_0 : Int) (A0_1 : Option Addr) (c0_1 : Nat) (l0_1 : List (S36)) (A0_2 : Option Addr) (c0_2 : Nat) (l0_2 : List (S36)) (a0_3 : Int) (a0_4 : Int) (r : Bool) (w : World) (hr0_1 : Kd.C k36 w A0_1 l0_1.length l0_1) (hc0_1 : l0_1.length ≤ c0_1) (hr0_2 : Kd.C k36 w A0_2 l0_2.length l0_2) (hc0_2 : l0_2.length ≤ c0_2) (h : redraftlaw02_counts.f a0_0 l0_1 l0_2 a0_3 a0_4 = some r) :
  Calls Try.prog 62 #[.agg #[.int .i64 a0_0, .slice A0_1 l0_1.length c0_1, .slice A0_2 l0_2.length c0_2, .int .i64 a0_3, .int .i64 a0_4]] w fun e w' => e = .returned (.bool r) ∧ Below w.heap.size w w' := by
 have hu76 := Try.underlying76
 have HR0_1 := Aside0.mk hr0_1
 have HC0_1 := Aside0.mk hc0_1
 clear hr0_1 hc0_1
 have HR0_2 := Aside0.mk hr0_2
 have HC0_2 := Aside0.mk hc0_2
 clear hr0_2 hc0_2
 have HB := Aside0.mk (Below.refl w.heap.size w)
 have H : (none) = some r := h
 clear h
 exact absurd H (by simp)
end Go.Proofs.Ytmidiifgdloojaa.Km
end
section
namespace Go.Proofs.Ytmidiifgdloojaa.Km
open Go.Proofs.Ytmidiifgdloojaa.Pr
open Go.RowKit Go.Proofs.YtmidiifgdloojaaW.PrintWords Go.Proofs.YtmidiifgdloojaaW.PrintLast Go.Proofs.YtmidiifgdloojaaW.PrintMore
attribute [local go_sem] max2_int min2_int max_two min_two max_three min_three max_four min_four
set_option linter.unusedVariables false
set_option linter.unusedSimpArgs false
def redraftlaw02_gives.f (a0_0 : Int) (l0_1 : List (S36)) (l0_2 : List (S36)) (a0_3 : Int) (a0_4 : Int) : Option (Bool) := none
set_option maxHeartbeats 8000000 in
set_option maxRecDepth 100000 in
theorem redraftlaw02_gives.calls (a0_0 : Int) (A0_1 : Option Addr) (c0_1 : Nat) (l0_1 : List (S36)) (A0_2 : Option Addr) (c0_2 : Nat) (l0_2 : List (S36)) (a0_3 : Int) (a0_4 : Int) (r : Bool) (w : World) (hr0_1 : Kd.C k36 w A0_1 l0_1.length l0_1) (hc0_1 : l0_1.length ≤ c0_1) (hr0_2 : Kd.C k36 w A0_2 l0_2.length l0_2) (hc0_2 : l0_2.length ≤ c0_2) (h : redraftlaw02_gives.f a0_0 l0_1 l0_2 a0_3 a0_4 = some r) :
  Calls Try.prog 64 #[.agg #[.int .i64 a0_0, .slice A0_1 l0_1.length c0_1, .slice A0_2 l0_2.length c0_2, .int .i64 a0_3, .int .i64 a0_4]] w fun e w' => e = .returned (.bool r) ∧ Below w.heap.size w w' := by
 have hu76 := Try.underlying76
 have HR0_1 := Aside0.mk hr0_1
 have HC0_1 := Aside0.mk hc0_1
 clear hr0_1 hc0_1
 have HR0_2 := Aside0.mk hr0_2
 have HC0_2 := Aside0.mk hc0_2
 clear hr0_2 hc0_2
 have HB := Aside0.mk (Below.refl w.heap.size w)
 have H : (none) = some r := h
 clear h
 exact absurd H (by simp)
end Go.Proofs.Ytmidiifgdloojaa.Km
end
