/- Nothing that is handed in is changed, and each list that is answered is memory of its own, where the arguments are of bulk at most 1048576. -/
import Derived.SizedLaws
import Derived.Deep.Slices
import Derived.ChangeArms
import Derived.DataReads
import Derived.KernelRfl
import Derived.RangeFuncBox
import Derived.RangeFuncNested
import Derived.Maps.AppendAt
import Derived.TacticsInMore
import Derived.Deep.RegionWith
import Derived.Deep.CutBlock
import Derived.Deep.DeepCutAuto
import Derived.Test.YtmidiifgdloojaaClaimNewMem2
section
namespace Go.Proofs.Ytmidiifgdloojaa.Pr
open Go.RowKit Go.Proofs.YtmidiifgdloojaaW.PrintWords Go.Proofs.YtmidiifgdloojaaW.PrintLast Go.Proofs.YtmidiifgdloojaaW.PrintMore
attribute [local go_sem] max2_int min2_int max_two min_two max_three min_three max_four min_four
set_option linter.unusedVariables false
set_option linter.unusedSimpArgs false
def span_Nth.l0 : Nat → Int → List (S36) → Int → Int → Option (Int × Int)
 | 0, _, _, _, _ => none
 | k + 1, x1, x20, x21, x22 => if x22 < x21 then (if 0 ≤ x22 then (if x22 < (x20.length : Int) then (if x1 < (wrap64 (((rd_T36 x20 x22).f1) - ((rd_T36 x20 x22).f0))) then (some (wrap64 (((rd_T36 x20 x22).f0) + x1), 0)) else (span_Nth.l0 k (wrap64 (x1 - (wrap64 (((rd_T36 x20 x22).f1) - ((rd_T36 x20 x22).f0))))) x20 x21 (wrap64 (x22 + 1)))) else (none)) else (none)) else (some (0, 12))
def span_Nth.f (k : Nat) (l0 : List (S36)) (a1 : Int) : Option (Int × Int) := (span_Check.f k l0).bind fun bt561 => (if bt561.2 = 0 then (if a1 < 0 then (some (0, 12)) else (span_Nth.l0 k a1 l0 (l0.length : Int) 0)) else (some (0, bt561.2)))
theorem span_Nth.mono_l : ∀ k, (∀ y0 y1 y2 y3, LeO (span_Nth.l0 k y0 y1 y2 y3) (span_Nth.l0 (k + 1) y0 y1 y2 y3))
 | 0 => fun _ _ _ _ r h => by simp [span_Nth.l0] at h
 | k + 1 => by
  have ih0 := span_Nth.mono_l k
  ·intro y0 y1 y2 y3
   unfold span_Nth.l0
   repeat' first
   | (with_reducible exact ih0 _ _ _ _)
   | (with_reducible exact span_Check.mono _ _)
   | (with_reducible exact LeO.refl _)
   | (with_reducible exact LeO.none _)
   | (with_reducible refine LeO.ite ?_ ?_)
   | (with_reducible refine LeO.bind ?_ (fun _ => ?_))
   | exact ih0 _ _ _ _
   | exact span_Check.mono _ _
   | exact LeO.none _
   | refine LeO.ite ?_ ?_
   | refine LeO.bind ?_ (fun _ => ?_)
theorem span_Nth.mono : ∀ a0 a1 k, LeO (span_Nth.f k a0 a1) (span_Nth.f (k + 1) a0 a1) := by
 intro a0 a1 k
 have ih0 := span_Nth.mono_l k
 unfold span_Nth.f
 repeat' first
   | (with_reducible exact ih0 _ _ _ _)
   | (with_reducible exact span_Check.mono _ _)
   | (with_reducible exact LeO.refl _)
   | (with_reducible exact LeO.none _)
   | (with_reducible refine LeO.ite ?_ ?_)
   | (with_reducible refine LeO.bind ?_ (fun _ => ?_))
   | exact ih0 _ _ _ _
   | exact span_Check.mono _ _
   | exact LeO.none _
   | refine LeO.ite ?_ ?_
   | refine LeO.bind ?_ (fun _ => ?_)
set_option maxHeartbeats 8000000 in
set_option maxRecDepth 100000 in
theorem span_Nth.calls (k : Nat) (A0 : Option Addr) (c0 : Nat) (l0 : List (S36)) (a1 : Int) (r1 : Int) (r2 : Int) (w : World) (hr0 : Kd.C k36 w A0 l0.length l0) (hc0 : l0.length ≤ c0) (h : span_Nth.f k l0 a1 = some (r1, r2)) :
  Calls Try.prog 35 #[.slice A0 l0.length c0, .int .i64 a1] w fun e w' => e = .returned (.tuple #[.int .i64 r1, .int .i64 r2]) ∧ Below w.heap.size w w' := by
 have hu36 := Try.underlying36
 have HR0 := Aside0.mk hr0
 have HC0 := Aside0.mk hc0
 clear hr0 hc0
 have HB := Aside0.mk (Below.refl w.heap.size w)
 have H : ((span_Check.f k l0).bind fun bt561 => (if bt561.2 = 0 then (if a1 < 0 then (some (0, 12)) else (span_Nth.l0 k a1 l0 (l0.length : Int) 0)) else (some (0, bt561.2)))) = some (r1, r2) := h
 clear h
 replace H := Option.bind_eq_some_iff.mp H
 obtain ⟨⟨t561, t562⟩, A30, H⟩ := H
 replace H : (if t562 = 0 then (if a1 < 0 then (some (0, 12)) else (span_Nth.l0 k a1 l0 (l0.length : Int) 0)) else (some (0, t562))) = some (r1, r2) := H
 have A3 := Aside0.mk A30
 clear A30
 by_cases c4 : t562 = 0
 ·rw [if_pos c4] at H
  have c4b0 : (t562 == 0) = true := beq_iff_eq.mpr c4
  have c4b1 : (t562 != 0) = false := bne_eq_false_iff_eq.mpr c4
  clear c4
  by_cases c5 : a1 < 0
  ·rw [if_pos c5] at H
   have c5b0 : decide (a1 < 0) = true := decide_eq_true c5
   clear c5
   simp only [Option.some.injEq, Prod.mk.injEq] at H
   obtain ⟨rfl, rfl⟩ := H
   go_enter Try.func35, Try.ntmps35
   go_wp2_with (first | ((with_reducible refine gate_callee (f := 51) rfl ?_); refine goesL_ (some 12) rfl rfl Try.func51 (by kernel_rfl) rfl #[.slice A0 l0.length c0] rfl (by (try simp only [List.map_toArray, List.map_cons, List.map_nil]); first | done | rfl | (simp only [List.length_drop, List.length_take]; rfl)) ?_; (with_reducible refine (span_Check.calls k _ _ l0 t561 t562 _ ?side1 ?side2 A3.out).mono ?_); (case side1 => repeat (first | exact HR0.out | (with_reducible refine Kd.C_alloc ?_ _) | (with_reducible refine Kd.C_drewN ?_ _) | (with_reducible refine Kd.C_drew ?_))); (case side2 => exact HC0.out); rintro e w6 ⟨rfl, hb⟩; refine ⟨_, rfl, ?_⟩; have n0_ := Aside0.mk (below_step (by repeat (first | (with_reducible first | exact HB.out | apply below_alloc | apply pw_below_drewN | apply below_drew1) | exact HB.out)) hb); clear HB; have HB := n0_; clear n0_; (try clear hb); (try clear hb2); (try clear hk); (try clear hi)))
   go_ret2
   exact ⟨by first | rfl | (simp [errW_none, errW_some] <;> rfl) | (simp [*, errW_none, errW_some] <;> rfl), by repeat (first | (with_reducible first | exact HB.out | apply below_alloc | apply pw_below_drewN | apply below_drew1) | exact HB.out)⟩
  ·rw [if_neg c5] at H
   have c5b0 : decide (a1 < 0) = false := decide_eq_false c5
   clear c5
   have H' := Aside0.mk H
   clear H
   go_enter Try.func35, Try.ntmps35
   go_wp2_with (first | ((with_reducible refine gate_callee (f := 51) rfl ?_); refine goesL_ (some 12) rfl rfl Try.func51 (by kernel_rfl) rfl #[.slice A0 l0.length c0] rfl (by (try simp only [List.map_toArray, List.map_cons, List.map_nil]); first | done | rfl | (simp only [List.length_drop, List.length_take]; rfl)) ?_; (with_reducible refine (span_Check.calls k _ _ l0 t561 t562 _ ?side1 ?side2 A3.out).mono ?_); (case side1 => repeat (first | exact HR0.out | (with_reducible refine Kd.C_alloc ?_ _) | (with_reducible refine Kd.C_drewN ?_ _) | (with_reducible refine Kd.C_drew ?_))); (case side2 => exact HC0.out); rintro e w7 ⟨rfl, hb⟩; refine ⟨_, rfl, ?_⟩; have n0_ := Aside0.mk (below_step (by repeat (first | (with_reducible first | exact HB.out | apply below_alloc | apply pw_below_drewN | apply below_drew1) | exact HB.out)) hb); clear HB; have HB := n0_; clear n0_; (try clear hb); (try clear hb2); (try clear hk); (try clear hi)))
   go_loopg [1, 22] k (fun kq v1 v22 w' => ∃ (x1_1 : Int) (x22_1 : Int), v1 = .int .i64 x1_1 ∧ v22 = .int .i64 x22_1 ∧ Aside0 (span_Nth.l0 kq x1_1 l0 (l0.length : Int) x22_1 = some (r1, r2)) ∧ Aside0 (kq ≤ k) ∧ Aside0 (Below w.heap.size w w'))
   case atStart => exact ⟨(a1), (0), (by first | rfl | (simp; done) | (simp [*]; done)), (by first | rfl | (simp; done) | (simp [*]; done)), H', ⟨Nat.le_refl _⟩, ⟨by repeat (first | (with_reducible first | exact HB.out | apply below_alloc | apply pw_below_drewN | apply below_drew1) | exact HB.out)⟩⟩
   case round =>
    clear H'
    try clear p2
    try clear c3
    try clear c4
    try clear c4b0
    try clear c4b1
    try clear c5
    try clear c5b0
    obtain ⟨x1_1, x22_1, rfl, rfl, HA, HK1, HB⟩ := hrel
    cases gk with
    | zero => exact absurd HA.out (by simp [span_Nth.l0])
    | succ k1 =>
     have H := HA.out
     clear HA
     simp only [span_Nth.l0] at H
     by_cases c8 : x22_1 < (l0.length : Int)
     ·rw [if_pos c8] at H
      have c8b0 : decide (x22_1 < (l0.length : Int)) = true := decide_eq_true c8
      clear c8
      by_cases c9 : 0 ≤ x22_1
      ·rw [if_pos c9] at H
       have c9b0 : decide (0 ≤ x22_1) = true := decide_eq_true c9
       clear c9
       by_cases c10 : x22_1 < (l0.length : Int)
       ·rw [if_pos c10] at H
        have c10b0 : decide (x22_1 < (l0.length : Int)) = true := decide_eq_true c10
        clear c10
        by_cases c11 : x1_1 < (wrap64 (((rd_T36 l0 x22_1).f1) - ((rd_T36 l0 x22_1).f0)))
        ·rw [if_pos c11] at H
         have c11b0 : decide (x1_1 < (wrap64 (((rd_T36 l0 x22_1).f1) - ((rd_T36 l0 x22_1).f0)))) = true := decide_eq_true c11
         clear c11
         simp only [Option.some.injEq, Prod.mk.injEq] at H
         obtain ⟨rfl, rfl⟩ := H
         have p563 : 0 ≤ (x22_1 : Int) := of_decide_eq_true (by first | (with_reducible assumption) | assumption)
         have q563 : x22_1 < (l0.length : Int) := of_decide_eq_true (by first | (with_reducible assumption) | assumption)
         obtain ⟨ad563, e563, hx563_0, hx563_1⟩ := at_T36 HR0.out x22_1 p563 q563
         cases e563
         replace hx563_0 := (HB.out.cell (World.block_lt_of_cell? w _ hx563_0)).trans hx563_0
         replace hx563_1 := (HB.out.cell (World.block_lt_of_cell? w _ hx563_1)).trans hx563_1
         replace p563 := eq_true p563
         replace q563 := eq_true q563
         go_wp2_with (first | ((with_reducible refine gate_dst (N := 9) rfl ?_); refine box_event ?hg (N := 9) ?hd (cs := #[.int .i64 0, .int .i64 0]) (t := 36) ?hr ?_; (case hd => rfl); (case hg => rfl); (case hr => first | (go_simp; done) | (go_simp; rfl)); intro gb564 hg w12 hbox hb; have n0_ := Aside0.mk (below_step (by repeat (first | (with_reducible first | exact HB.out | apply below_alloc | apply pw_below_drewN | apply below_drew1) | exact HB.out)) hb); have n1_ := Aside0.mk (hbox); have n2_ := Aside0.mk ((by rw [hg]; exact (below_size (by repeat (first | (with_reducible first | exact HB.out | apply below_alloc | apply pw_below_drewN | apply below_drew1) | exact HB.out))) : w.heap.size ≤ gb564)); have n3_ := Aside0.mk ((by rw [hg]; exact (below_size (by repeat (first | (with_reducible first | exact HB.out | apply below_alloc | apply pw_below_drewN | apply below_drew1) | exact HB.out))) : w.heap.size ≤ gb564)); clear HB; have HB := n0_; have BK564 := n1_; have GW564 := n2_; have GE564 := n3_; clear n0_ n1_ n2_ n3_; clear hb hbox hg; have hcz13_0 : w12.cell? ⟨gb564, 0, none⟩ = some (.int .i64 0) := (blk_cell BK564.out 0).trans rfl; have hcz13_1 : w12.cell? ⟨gb564, 1, none⟩ = some (.int .i64 0) := (blk_cell BK564.out 1).trans rfl; have hfz13_0 := blk_frozen BK564.out 0; have hfz13_1 := blk_frozen BK564.out 1))
         go_ret2
         exact ⟨by first | rfl | (simp [errW_none, errW_some] <;> rfl) | (simp [*, errW_none, errW_some] <;> rfl), by repeat (first | (with_reducible first | exact HB.out | apply below_alloc | apply pw_below_drewN | apply below_drew1 | refine below_set ?_ GE564.out) | exact HB.out)⟩
        ·rw [if_neg c11] at H
         have c11b0 : decide (x1_1 < (wrap64 (((rd_T36 l0 x22_1).f1) - ((rd_T36 l0 x22_1).f0)))) = false := decide_eq_false c11
         clear c11
         have H' := Aside0.mk H
         clear H
         have p563 : 0 ≤ (x22_1 : Int) := of_decide_eq_true (by first | (with_reducible assumption) | assumption)
         have q563 : x22_1 < (l0.length : Int) := of_decide_eq_true (by first | (with_reducible assumption) | assumption)
         obtain ⟨ad563, e563, hx563_0, hx563_1⟩ := at_T36 HR0.out x22_1 p563 q563
         cases e563
         replace hx563_0 := (HB.out.cell (World.block_lt_of_cell? w _ hx563_0)).trans hx563_0
         replace hx563_1 := (HB.out.cell (World.block_lt_of_cell? w _ hx563_1)).trans hx563_1
         replace p563 := eq_true p563
         replace q563 := eq_true q563
         go_wp2_with (first | ((with_reducible refine gate_dst (N := 9) rfl ?_); refine box_event ?hg (N := 9) ?hd (cs := #[.int .i64 0, .int .i64 0]) (t := 36) ?hr ?_; (case hd => rfl); (case hg => rfl); (case hr => first | (go_simp; done) | (go_simp; rfl)); intro gb564 hg w14 hbox hb; have n0_ := Aside0.mk (below_step (by repeat (first | (with_reducible first | exact HB.out | apply below_alloc | apply pw_below_drewN | apply below_drew1) | exact HB.out)) hb); have n1_ := Aside0.mk (hbox); have n2_ := Aside0.mk ((by rw [hg]; exact (below_size (by repeat (first | (with_reducible first | exact HB.out | apply below_alloc | apply pw_below_drewN | apply below_drew1) | exact HB.out))) : w.heap.size ≤ gb564)); have n3_ := Aside0.mk ((by rw [hg]; exact (below_size (by repeat (first | (with_reducible first | exact HB.out | apply below_alloc | apply pw_below_drewN | apply below_drew1) | exact HB.out))) : w.heap.size ≤ gb564)); clear HB; have HB := n0_; have BK564 := n1_; have GW564 := n2_; have GE564 := n3_; clear n0_ n1_ n2_ n3_; clear hb hbox hg; have hcz15_0 : w14.cell? ⟨gb564, 0, none⟩ = some (.int .i64 0) := (blk_cell BK564.out 0).trans rfl; have hcz15_1 : w14.cell? ⟨gb564, 1, none⟩ = some (.int .i64 0) := (blk_cell BK564.out 1).trans rfl; have hfz15_0 := blk_frozen BK564.out 0; have hfz15_1 := blk_frozen BK564.out 1))
         go_roundg k1
         case measure => have := HK1.out; omega
         case rel => exact ⟨(wrap64 (x1_1 - (wrap64 (((rd_T36 l0 x22_1).f1) - ((rd_T36 l0 x22_1).f0))))), (wrap64 (x22_1 + 1)), (by first | rfl | (simp; done) | (simp [*]; done)), (by first | rfl | (simp; done) | (simp [*]; done)), H', ⟨by have := HK1.out; omega⟩, ⟨by repeat (first | (with_reducible first | exact HB.out | apply below_alloc | apply pw_below_drewN | apply below_drew1 | refine below_set ?_ GE564.out) | exact HB.out)⟩⟩
       ·rw [if_neg c10] at H
        exact absurd H (by simp)
      ·rw [if_neg c9] at H
       exact absurd H (by simp)
     ·rw [if_neg c8] at H
      have c8b0 : decide (x22_1 < (l0.length : Int)) = false := decide_eq_false c8
      clear c8
      simp only [Option.some.injEq, Prod.mk.injEq] at H
      obtain ⟨rfl, rfl⟩ := H
      go_wp2
      go_ret2
      exact ⟨by first | rfl | (simp [errW_none, errW_some] <;> rfl) | (simp [*, errW_none, errW_some] <;> rfl), by repeat (first | (with_reducible first | exact HB.out | apply below_alloc | apply pw_below_drewN | apply below_drew1) | exact HB.out)⟩
 ·rw [if_neg c4] at H
  have c4b0 : (t562 == 0) = false := beq_eq_false_iff_ne.mpr c4
  have c4b1 : (t562 != 0) = true := bne_iff_ne.mpr c4
  simp only [Option.some.injEq, Prod.mk.injEq] at H
  obtain ⟨rfl, rfl⟩ := H
  go_enter Try.func35, Try.ntmps35
  go_wp2_with (first | ((with_reducible refine gate_callee (f := 51) rfl ?_); refine goesL_ (some 12) rfl rfl Try.func51 (by kernel_rfl) rfl #[.slice A0 l0.length c0] rfl (by (try simp only [List.map_toArray, List.map_cons, List.map_nil]); first | done | rfl | (simp only [List.length_drop, List.length_take]; rfl)) ?_; (with_reducible refine (span_Check.calls k _ _ l0 t561 t562 _ ?side1 ?side2 A3.out).mono ?_); (case side1 => repeat (first | exact HR0.out | (with_reducible refine Kd.C_alloc ?_ _) | (with_reducible refine Kd.C_drewN ?_ _) | (with_reducible refine Kd.C_drew ?_))); (case side2 => exact HC0.out); rintro e w16 ⟨rfl, hb⟩; refine ⟨_, rfl, ?_⟩; have n0_ := Aside0.mk (below_step (by repeat (first | (with_reducible first | exact HB.out | apply below_alloc | apply pw_below_drewN | apply below_drew1) | exact HB.out)) hb); clear HB; have HB := n0_; clear n0_; (try clear hb); (try clear hb2); (try clear hk); (try clear hi)))
  go_ret2
  exact ⟨by first | rfl | (simp [errW_none, errW_some] <;> rfl) | (simp [*, errW_none, errW_some] <;> rfl), by repeat (first | (with_reducible first | exact HB.out | apply below_alloc | apply pw_below_drewN | apply below_drew1) | exact HB.out)⟩
end Go.Proofs.Ytmidiifgdloojaa.Pr
end
section
namespace Go.Proofs.Ytmidiifgdloojaa.SpanFns
open Go.RowKit Go.Proofs.YtmidiifgdloojaaW.PrintWords Go.Proofs.YtmidiifgdloojaaW.PrintMore Go.Proofs.Ytmidiifgdloojaa.Pr Go.Proofs.Ytmidiifgdloojaa.SpanMath
def Small (l : List S36) : Prop := ∀ r ∈ l, 0 ≤ r.f0 ∧ r.f0 < r.f1 ∧ r.f1 ≤ 1048576
theorem Good.small {l : List S36} (h : Good l) : Small l := fun r hr => ⟨(h.2.2 r hr).1, h.2.1.2 r hr, (h.2.2 r hr).2⟩
theorem Small.tail {r : S36} {l : List S36} (h : Small (r :: l)) : Small l := fun s hs => h s (List.mem_cons_of_mem _ hs)
theorem e_succ (pre : List S36) (r : S36) (h : pre.length < 8796093022208) : wrap64 ((pre.length : Int) + 1) = ((pre ++ [r]).length : Int) := by rw [w64 (by omega) (by omega)]; simp
theorem Count_l0 : ∀ (suf pre : List S36) (acc : Int) (k : Nat), (pre ++ suf).length ≤ 32768 → Small suf → 0 ≤ acc → acc ≤ 1048576 * (pre.length : Int) → suf.length + 1 ≤ k →
    span_Count.l0 k acc (pre ++ suf) ((pre ++ suf).length : Int) (pre.length : Int) = some (acc + cnt suf, 0)
  | [], pre, acc, k, hl, hs, h0, h1, hk => by
    obtain ⟨k, rfl⟩ : ∃ m, k = m + 1 := ⟨k - 1, by omega⟩
    simp only [span_Count.l0]
    rw [if_neg (by simp), cnt_nil, Int.add_zero]
  | r :: suf, pre, acc, k, hl, hs, h0, h1, hk => by
    simp only [List.length_cons] at hk
    obtain ⟨k, rfl⟩ : ∃ m, k = m + 1 := ⟨k - 1, by omega⟩
    have hl1 : (pre ++ r :: suf).length = pre.length + 1 + suf.length := by simp; omega
    obtain ⟨r1, r2, r3⟩ := hs r List.mem_cons_self
    simp only [span_Count.l0]
    rw [if_pos (by omega), if_pos (by omega), if_pos (by omega), rd_at, w64 (n := r.f1 - r.f0) (by omega) (by omega), w64 (by omega) (by omega), e_succ pre r (by omega)]
    have ih := Count_l0 suf (pre ++ [r]) (acc + (r.f1 - r.f0)) k (by rw [List.append_assoc]; exact hl) hs.tail (by omega) (by simp only [List.length_append, List.length_singleton]; omega) (by omega)
    rw [List.append_assoc, List.singleton_append] at ih
    rw [ih, cnt_cons, Int.add_assoc]
theorem Count_ev {l : List S36} (h : Good l) : Ev (fun k => span_Count.f k l) (cnt l, 0) := by
  refine ⟨2 * l.length + 1, fun k hk => ?_⟩
  dsimp only
  unfold span_Count.f
  rw [Check_f h.short hk, checkS_ok h]
  simp only [Option.bind_some, if_true]
  have := Count_l0 l [] 0 k h.1 h.small (by omega) (by simp) (by omega)
  rw [Int.zero_add] at this
  exact this
theorem Count_bad {l : List S36} (hs : Short l) (h : ¬ (checkS l).2 = 0) : Ev (fun k => span_Count.f k l) (0, (checkS l).2) := by
  refine ⟨2 * l.length + 1, fun k hk => ?_⟩
  dsimp only
  unfold span_Count.f
  rw [Check_f hs hk]
  simp only [Option.bind_some]
  rw [if_neg h]
theorem Rank_l0 (p : Int) (hp : 0 ≤ p ∧ p ≤ 1048576) : ∀ (suf pre : List S36) (acc : Int) (k : Nat), (pre ++ suf).length ≤ 32768 → Small suf → Nrm suf → 0 ≤ acc → acc ≤ 1048576 * (pre.length : Int) → suf.length + 1 ≤ k →
    span_Rank.l0 k p acc (pre ++ suf) ((pre ++ suf).length : Int) (pre.length : Int) = some (acc + rankS suf p, 0)
  | [], pre, acc, k, hl, hs, hn, h0, h1, hk => by
    obtain ⟨k, rfl⟩ : ∃ m, k = m + 1 := ⟨k - 1, by omega⟩
    simp only [span_Rank.l0]
    rw [if_neg (by simp), rankS_nil, Int.add_zero]
  | r :: suf, pre, acc, k, hl, hs, hn, h0, h1, hk => by
    simp only [List.length_cons] at hk
    obtain ⟨k, rfl⟩ : ∃ m, k = m + 1 := ⟨k - 1, by omega⟩
    have hl1 : (pre ++ r :: suf).length = pre.length + 1 + suf.length := by simp; omega
    obtain ⟨r1, r2, r3⟩ := hs r List.mem_cons_self
    obtain ⟨n1, n2, n3⟩ := nrm_cons.1 hn
    simp only [span_Rank.l0]
    rw [if_pos (by omega), if_pos (by omega), if_pos (by omega), rd_at]
    by_cases c : r.f0 ≥ p
    · rw [if_pos c, rankS_zero (l := r :: suf) (fun s hs => ?_), Int.add_zero]
      rcases List.mem_cons.1 hs with rfl | hs
      · omega
      · have := n2 s hs
        omega
    · have hm : 0 < mn r.f1 p - r.f0 ∧ mn r.f1 p - r.f0 ≤ 1048576 := by unfold mn; split <;> omega
      rw [if_neg c, w64 (n := mn r.f1 p - r.f0) (by omega) (by omega), w64 (by omega) (by omega), e_succ pre r (by omega)]
      have ih := Rank_l0 p hp suf (pre ++ [r]) (acc + (mn r.f1 p - r.f0)) k (by rw [List.append_assoc]; exact hl) hs.tail n3 (by omega) (by simp only [List.length_append, List.length_singleton]; omega) (by omega)
      rw [List.append_assoc, List.singleton_append] at ih
      rw [ih, rankS_cons, if_pos (by omega), Int.add_assoc]
      rfl
def rankA (l : List S36) (p : Int) : Int × Int := if (checkS l).2 = 0 then (if p < 0 ∨ p > 1048576 then (0, 12) else (rankS l p, 0)) else (0, (checkS l).2)
theorem Rank_ev {l : List S36} (hs : Short l) (p : Int) : Ev (fun k => span_Rank.f k l p) (rankA l p) := by
  refine ⟨2 * l.length + 3, fun k hk => ?_⟩
  dsimp only
  unfold span_Rank.f rankA
  rw [Check_f hs (by omega)]
  simp only [Option.bind_some]
  by_cases c : (checkS l).2 = 0
  · have h := checkS_good.1 c
    obtain ⟨k, rfl⟩ : ∃ m, k = m + 1 := ⟨k - 1, by omega⟩
    rw [if_pos c, if_pos c]
    have key : ∀ b : Bool, b = decide (p < 0 ∨ p > 1048576) → span_Rank.j0 (k + 1) l p b = some (if p < 0 ∨ p > 1048576 then (0, 12) else (rankS l p, 0)) := by
      rintro b rfl
      simp only [span_Rank.j0]
      by_cases c2 : p < 0 ∨ p > 1048576
      · rw [if_pos (by simpa using c2), if_pos c2]
      · rw [if_neg (by simpa using c2), if_neg c2]
        have := Rank_l0 p (by omega) l [] 0 k h.1 h.small h.nrm (by omega) (by simp) (by omega)
        rw [Int.zero_add] at this
        exact this
    by_cases c1 : p < 0
    · rw [if_pos c1]; exact key true (by simp [c1])
    · rw [if_neg c1]; exact key _ (by simp [c1])
  · rw [if_neg c, if_neg c]
def nthS : List S36 → Int → Int × Int
  | [], _ => (0, 12)
  | r :: l, k => if k < r.f1 - r.f0 then (r.f0 + k, 0) else nthS l (k - (r.f1 - r.f0))
theorem Nth_l0 : ∀ (suf pre : List S36) (q : Int) (k : Nat), (pre ++ suf).length ≤ 32768 → Small suf → 0 ≤ q → q ≤ 9223372036854775807 → suf.length + 1 ≤ k →
    span_Nth.l0 k q (pre ++ suf) ((pre ++ suf).length : Int) (pre.length : Int) = some (nthS suf q)
  | [], pre, q, k, hl, hs, h0, h1, hk => by
    obtain ⟨k, rfl⟩ : ∃ m, k = m + 1 := ⟨k - 1, by omega⟩
    simp only [span_Nth.l0]
    rw [if_neg (by simp)]
    rfl
  | r :: suf, pre, q, k, hl, hs, h0, h1, hk => by
    simp only [List.length_cons] at hk
    obtain ⟨k, rfl⟩ : ∃ m, k = m + 1 := ⟨k - 1, by omega⟩
    have hl1 : (pre ++ r :: suf).length = pre.length + 1 + suf.length := by simp; omega
    obtain ⟨r1, r2, r3⟩ := hs r List.mem_cons_self
    simp only [span_Nth.l0]
    rw [if_pos (by omega), if_pos (by omega), if_pos (by omega), rd_at, w64 (n := r.f1 - r.f0) (by omega) (by omega), nthS]
    by_cases c : q < r.f1 - r.f0
    · rw [if_pos c, if_pos c, w64 (by omega) (by omega)]
    · have ih := Nth_l0 suf (pre ++ [r]) (q - (r.f1 - r.f0)) k (by rw [List.append_assoc]; exact hl) hs.tail (by omega) (by omega) (by omega)
      rw [List.append_assoc, List.singleton_append] at ih
      rw [if_neg c, if_neg c, w64 (n := q - (r.f1 - r.f0)) (by omega) (by omega), e_succ pre r (by omega), ih]
def nthA (l : List S36) (q : Int) : Int × Int := if (checkS l).2 = 0 then (if q < 0 then (0, 12) else nthS l q) else (0, (checkS l).2)
theorem Nth_ev {l : List S36} (hs : Short l) (q : Int) (hq : q ≤ 9223372036854775807) : Ev (fun k => span_Nth.f k l q) (nthA l q) := by
  refine ⟨2 * l.length + 3, fun k hk => ?_⟩
  dsimp only
  unfold span_Nth.f nthA
  rw [Check_f hs (by omega)]
  simp only [Option.bind_some]
  by_cases c : (checkS l).2 = 0
  · have h := checkS_good.1 c
    rw [if_pos c, if_pos c]
    by_cases c1 : q < 0
    · rw [if_pos c1, if_pos c1]
    · rw [if_neg c1, if_neg c1]
      exact Nth_l0 l [] q k h.1 h.small (by omega) hq (by omega)
  · rw [if_neg c, if_neg c]
def countA (l : List S36) : Int × Int := if (checkS l).2 = 0 then (cnt l, 0) else (0, (checkS l).2)
theorem Count_evA {l : List S36} (hs : Short l) : Ev (fun k => span_Count.f k l) (countA l) := by
  unfold countA
  by_cases c : (checkS l).2 = 0
  · rw [if_pos c]; exact Count_ev (checkS_good.1 c)
  · rw [if_neg c]; exact Count_bad hs c
end Go.Proofs.Ytmidiifgdloojaa.SpanFns
end
section
namespace Go.Proofs.Ytmidiifgdloojaa.SpanFns
open Go.RowKit Go.Proofs.YtmidiifgdloojaaW.PrintWords Go.Proofs.YtmidiifgdloojaaW.PrintMore Go.Proofs.Ytmidiifgdloojaa.Pr Go.Proofs.Ytmidiifgdloojaa.SpanMath
def few (l : List S36) : List S36 × Int := if l.length > 32768 then ([], 21) else (l, 0)
theorem bounded_few (l : List S36) : ((span_bounded.f l).bind fun x => some (x.1, x.2)) = some (few l) := by
  rw [bounded_f]
  unfold few
  simp only [Option.bind_some]
  split <;> rfl
theorem add_short {l : List S36} {n : Nat} (lo hi : Int) (h : l.length ≤ n) (hn : n < 8796093022207) : (addS l lo hi).length ≤ n + 1 ∧ Short (addS l lo hi) := by
  have := addS_len l lo hi
  exact ⟨by omega, by show (addS l lo hi).length < _; omega⟩
theorem Through_l0 (c n : Int) (hc : 0 ≤ c ∧ c ≤ 1048576) (hn : 0 ≤ n ∧ n ≤ 1048576) : ∀ (suf pre acc : List S36) (k : Nat), (pre ++ suf).length ≤ 32768 → Small suf → acc.length ≤ 2 * pre.length → suf.length + 1 ≤ k →
    span_Through.l0 k c n acc (pre ++ suf) ((pre ++ suf).length : Int) (pre.length : Int) = some (few (adds acc (throughP c n suf)))
  | [], pre, acc, k, hl, hs, ha, hk => by
    obtain ⟨k, rfl⟩ : ∃ m, k = m + 1 := ⟨k - 1, by omega⟩
    simp only [span_Through.l0]
    rw [if_neg (by simp), bounded_few]
    rfl
  | r :: suf, pre, acc, k, hl, hs, ha, hk => by
    simp only [List.length_cons] at hk
    obtain ⟨k, rfl⟩ : ∃ m, k = m + 1 := ⟨k - 1, by omega⟩
    have hl1 : (pre ++ r :: suf).length = pre.length + 1 + suf.length := by simp; omega
    obtain ⟨r1, r2, r3⟩ := hs r List.mem_cons_self
    have hm : 0 ≤ mx r.f0 c ∧ mx r.f0 c ≤ 1048576 := by unfold mx; split <;> omega
    obtain ⟨a1, a2⟩ := add_short (l := acc) (n := 2 * pre.length) r.f0 (mn r.f1 c) ha (by omega)
    obtain ⟨b1, b2⟩ := add_short (l := addS acc r.f0 (mn r.f1 c)) (n := 2 * pre.length + 1) (mx r.f0 c + n) (r.f1 + n) a1 (by omega)
    simp only [span_Through.l0]
    rw [if_pos (by omega), if_pos (by omega), if_pos (by omega), rd_at, add_f (by show acc.length < _; omega)]
    simp only [Option.bind_some]
    rw [w64 (n := mx r.f0 c + n) (by omega) (by omega), w64 (n := r.f1 + n) (by omega) (by omega), add_f a2]
    simp only [Option.bind_some]
    rw [e_succ pre r (by omega)]
    have ih := Through_l0 c n hc hn suf (pre ++ [r]) (addS (addS acc r.f0 (mn r.f1 c)) (mx r.f0 c + n) (r.f1 + n)) k (by rw [List.append_assoc]; exact hl) hs.tail (by simp only [List.length_append, List.length_singleton]; omega) (by omega)
    rw [List.append_assoc, List.singleton_append] at ih
    rw [ih, throughP_cons, adds_cons, adds_cons]
    rfl
theorem rd_getLast {l : List S36} {r : S36} (h : l.getLast? = some r) : rd_T36 l ((l.length : Int) - 1) = r := by
  rcases concat_cases l with rfl | ⟨i, x, rfl⟩
  · simp at h
  · rw [getLast_snoc] at h
    injection h with h
    subst h
    have := rd_last i x []
    rwa [List.append_nil] at this
def grows (l : List S36) (c n : Int) : Bool := l.getLast?.any (fun r => decide (r.f1 > c ∧ r.f1 + n > 1048576))
def throughA (l : List S36) (c n : Int) : List S36 × Int :=
  if (checkS l).2 = 0 then (if (c < 0 ∨ c > 1048576) ∨ (n < 0 ∨ n > 1048576) then ([], 12) else if grows l c n = true then ([], 24) else few (throughS c n l)) else ([], (checkS l).2)
theorem Through_ev {l : List S36} (hs : Short l) (c n : Int) : Ev (fun k => span_Through.f k l c n) (throughA l c n) := by
  refine ⟨2 * l.length + 5, fun k hk => ?_⟩
  dsimp only
  unfold span_Through.f throughA
  rw [Check_f hs (by omega)]
  simp only [Option.bind_some]
  by_cases g : (checkS l).2 = 0
  · have h := checkS_good.1 g
    rw [if_pos g, if_pos g]
    have key : ∀ b : Bool, b = decide ((c < 0 ∨ c > 1048576) ∨ (n < 0 ∨ n > 1048576)) → span_Through.j0 k l c n b = some (if (c < 0 ∨ c > 1048576) ∨ (n < 0 ∨ n > 1048576) then ([], 12) else if grows l c n = true then ([], 24) else few (throughS c n l)) := by
      rintro b rfl
      obtain ⟨k, rfl⟩ : ∃ m, k = m + 3 := ⟨k - 3, by omega⟩
      simp only [span_Through.j0]
      by_cases c2 : (c < 0 ∨ c > 1048576) ∨ (n < 0 ∨ n > 1048576)
      · rw [if_pos (by simpa using c2), if_pos c2]
      · have hj1 : span_Through.j1 (k + 2) l c n = some (few (throughS c n l)) := by
          simp only [span_Through.j1]
          have := Through_l0 c n (by omega) (by omega) l [] [] (k + 1) h.1 h.small (by simp) (by omega)
          exact this
        rw [if_neg (by simpa using c2), if_neg c2, hj1]
        rcases concat_cases l with rfl | ⟨i, r, rfl⟩
        · rw [if_neg (by simp), if_neg (by simp [grows])]
        · have hlen : (i ++ [r]).length = i.length + 1 := by simp
          have hb := h.1
          obtain ⟨r1, r2, r3⟩ := h.small r (by simp)
          rw [if_pos (by omega), w64 (n := ((i ++ [r]).length : Int) - 1) (by omega) (by omega), if_pos (by omega), if_pos (by omega), rd_getLast (getLast_snoc i r), w64 (n := r.f1 + n) (by omega) (by omega)]
          unfold grows
          rw [getLast_snoc]
          by_cases c3 : r.f1 > c
          · rw [if_pos c3]
            by_cases c4 : r.f1 + n > 1048576
            · rw [if_pos c4, if_pos (by simp; omega)]
            · rw [if_neg c4, if_neg (by simp; omega)]
          · rw [if_neg c3, if_neg (by simp; omega)]
    rw [outside_f]
    simp only [Option.bind_some]
    by_cases c1 : c < 0 ∨ c > 1048576
    · rw [if_pos (by simpa using c1)]
      exact key true (by simp [c1])
    · rw [if_neg (by simpa using c1), outside_f]
      simp only [Option.bind_some]
      exact key _ (by simp [c1])
  · rw [if_neg g, if_neg g]
theorem drop_one (r : S36) (l : List S36) : (r :: l).drop 1 = l := rfl
theorem rd_zero (r : S36) (l : List S36) : rd_T36 (r :: l) 0 = r := rfl
theorem Union_l0 : ∀ (n : Nat) (a b acc : List S36) (k : Nat), a.length + b.length = n → n ≤ 65536 → acc.length + n ≤ 65536 → 3 * n + 3 ≤ k →
    span_Union.l0 k a b acc = some (few (adds acc (mergeS a b))) := by
  intro n
  induction n with
  | zero =>
    intro a b acc k hn _ ha hk
    obtain ⟨k, rfl⟩ : ∃ m, k = m + 3 := ⟨k - 3, by omega⟩
    obtain rfl : a = [] := List.length_eq_zero_iff.1 (by omega)
    obtain rfl : b = [] := List.length_eq_zero_iff.1 (by omega)
    simp only [span_Union.l0]
    rw [if_neg (by simp)]
    simp only [span_Union.j1]
    rw [if_neg (by simp), bounded_few, mergeS_nil, adds_nil]
  | succ n ih =>
    intro a b acc k hn hb ha hk
    obtain ⟨k, rfl⟩ : ∃ m, k = m + 3 := ⟨k - 3, by omega⟩
    have hsh : Short acc := by show acc.length < _; omega
    have step : span_Union.j1 (k + 2) a b acc true = some (few (adds acc (mergeS a b))) := by
      have takeA : ∀ (r : S36) (a' : List S36), a = r :: a' → (mergeS a b = r :: mergeS a' b) → span_Union.j2 (k + 1) a b acc true = some (few (adds acc (mergeS a b))) := by
        rintro r a' rfl hm
        simp only [span_Union.j2, if_true]
        simp only [List.length_cons] at hn
        rw [if_pos (by simp only [List.length_cons]; omega), rd_zero, add_f hsh]
        simp only [Option.bind_some]
        rw [if_pos (by simp only [List.length_cons]; omega), drop_one, hm, adds_cons]
        have hl := addS_len acc r.f0 r.f1
        exact ih a' b _ k (by omega) (by omega) (by omega) (by omega)
      have takeB : ∀ (s : S36) (b' : List S36), b = s :: b' → (mergeS a b = s :: mergeS a b') → span_Union.j2 (k + 1) a b acc false = some (few (adds acc (mergeS a b))) := by
        rintro s b' rfl hm
        simp only [span_Union.j2]
        simp only [List.length_cons] at hn
        rw [if_neg (by simp), if_pos (by simp only [List.length_cons]; omega), rd_zero, add_f hsh]
        simp only [Option.bind_some]
        rw [if_pos (by simp only [List.length_cons]; omega), drop_one, hm, adds_cons]
        have hl := addS_len acc s.f0 s.f1
        exact ih a b' _ k (by omega) (by omega) (by omega) (by omega)
      simp only [span_Union.j1, if_true]
      cases b with
      | nil =>
        rw [if_pos (by simp)]
        cases a with
        | nil => simp at hn
        | cons r a' => exact takeA r a' rfl (by rw [mergeS_nil', mergeS_nil'])
      | cons s b' =>
        rw [if_neg (by simp only [List.length_cons]; omega)]
        cases a with
        | nil =>
          rw [if_neg (by simp)]
          exact takeB s b' rfl (by rw [mergeS_nil, mergeS_nil])
        | cons r a' =>
          rw [if_pos (by simp only [List.length_cons]; omega), if_pos (by simp only [List.length_cons]; omega), if_pos (by simp only [List.length_cons]; omega), rd_zero, rd_zero]
          by_cases c : r.f0 ≤ s.f0
          · rw [show decide (r.f0 ≤ s.f0) = true from by simpa using c]
            exact takeA r a' rfl (mergeS_le _ _ c)
          · rw [show decide (r.f0 ≤ s.f0) = false from by simpa using c]
            exact takeB s b' rfl (mergeS_gt _ _ c)
    simp only [span_Union.l0]
    cases a with
    | nil =>
      rw [if_neg (by simp)]
      rw [show decide ((b.length : Int) > 0) = true from by simp at hn; simp; omega]
      exact step
    | cons r a' =>
      rw [if_pos (by simp only [List.length_cons]; omega)]
      exact step
def unionA (a b : List S36) : List S36 × Int := if bothS a b = 0 then few (unionS a b) else ([], bothS a b)
theorem Union_ev {a b : List S36} (ha : Short a) (hb : Short b) : Ev (fun k => span_Union.f k a b) (unionA a b) := by
  refine ⟨3 * (a.length + b.length) + 3, fun k hk => ?_⟩
  dsimp only
  unfold span_Union.f unionA
  rw [both_f ha hb (by omega)]
  simp only [Option.bind_some]
  by_cases g : bothS a b = 0
  · obtain ⟨ga, gb⟩ := bothS_good.1 g
    have := ga.1
    have := gb.1
    rw [if_pos g, if_pos g, Union_l0 (a.length + b.length) a b [] k rfl (by omega) (by simp; omega) hk]
    rfl
  · rw [if_neg g, if_neg g]
theorem Meet_l0 : ∀ (n : Nat) (a b acc : List S36) (k : Nat), a.length + b.length ≤ n → n ≤ 65536 → acc.length + n ≤ 65536 → 2 * n + 2 ≤ k →
    span_Meet.l0 k a b acc = some (few (adds acc (meetP a b))) := by
  intro n
  induction n with
  | zero =>
    intro a b acc k hn _ ha hk
    obtain ⟨k, rfl⟩ : ∃ m, k = m + 2 := ⟨k - 2, by omega⟩
    obtain rfl : a = [] := List.length_eq_zero_iff.1 (by omega)
    simp only [span_Meet.l0]
    rw [if_neg (by simp)]
    simp only [span_Meet.j1]
    rw [if_neg (by simp), bounded_few, meetP_nil, adds_nil]
  | succ n ih =>
    intro a b acc k hn hb ha hk
    obtain ⟨k, rfl⟩ : ∃ m, k = m + 2 := ⟨k - 2, by omega⟩
    have hsh : Short acc := by show acc.length < _; omega
    cases a with
    | nil =>
      simp only [span_Meet.l0]
      rw [if_neg (by simp)]
      simp only [span_Meet.j1]
      rw [if_neg (by simp), bounded_few, meetP_nil, adds_nil]
    | cons r a =>
      cases b with
      | nil =>
        simp only [span_Meet.l0]
        rw [if_pos (by simp only [List.length_cons]; omega)]
        simp only [span_Meet.j1]
        rw [if_neg (by simp), bounded_few, meetP_nil', adds_nil]
      | cons s b =>
        simp only [List.length_cons] at hn
        have hl := addS_len acc (mx r.f0 s.f0) (mn r.f1 s.f1)
        simp only [span_Meet.l0]
        rw [if_pos (by simp only [List.length_cons]; omega)]
        simp only [span_Meet.j1]
        rw [if_pos (by simp only [List.length_cons, decide_eq_true_eq]; omega), if_pos (by simp only [List.length_cons]; omega), if_pos (by simp only [List.length_cons]; omega)]
        rw [rd_zero, rd_zero, add_f hsh]
        simp only [Option.bind_some]
        rw [meetP_cons, adds_cons]
        by_cases c : r.f1 ≤ s.f1
        · rw [if_pos c, if_pos (by simp only [List.length_cons]; omega), drop_one, if_pos c]
          exact ih a (s :: b) _ k (by simp only [List.length_cons]; omega) (by omega) (by omega) (by omega)
        · rw [if_neg c, if_pos (by simp only [List.length_cons]; omega), drop_one, if_neg c]
          exact ih (r :: a) b _ k (by simp only [List.length_cons]; omega) (by omega) (by omega) (by omega)
def meetA (a b : List S36) : List S36 × Int := if bothS a b = 0 then few (meetS a b) else ([], bothS a b)
theorem Meet_ev {a b : List S36} (ha : Short a) (hb : Short b) : Ev (fun k => span_Meet.f k a b) (meetA a b) := by
  refine ⟨3 * (a.length + b.length) + 3, fun k hk => ?_⟩
  dsimp only
  unfold span_Meet.f meetA
  rw [both_f ha hb (by omega)]
  simp only [Option.bind_some]
  by_cases g : bothS a b = 0
  · obtain ⟨ga, gb⟩ := bothS_good.1 g
    have := ga.1
    have := gb.1
    rw [if_pos g, if_pos g, Meet_l0 (a.length + b.length) a b [] k (Nat.le_refl _) (by omega) (by simp; omega) (by omega)]
    rfl
  · rw [if_neg g, if_neg g]
end Go.Proofs.Ytmidiifgdloojaa.SpanFns
end
section
namespace Go.Proofs.Ytmidiifgdloojaa.SpanFns
open Go.RowKit Go.Proofs.YtmidiifgdloojaaW.PrintWords Go.Proofs.YtmidiifgdloojaaW.PrintMore Go.Proofs.Ytmidiifgdloojaa.Pr Go.Proofs.Ytmidiifgdloojaa.SpanMath
theorem Minus_l2 {b a : List S36} {F : List S36 → List S36 × Int} {i rlo rhi : Int} : ∀ (suf pre acc : List S36) (lo : Int), (pre ++ suf).length ≤ 32768 → acc.length + suf.length + 1 ≤ 8796093022207 →
    (∀ t : List S36, t.length ≤ acc.length + suf.length + 1 → Ev (fun k => span_Minus.l0 k b t a (a.length : Int) (wrap64 (i + 1))) (F t)) →
    Ev (fun k => span_Minus.l2 k b acc lo a (a.length : Int) i (pre ++ suf) ((pre ++ suf).length : Int) (pre.length : Int) rlo rhi) (F (adds acc (minusIn lo rhi suf)))
  | [], pre, acc, lo, hl, ha, hk => by
    have hsh : Short acc := by simp at ha; show acc.length < _; omega
    refine Ev.step (f := fun k => span_Minus.l0 k b (addS acc lo rhi) a (a.length : Int) (wrap64 (i + 1))) (fun k => ?_) ?_
    · simp only [span_Minus.l2]
      rw [if_neg (by simp), add_f hsh]
      rfl
    · exact hk _ (by have := addS_len acc lo rhi; simp; omega)
  | s :: suf, pre, acc, lo, hl, ha, hk => by
    have hl1 : (pre ++ s :: suf).length = pre.length + 1 + suf.length := by simp; omega
    simp only [List.length_cons] at ha hk
    have hsh : Short acc := by show acc.length < _; omega
    by_cases c : s.f0 ≥ rhi
    · refine Ev.step (f := fun k => span_Minus.l0 k b (addS acc lo rhi) a (a.length : Int) (wrap64 (i + 1))) (fun k => ?_) ?_
      · simp only [span_Minus.l2]
        rw [if_pos (by omega), if_pos (by omega), if_pos (by omega), rd_at, if_pos c, add_f hsh]
        rfl
      · rw [show minusIn lo rhi (s :: suf) = [⟨lo, rhi⟩] from by rw [minusIn, if_pos c]]
        exact hk _ (by have := addS_len acc lo rhi; omega)
    · have hlen := addS_len acc lo s.f0
      refine Ev.step (f := fun k => span_Minus.l2 k b (addS acc lo s.f0) s.f1 a (a.length : Int) i (pre ++ s :: suf) ((pre ++ s :: suf).length : Int) ((pre ++ [s]).length : Int) rlo rhi) (fun k => ?_) ?_
      · simp only [span_Minus.l2]
        rw [if_pos (by omega), if_pos (by omega), if_pos (by omega), rd_at, if_neg c, add_f hsh]
        simp only [Option.bind_some]
        rw [e_succ pre s (by omega)]
      · rw [show minusIn lo rhi (s :: suf) = ⟨lo, s.f0⟩ :: minusIn s.f1 rhi suf from by rw [minusIn, if_neg c], adds_cons]
        have ih := Minus_l2 (b := b) (a := a) (F := F) (i := i) (rlo := rlo) (rhi := rhi) suf (pre ++ [s]) (addS acc lo s.f0) s.f1 (by rw [List.append_assoc]; exact hl) (by omega) (fun t ht => hk t (by omega))
        rw [List.append_assoc, List.singleton_append] at ih
        exact ih
theorem Minus_l1 {a : List S36} {i rlo rhi lo : Int} {R : List S36 × Int} {acc : List S36} : ∀ (b : List S36),
    Ev (fun k => span_Minus.j2 k (dropTo b lo) acc lo a (a.length : Int) i rlo rhi) R → Ev (fun k => span_Minus.l1 k b acc lo a (a.length : Int) i rlo rhi) R
  | [], h => Ev.step (fun k => by simp only [span_Minus.l1]; rw [if_neg (by simp)]; rfl) h
  | s :: b, h => by
    by_cases c : s.f1 ≤ lo
    · rw [dropTo_cons_le c] at h
      refine Ev.step (f := fun k => span_Minus.l1 k b acc lo a (a.length : Int) i rlo rhi) (fun k => ?_) (Minus_l1 b h)
      simp only [span_Minus.l1]
      rw [if_pos (by simp only [List.length_cons]; omega), if_pos (by simp only [List.length_cons]; omega), rd_zero, if_pos c, if_pos (by simp only [List.length_cons]; omega), drop_one]
    · rw [dropTo_cons_gt c] at h
      refine Ev.step (fun k => ?_) h
      simp only [span_Minus.l1]
      rw [if_pos (by simp only [List.length_cons]; omega), if_pos (by simp only [List.length_cons]; omega), rd_zero, if_neg c]
theorem dropTo_len (b : List S36) (lo : Int) : (dropTo b lo).length ≤ b.length := by
  induction b with
  | nil => simp [dropTo]
  | cons s b ih =>
    by_cases c : s.f1 ≤ lo
    · rw [dropTo_cons_le c]; simp only [List.length_cons]; omega
    · rw [dropTo_cons_gt c]; exact Nat.le_refl _
theorem Minus_l0 : ∀ (suf pre b acc : List S36), (pre ++ suf).length ≤ 32768 → b.length ≤ 32768 → acc.length ≤ 32769 * pre.length →
    Ev (fun k => span_Minus.l0 k b acc (pre ++ suf) ((pre ++ suf).length : Int) (pre.length : Int)) (few (adds acc (minusP suf b)))
  | [], pre, b, acc, hl, hb, ha => by
    refine Ev.step (f := fun _ => some (few acc)) (fun k => ?_) (Ev.now _)
    simp only [span_Minus.l0]
    rw [if_neg (by simp), bounded_few]
  | r :: suf, pre, b, acc, hl, hb, ha => by
    have hl1 : (pre ++ r :: suf).length = pre.length + 1 + suf.length := by simp; omega
    have hd := dropTo_len b r.f0
    rw [minusP, adds_append]
    refine Ev.step (f := fun k => span_Minus.l1 k b acc r.f0 (pre ++ r :: suf) ((pre ++ r :: suf).length : Int) (pre.length : Int) r.f0 r.f1) (fun k => ?_) (Minus_l1 b ?_)
    · simp only [span_Minus.l0]
      rw [if_pos (by omega), if_pos (by omega), if_pos (by omega), rd_at]
    · refine Ev.step (f := fun k => span_Minus.l2 k (dropTo b r.f0) acc r.f0 (pre ++ r :: suf) ((pre ++ r :: suf).length : Int) (pre.length : Int) (dropTo b r.f0) ((dropTo b r.f0).length : Int) 0 r.f0 r.f1) (fun k => by simp only [span_Minus.j2]) ?_
      refine Minus_l2 (b := dropTo b r.f0) (a := pre ++ r :: suf) (F := fun t => few (adds t (minusP suf (dropTo b r.f0)))) (i := (pre.length : Int)) (rlo := r.f0) (rhi := r.f1) (dropTo b r.f0) [] acc r.f0 (by simp; omega) (by omega) (fun t ht => ?_)
      have ih := Minus_l0 suf (pre ++ [r]) (dropTo b r.f0) t (by rw [List.append_assoc]; exact hl) (by omega) (by simp only [List.length_append, List.length_singleton]; omega)
      rw [List.append_assoc, List.singleton_append] at ih
      rw [e_succ pre r (by omega)]
      exact ih
def minusA (a b : List S36) : List S36 × Int := if bothS a b = 0 then few (minusS a b) else ([], bothS a b)
theorem Minus_ev {a b : List S36} (ha : Short a) (hb : Short b) : Ev (fun k => span_Minus.f k a b) (minusA a b) := by
  have h1 : Ev (fun k => span_both.f k a b) (bothS a b) := ⟨_, fun k hk => both_f ha hb hk⟩
  refine Ev.bind h1 ?_
  unfold minusA
  by_cases g : bothS a b = 0
  · obtain ⟨ga, gb⟩ := bothS_good.1 g
    simp only [if_pos g]
    exact Minus_l0 a [] b [] ga.1 gb.1 (by simp)
  · simp only [if_neg g]
    exact Ev.now _
end Go.Proofs.Ytmidiifgdloojaa.SpanFns
end
section
namespace Go.Proofs.Ytmidiifgdloojaa.SpanFns
open Go.RowKit Go.Proofs.YtmidiifgdloojaaW.PrintWords Go.Proofs.YtmidiifgdloojaaW.PrintMore Go.Proofs.Ytmidiifgdloojaa.Pr Go.Proofs.Ytmidiifgdloojaa.SpanMath
def backA (l : List S36) (c n : Int) : List S36 × List S36 × Int :=
  if (checkS l).2 = 0 then (if ((c < 0 ∨ c > 1048576) ∨ (n < 0 ∨ n > 1048576)) ∨ c + n > 1048576 then ([], [], 12) else (oldS c n l, inS c n l, 0)) else ([], [], (checkS l).2)
theorem Back_l0 {c n : Int} (hc : 0 ≤ c ∧ c ≤ 1048576) (hn : 0 ≤ n ∧ n ≤ 1048576) : ∀ (suf pre x y : List S36), (pre ++ suf).length ≤ 32768 → Small suf → x.length ≤ 2 * pre.length → y.length ≤ pre.length →
    Ev (fun k => span_Back.l0 k c n x y (pre ++ suf) ((pre ++ suf).length : Int) (pre.length : Int)) (adds x (oldP c n suf), adds y (inP c n suf), 0)
  | [], pre, x, y, hl, hs, hx, hy => by
    refine Ev.step (f := fun _ => some (x, y, 0)) (fun k => ?_) (Ev.now _)
    simp only [span_Back.l0]
    rw [if_neg (by simp)]
  | r :: suf, pre, x, y, hl, hs, hx, hy => by
    have hl1 : (pre ++ r :: suf).length = pre.length + 1 + suf.length := by simp; omega
    obtain ⟨s1, s2, s3⟩ := hs r List.mem_cons_self
    have hm : 0 ≤ mx r.f0 c ∧ mx r.f0 c ≤ 1048576 := by unfold mx; split <;> omega
    have hm2 : 0 ≤ mx r.f0 (c + n) ∧ mx r.f0 (c + n) ≤ 2097152 := by unfold mx; split <;> omega
    have hm3 : 0 ≤ mn r.f1 (c + n) ∧ mn r.f1 (c + n) ≤ 1048576 := by unfold mn; split <;> omega
    have ecn : wrap64 (c + n) = c + n := w64 (by omega) (by omega)
    obtain ⟨a1, a2⟩ := add_short (l := x) (n := 2 * pre.length) r.f0 (mn r.f1 c) hx (by omega)
    obtain ⟨b1, b2⟩ := add_short (l := y) (n := pre.length) (mx r.f0 c - c) (mn r.f1 (c + n) - c) hy (by omega)
    obtain ⟨c1, c2⟩ := add_short (l := addS x r.f0 (mn r.f1 c)) (n := 2 * pre.length + 1) (mx r.f0 (c + n) - n) (r.f1 - n) a1 (by omega)
    have ih := Back_l0 hc hn suf (pre ++ [r]) (addS (addS x r.f0 (mn r.f1 c)) (mx r.f0 (c + n) - n) (r.f1 - n)) (addS y (mx r.f0 c - c) (mn r.f1 (c + n) - c)) (by rw [List.append_assoc]; exact hl) hs.tail (by simp; omega) (by simp; omega)
    rw [List.append_assoc, List.singleton_append] at ih
    rw [oldP_cons, inP_cons, adds_cons, adds_cons, adds_cons]
    refine Ev.step (fun k => ?_) ih
    simp only [span_Back.l0]
    rw [if_pos (by omega), if_pos (by omega), if_pos (by omega), rd_at, ecn, add_f (by show x.length < _; omega)]
    simp only [Option.bind_some]
    rw [w64 (n := mx r.f0 c - c) (by omega) (by omega), w64 (n := mn r.f1 (c + n) - c) (by omega) (by omega), add_f (by show y.length < _; omega)]
    simp only [Option.bind_some]
    rw [w64 (n := mx r.f0 (c + n) - n) (by omega) (by omega), w64 (n := r.f1 - n) (by omega) (by omega), add_f a2]
    simp only [Option.bind_some]
    rw [e_succ pre r (by omega)]
theorem Back_ev {l : List S36} (hs : Short l) (c n : Int) : Ev (fun k => span_Back.f k l c n) (backA l c n) := by
  unfold span_Back.f backA
  refine Ev.bind (Check_ev hs) ?_
  by_cases g : (checkS l).2 = 0
  · simp only [if_pos g]
    have h := checkS_good.1 g
    have key : ∀ b : Bool, b = decide (((c < 0 ∨ c > 1048576) ∨ (n < 0 ∨ n > 1048576)) ∨ c + n > 1048576) → Ev (fun k => span_Back.j0 k l c n [] [] b) (if ((c < 0 ∨ c > 1048576) ∨ (n < 0 ∨ n > 1048576)) ∨ c + n > 1048576 then ([], [], 12) else (oldS c n l, inS c n l, 0)) := by
      rintro b rfl
      by_cases c2 : ((c < 0 ∨ c > 1048576) ∨ (n < 0 ∨ n > 1048576)) ∨ c + n > 1048576
      · rw [if_pos c2]
        refine Ev.step (f := fun _ => some ([], [], 12)) (fun k => ?_) (Ev.now _)
        simp only [span_Back.j0]
        rw [if_pos (decide_eq_true c2)]
      · rw [if_neg c2]
        refine Ev.step (f := fun k => span_Back.l0 k c n [] [] l (l.length : Int) 0) (fun k => ?_) ?_
        · simp only [span_Back.j0]
          rw [if_neg (fun e => c2 (of_decide_eq_true e))]
        · exact Back_l0 (by omega) (by omega) l [] [] [] h.1 h.small (by simp) (by simp)
    simp only [outside_f, Option.bind_some]
    by_cases a1 : c < 0 ∨ c > 1048576
    · simp only [decide_eq_true a1, if_true]; exact key true (by simp [a1])
    · simp only [show decide (c < 0 ∨ c > 1048576) = false from by simpa using a1, if_false, Bool.false_eq_true]
      by_cases a2 : n < 0 ∨ n > 1048576
      · simp only [decide_eq_true a2, if_true]; exact key true (by simp [a2])
      · simp only [show decide (n < 0 ∨ n > 1048576) = false from by simpa using a2, if_false, Bool.false_eq_true]
        exact key _ (by rw [w64 (n := c + n) (by omega) (by omega), Bool.eq_iff_iff, decide_eq_true_iff, decide_eq_true_iff]; omega)
  · simp only [if_neg g]
    exact Ev.now _
theorem oldP_len (c n : Int) (l : List S36) : (oldP c n l).length = 2 * l.length := by
  induction l with
  | nil => rfl
  | cons r l ih => rw [oldP_cons]; simp only [List.length_cons]; omega
theorem backA_short (l : List S36) (c n : Int) : Short (backA l c n).1 ∧ Short (backA l c n).2.1 := by
  unfold backA
  split
  · rename_i g
    have h := (checkS_good.1 g).1
    split
    · exact ⟨by show (0 : Nat) < _; omega, by show (0 : Nat) < _; omega⟩
    · have e1 : (oldP c n l).length = 2 * l.length := by
        exact oldP_len c n l
      have e2 : (inP c n l).length = l.length := by simp [inP]
      have a1 := adds_len (oldP c n l) []
      have a2 := adds_len (inP c n l) []
      simp only [List.length_nil] at a1 a2
      exact ⟨by show (adds [] (oldP c n l)).length < _; omega, by show (adds [] (inP c n l)).length < _; omega⟩
  · exact ⟨by show (0 : Nat) < _; omega, by show (0 : Nat) < _; omega⟩
theorem few_short (l : List S36) : Short (few l).1 := by
  unfold few
  split
  · show (0 : Nat) < _; omega
  · show l.length < _; omega
end Go.Proofs.Ytmidiifgdloojaa.SpanFns
end
section
namespace Go.Proofs.Ytmidiifgdloojaa.SpanFns
open Go.RowKit Go.Proofs.YtmidiifgdloojaaW.PrintWords Go.Proofs.YtmidiifgdloojaaW.PrintMore Go.Proofs.Ytmidiifgdloojaa.Pr Go.Proofs.Ytmidiifgdloojaa.SpanMath
def Part (r : S36) : Prop := 0 ≤ r.f0 ∧ r.f0 ≤ r.f1 ∧ r.f1 ≤ 1048576
instance (r : S36) : Decidable (Part r) := by unfold Part; infer_instance
def ofParts (l : List S36) : List S36 := adds [] (span_Make.srt l)
theorem ofParts_spec (l : List S36) : Nrm (ofParts l) ∧ ∀ q, mem (ofParts l) q ↔ mem l q := by
  obtain ⟨h1, h2⟩ := adds_spec (span_Make.srt l) [] nrm_nil (span_Make.srt_ris l).up (fun _ _ _ r hr => by simp at hr)
  exact ⟨h1, fun q => by rw [ofParts, h2, mem_nil, false_or, mem_iff (fun x => (span_Make.srt_perm l).mem_iff) q]⟩
theorem ofParts_len (l : List S36) : (ofParts l).length ≤ l.length := by
  have h := adds_len (span_Make.srt l) []
  rw [(span_Make.srt_perm l).length_eq] at h
  simpa [ofParts] using h
theorem ofParts_good {l : List S36} (hl : l.length ≤ 32768) (h : ∀ r ∈ l, Part r) : Good (ofParts l) := by
  refine ⟨Nat.le_trans (ofParts_len l) hl, (ofParts_spec l).1, ?_⟩
  refine adds_in _ [] (fun r hr => by simp at hr) (fun p hp hlt => ?_)
  have := h p ((span_Make.srt_perm l).mem_iff.1 hp)
  exact ⟨this.1, this.2.2⟩
theorem ofParts_self {l : List S36} (h : Nrm l) : ofParts l = l := nrm_ext (ofParts_spec l).1 h (ofParts_spec l).2
def makeA (l : List S36) : List S36 × Int := if l.length > 32768 then ([], 21) else if ∀ r ∈ l, Part r then (ofParts l, 0) else ([], 20)
theorem makeA_good {l : List S36} (hl : l.length ≤ 32768) (h : ∀ r ∈ l, Part r) : makeA l = (ofParts l, 0) := by
  unfold makeA
  rw [if_neg (by omega), if_pos h]
theorem makeA_short (l : List S36) : Short (makeA l).1 := by
  unfold makeA
  split
  · show (0 : Nat) < _; omega
  · split
    · have := ofParts_len l
      show (ofParts l).length < _
      omega
    · show (0 : Nat) < _; omega
theorem few_ofParts {l : List S36} (hl : l.length ≤ 32768) : few (ofParts l) = (ofParts l, 0) := by
  have := ofParts_len l
  unfold few
  rw [if_neg (by omega)]
theorem Make_l0 (l : List S36) (hl : l.length ≤ 32768) : ∀ (suf pre : List S36) (k : Nat), pre ++ suf = l → (∀ r ∈ pre, Part r) → suf.length + 1 ≤ k →
    span_Make.l0 k l l (l.length : Int) (pre.length : Int) = some (if ∀ r ∈ l, Part r then (ofParts l, 0) else ([], 20))
  | [], pre, k, e, hp, hk => by
    obtain ⟨k, rfl⟩ : ∃ m, k = m + 1 := ⟨k - 1, by omega⟩
    simp only [List.append_nil] at e
    subst e
    simp only [span_Make.l0]
    rw [if_neg (by omega), if_pos (by omega), if_pos (by omega), if_pos hp]
    unfold span_Make.fin
    rw [if_pos ⟨hl, fun r hr => ⟨(hp r hr).1, by have := hp r hr; unfold Part at this; omega⟩⟩]
    show ((span_bounded.f (ofParts pre)).bind fun b => some (b.1, b.2)) = _
    rw [bounded_few, few_ofParts hl]
  | r :: suf, pre, k, e, hp, hk => by
    simp only [List.length_cons] at hk
    obtain ⟨k, rfl⟩ : ∃ m, k = m + 1 := ⟨k - 1, by omega⟩
    have hl1 : l.length = pre.length + 1 + suf.length := by rw [← e]; simp; omega
    have hr : r ∈ l := by rw [← e]; simp
    have hrd : rd_T36 l (pre.length : Int) = r := by rw [← e]; exact rd_at pre r suf
    simp only [span_Make.l0]
    rw [if_pos (by omega), if_pos (by omega), if_pos (by omega), hrd]
    by_cases c : Part r
    · obtain ⟨c1, c2, c3⟩ := c
      rw [if_neg (by omega), if_neg (by omega), if_neg (by omega), e_succ pre r (by omega)]
      exact Make_l0 l hl suf (pre ++ [r]) k (by rw [List.append_assoc]; exact e) (fun s hs => by
        rcases List.mem_append.1 hs with hs | hs
        · exact hp s hs
        · have : s = r := by simpa using hs
          rw [this]; exact ⟨c1, c2, c3⟩) (by omega)
    · rw [if_neg (show ¬ ∀ r ∈ l, Part r from fun h => c (h r hr))]
      by_cases c1 : r.f0 < 0
      · rw [if_pos c1]
      · rw [if_neg c1]
        by_cases c2 : r.f1 > 1048576
        · rw [if_pos c2]
        · rw [if_neg c2, if_pos (by unfold Part at c; omega)]
theorem Make_f (l : List S36) : span_Make.f l = some (makeA l) := by
  unfold span_Make.f makeA
  by_cases c : l.length > 32768
  · rw [if_pos (by omega), if_pos c]
  · rw [if_neg (by omega), if_neg c]
    exact Make_l0 l (by omega) l [] _ rfl (by simp) (Nat.le_refl _)
theorem unionA_short (a b : List S36) : Short (unionA a b).1 := by
  unfold unionA
  split
  · exact few_short _
  · show (0 : Nat) < _; omega
end Go.Proofs.Ytmidiifgdloojaa.SpanFns
end
section
namespace Go.Proofs.Ytmidiifgdloojaa.SpanEach
open Go.RowKit Go.Lib Go.Proofs.YtmidiifgdloojaaW.PrintWords Go.Proofs.YtmidiifgdloojaaW.PrintLast Go.Proofs.YtmidiifgdloojaaW.PrintMore Go.Proofs.Ytmidiifgdloojaa.Pr Go.Proofs.Ytmidiifgdloojaa.SpanFns
set_option linter.unusedSimpArgs false
set_option linter.unusedVariables false
structure Pend (W : World) (B : Nat) (vs : List Value) (ls : List (List S36)) : Prop where
  n : vs.length = ls.length
  own : ∀ (i : Nat) (v : Value) (l : List S36), vs[i]? = some v → ls[i]? = some l → W.ownsRow B 36 2 v l.length (cells36 l)
  dis : ∀ (i j : Nat) (v u : Value), i < j → vs[i]? = some v → vs[j]? = some u → ∀ g, v.ownBlock = some g → u.ownBlock ≠ some g
section
variable {W W' : World} {B : Nat} {vs : List Value} {ls : List (List S36)} {v : Value} {l : List S36}
theorem Pend.nil (W : World) (B : Nat) : Pend W B [] [] := ⟨rfl, fun i v l h => by simp at h, fun i j v u _ h => by simp at h⟩
theorem Pend.both (h : Pend W B vs ls) {i : Nat} {v : Value} (hi : vs[i]? = some v) : ∃ l, ls[i]? = some l := by
  have hl := (List.getElem?_eq_some_iff.1 hi).1
  exact ⟨_, List.getElem?_eq_getElem (by rw [← h.n]; exact hl)⟩
theorem Pend.lt (h : Pend W B vs ls) {u : Value} (hu : u ∈ vs) {g : Nat} (hg : u.ownBlock = some g) : B ≤ g ∧ g < W.heap.size ∧ ∃ cur, W.heap[g]? = some (.cells cur 36 (0, 0)) := by
  obtain ⟨i, hi⟩ := List.getElem?_of_mem hu
  obtain ⟨l, hl⟩ := h.both hi
  exact row_at (h.own i u l hi hl) hg
theorem Pend.below (h : Pend W B vs ls) (hb : Below W.heap.size W W') : Pend W' B vs ls :=
  ⟨h.n, fun i v l h1 h2 => row_move (h.own i v l h1 h2) (fun g hg => hb.block g (row_at (h.own i v l h1 h2) hg).2.1), h.dis⟩
theorem Pend.add (h : Pend W B vs ls) (hv : W.ownsRow B 36 2 v l.length (cells36 l)) (hd : ∀ u ∈ vs, ∀ g, u.ownBlock = some g → v.ownBlock ≠ some g) : Pend W B (vs ++ [v]) (ls ++ [l]) := by
  refine ⟨by simp [h.n], fun i u m h1 h2 => ?_, fun i j u x hij h1 h2 => ?_⟩
  · by_cases c : i < vs.length
    · rw [List.getElem?_append_left c] at h1
      rw [List.getElem?_append_left (by rw [← h.n]; exact c)] at h2
      exact h.own i u m h1 h2
    · rw [List.getElem?_append_right (by omega)] at h1
      rw [List.getElem?_append_right (by rw [← h.n]; omega), ← h.n] at h2
      obtain ⟨k, hk⟩ : ∃ k, i - vs.length = k := ⟨_, rfl⟩
      rw [hk] at h1 h2
      cases k with
      | zero => simp at h1 h2; subst h1 h2; exact hv
      | succ k => simp at h1
  · have hjl := (List.getElem?_eq_some_iff.1 h2).1
    simp at hjl
    rw [List.getElem?_append_left (by omega)] at h1
    by_cases c : j < vs.length
    · rw [List.getElem?_append_left c] at h2
      exact h.dis i j u x hij h1 h2
    · obtain rfl : j = vs.length := by omega
      simp at h2
      subst h2
      exact hd u (List.mem_of_getElem? h1)
theorem Pend.new (h : Pend W B vs ls) (hb : Below W.heap.size W W') (hB : B ≤ W.heap.size) (hv : W'.ownsRow W.heap.size 36 2 v l.length (cells36 l)) : Pend W' B (vs ++ [v]) (ls ++ [l]) :=
  (h.below hb).add (row_low hv hB) (fun u hu g hg e => by
    have h1 := (h.lt hu hg).2.1
    have h2 := (row_at hv e).1
    omega)
end
structure Got (W : World) (B : Nat) (gg : Nat) (vs : List Value) (ls : List (List S36)) : Prop extends Pend W B vs ls where
  row : W.heap[gg]? = some (.cells vs.toArray 22 (0, 0))
  lo : B ≤ gg
theorem Got.below {W W' : World} {B gg : Nat} {vs : List Value} {ls : List (List S36)} (h : Got W B gg vs ls) (hb : Below W.heap.size W W') : Got W' B gg vs ls :=
  ⟨h.toPend.below hb, (hb.block gg (Array.getElem?_eq_some_iff.1 h.row).1).trans h.row, h.lo⟩
def answersL (a b : List S36) (at_ n : Int) : List (List S36) := [(makeA a).1, (unionA a b).1, (meetA a b).1, (minusA a b).1, (throughA a at_ n).1, (backA a at_ n).1, (backA a at_ n).2.1]
set_option maxRecDepth 100000 in
set_option maxHeartbeats 4000000 in
theorem answers_calls (a b : List S36) (at_ n : Int) (A1 A2 : Option Addr) (c1 c2 : Nat) (w : World) (ha : Kd.C k36 w A1 a.length a) (hc1 : a.length ≤ c1) (hb : Kd.C k36 w A2 b.length b) (hc2 : b.length ≤ c2) (hs1 : Short a) (hs2 : Short b) :
    Calls Try.prog 45 #[.slice A1 a.length c1, .slice A2 b.length c2, .int .i64 at_, .int .i64 n] w fun e w' => ∃ gg vs, e = .returned (.slice (some ⟨gg, 0, none⟩) 7 7) ∧ Got w' w.heap.size gg vs (answersL a b at_ n) ∧ Below w.heap.size w w' := by
  obtain ⟨k2, hk2⟩ := (Union_ev hs1 hs2).rounds
  obtain ⟨k3, hk3⟩ := (Meet_ev hs1 hs2).rounds
  obtain ⟨k4, hk4⟩ := (Minus_ev hs1 hs2).rounds
  obtain ⟨k5, hk5⟩ := (Through_ev hs1 at_ n).rounds
  obtain ⟨k6, hk6⟩ := (Back_ev hs1 at_ n).rounds
  have hV : ∀ W, Below w.heap.size w W → Kd.V k36 36 W W.heap.size (fun k => k < W.heap.size) (.slice A1 a.length c1) a ∧ Kd.V k36 36 W W.heap.size (fun k => k < W.heap.size) (.slice A2 b.length c2) b := fun W hB => ⟨Kd.V_mk hc1 (Kd.C_F k36_heap (Kd.C_below ha hB)), Kd.V_mk hc2 (Kd.C_F k36_heap (Kd.C_below hb hB))⟩
  have f1 := fun W (hB : Below w.heap.size w W) => span_Make.calls A1 c1 a (makeA a).1 (makeA a).2 W (Kd.C_below ha hB) hc1 (Make_f a)
  have f2 := fun W (hB : Below w.heap.size w W) => span_Union.calls k2 _ A1 c1 a _ A2 c2 b (unionA a b).1 (unionA a b).2 W (hV W hB).1 (hV W hB).2 hk2
  have f3 := fun W (hB : Below w.heap.size w W) => span_Meet.calls k3 _ A1 c1 a _ A2 c2 b (meetA a b).1 (meetA a b).2 W (hV W hB).1 (hV W hB).2 hk3
  have f4 := fun W (hB : Below w.heap.size w W) => span_Minus.calls k4 A1 c1 a _ A2 c2 b (minusA a b).1 (minusA a b).2 W (Kd.C_below ha hB) hc1 (hV W hB).2 hk4
  have f5 := fun W (hB : Below w.heap.size w W) => span_Through.calls k5 A1 c1 a at_ n (throughA a at_ n).1 (throughA a at_ n).2 W (Kd.C_below ha hB) hc1 hk5
  have f6 := fun W (hB : Below w.heap.size w W) => span_Back.calls k6 A1 c1 a at_ n (backA a at_ n).1 (backA a at_ n).2.1 (backA a at_ n).2.2 W (Kd.C_below ha hB) hc1 hk6
  have ht : True := trivial
  unfold answersL
  generalize makeA a = q1 at *
  generalize unionA a b = q2 at *
  generalize meetA a b = q3 at *
  generalize minusA a b = q4 at *
  generalize throughA a at_ n = q5 at *
  generalize backA a at_ n = q6 at *
  clear hk2 hk3 hk4 hk5 hk6 hV ha hb hc1 hc2 hs1 hs2
  go_enter Try.func45, Try.ntmps45
  go_wp2_with (first
    | (go_at_call 16; refine (f1 _ (Below.refl _ _)).mono ?_; clear f1; rintro e w1 ⟨v1, rfl, hR1, hb1⟩; have P1 := Lib.hid ((Pend.nil w w.heap.size).new hb1 (Nat.le_refl _) (own36 hR1)); have B1 := Lib.hid hb1; obtain ⟨D1, d1, hv1⟩ := Kd.R_slice hR1; subst hv1; clear hR1 hb1)
    | (go_at_call 24; refine (f2 _ B1.out).mono ?_; clear f2; rintro e w2 ⟨v2, rfl, hR2, hb2⟩; have P2 := Lib.hid (P1.out.new hb2 B1.out.size (own36 hR2)); have B2 := Lib.hid (B1.out.trans (hb2.mono B1.out.size)); obtain ⟨D2, d2, hv2⟩ := Kd.R_slice hR2; subst hv2; clear hR2 hb2 P1 B1)
    | (go_at_call 32; refine (f3 _ B2.out).mono ?_; clear f3; rintro e w3 ⟨v3, rfl, hR3, hb3⟩; have P3 := Lib.hid (P2.out.new hb3 B2.out.size (own36 hR3)); have B3 := Lib.hid (B2.out.trans (hb3.mono B2.out.size)); obtain ⟨D3, d3, hv3⟩ := Kd.R_slice hR3; subst hv3; clear hR3 hb3 P2 B2)
    | (go_at_call 29; refine (f4 _ B3.out).mono ?_; clear f4; rintro e w4 ⟨v4, rfl, hR4, hb4⟩; have P4 := Lib.hid (P3.out.new hb4 B3.out.size (own36 hR4)); have B4 := Lib.hid (B3.out.trans (hb4.mono B3.out.size)); obtain ⟨D4, d4, hv4⟩ := Kd.R_slice hR4; subst hv4; clear hR4 hb4 P3 B3)
    | (go_at_call 23; refine (f5 _ B4.out).mono ?_; clear f5; rintro e w5 ⟨v5, rfl, hR5, hb5⟩; have P5 := Lib.hid (P4.out.new hb5 B4.out.size (own36 hR5)); have B5 := Lib.hid (B4.out.trans (hb5.mono B4.out.size)); obtain ⟨D5, d5, hv5⟩ := Kd.R_slice hR5; subst hv5; clear hR5 hb5 P4 B4)
    | (go_at_call 21; refine (f6 _ B5.out).mono ?_; clear f6; rintro e w6 ⟨v6, v7, rfl, hR6, hR7, hb6⟩; have P6 := Lib.hid (P5.out.new hb6 B5.out.size (own36 hR6)); have P7 := Lib.hid (P6.out.add (row_low (own36 hR7) B5.out.size) (fun u hu g hg e => (by
        rcases List.mem_append.1 hu with hu | hu
        · have h1 := (P5.out.lt hu hg).2.1
          have h2 := (row_at (own36 hR7) e).1
          omega
        · rw [List.mem_singleton.1 hu] at hg
          exact hR7.1 g e (by rw [hg])))); have B6 := Lib.hid (B5.out.trans (hb6.mono B5.out.size)); obtain ⟨D6, d6, hv6⟩ := Kd.R_slice hR6; subst hv6; obtain ⟨D7, d7, hv7⟩ := Kd.R_slice hR7; subst hv7; clear hR6 hR7 hb6 P5 B5 P6))
  go_ret
  exact ⟨w6.heap.size, _, rfl, ⟨P7.out.below ((Below.refl _ w6).alloc (Nat.le_refl _) _), World.alloc_heap_new w6 _, B6.out.size⟩, B6.out.alloc B6.out.size _⟩
end Go.Proofs.Ytmidiifgdloojaa.SpanEach
end
section
namespace Go.Proofs.Ytmidiifgdloojaa.Pr
open Go.RowKit Go.Proofs.YtmidiifgdloojaaW.PrintWords Go.Proofs.YtmidiifgdloojaaW.PrintLast Go.Proofs.YtmidiifgdloojaaW.PrintMore
attribute [local go_sem] max2_int min2_int max_two min_two max_three min_three max_four min_four
set_option linter.unusedVariables false
set_option linter.unusedSimpArgs false
mutual
def redraftlaw02_right.l0 : Nat → List (S36) → List (S36) → Int → Option ((List (S36)))
 | 0, _, _, _ => none
 | k + 1, x0, x3, x4 => if x4 < (x0.length : Int) then (redraftlaw02_right.j1 k x0 x3 x4 (decide ((x3.length : Int) < 32768))) else (redraftlaw02_right.j1 k x0 x3 x4 false)
def redraftlaw02_right.j1 : Nat → List (S36) → List (S36) → Int → Bool → Option ((List (S36)))
 | 0, _, _, _, _ => none
 | k + 1, x0, x3, x4, x14 => if x14 = true then (if 0 ≤ x4 then (if x4 < (x0.length : Int) then (if ((rd_T36 x0 x4).f0) ≥ 0 then (if ((rd_T36 x0 x4).f0) ≤ ((rd_T36 x0 x4).f1) then (if ((rd_T36 x0 x4).f1) ≤ 1048576 then (if x3.length < 8796093022208 then (redraftlaw02_right.l0 k x0 (x3 ++ [(⟨(rd_T36 x0 x4).f0, (rd_T36 x0 x4).f1⟩ : S36)]) (wrap64 (x4 + 1))) else (none)) else (redraftlaw02_right.l0 k x0 x3 (wrap64 (x4 + 1)))) else (redraftlaw02_right.l0 k x0 x3 (wrap64 (x4 + 1)))) else (redraftlaw02_right.l0 k x0 x3 (wrap64 (x4 + 1)))) else (none)) else (none)) else (some x3)
end
def redraftlaw02_right.f (k : Nat) (l0 : List (S36)) : Option ((List (S36))) := redraftlaw02_right.l0 k l0 ([] : List (S36)) 0
theorem redraftlaw02_right.mono_l : ∀ k, (∀ y0 y1 y2, LeO (redraftlaw02_right.l0 k y0 y1 y2) (redraftlaw02_right.l0 (k + 1) y0 y1 y2)) ∧ (∀ y0 y1 y2 y3, LeO (redraftlaw02_right.j1 k y0 y1 y2 y3) (redraftlaw02_right.j1 (k + 1) y0 y1 y2 y3))
 | 0 => ⟨fun _ _ _ r h => by simp [redraftlaw02_right.l0] at h, fun _ _ _ _ r h => by simp [redraftlaw02_right.j1] at h⟩
 | k + 1 => by
  obtain ⟨ih0, ih1⟩ := redraftlaw02_right.mono_l k
  refine ⟨?_, ?_⟩
  ·intro y0 y1 y2
   unfold redraftlaw02_right.l0
   repeat' first
   | (with_reducible exact ih0 _ _ _)
   | (with_reducible exact ih1 _ _ _ _)
   | (with_reducible exact LeO.refl _)
   | (with_reducible exact LeO.none _)
   | (with_reducible refine LeO.ite ?_ ?_)
   | (with_reducible refine LeO.bind ?_ (fun _ => ?_))
   | exact ih0 _ _ _
   | exact ih1 _ _ _ _
   | exact LeO.none _
   | refine LeO.ite ?_ ?_
   | refine LeO.bind ?_ (fun _ => ?_)
  ·intro y0 y1 y2 y3
   unfold redraftlaw02_right.j1
   repeat' first
   | (with_reducible exact ih0 _ _ _)
   | (with_reducible exact ih1 _ _ _ _)
   | (with_reducible exact LeO.refl _)
   | (with_reducible exact LeO.none _)
   | (with_reducible refine LeO.ite ?_ ?_)
   | (with_reducible refine LeO.bind ?_ (fun _ => ?_))
   | exact ih0 _ _ _
   | exact ih1 _ _ _ _
   | exact LeO.none _
   | refine LeO.ite ?_ ?_
   | refine LeO.bind ?_ (fun _ => ?_)
theorem redraftlaw02_right.mono : ∀ a0 k, LeO (redraftlaw02_right.f k a0) (redraftlaw02_right.f (k + 1) a0) := by
 intro a0 k
 obtain ⟨ih0, ih1⟩ := redraftlaw02_right.mono_l k
 unfold redraftlaw02_right.f
 repeat' first
   | (with_reducible exact ih0 _ _ _)
   | (with_reducible exact ih1 _ _ _ _)
   | (with_reducible exact LeO.refl _)
   | (with_reducible exact LeO.none _)
   | (with_reducible refine LeO.ite ?_ ?_)
   | (with_reducible refine LeO.bind ?_ (fun _ => ?_))
   | exact ih0 _ _ _
   | exact ih1 _ _ _ _
   | exact LeO.none _
   | refine LeO.ite ?_ ?_
   | refine LeO.bind ?_ (fun _ => ?_)
set_option maxHeartbeats 8000000 in
set_option maxRecDepth 100000 in
theorem redraftlaw02_right.calls (k : Nat) (A0 : Option Addr) (c0 : Nat) (l0 : List (S36)) (r : List (S36)) (w : World) (hr0 : Kd.C k36 w A0 l0.length l0) (hc0 : l0.length ≤ c0) (h : redraftlaw02_right.f k l0 = some r) :
  Calls Try.prog 18 #[.slice A0 l0.length c0] w fun e w' => ∃ v0_ : Value, e = .returned (v0_) ∧ Kd.R k36 36 w' w.heap.size (fun _ => True) v0_ r ∧ Below w.heap.size w w' := by
 have hu36 := Try.underlying36
 have HR0 := Aside0.mk hr0
 have HC0 := Aside0.mk hc0
 clear hr0 hc0
 have HB := Aside0.mk (Below.refl w.heap.size w)
 have H : (redraftlaw02_right.l0 k l0 ([] : List (S36)) 0) = some r := h
 clear h
 have H' := Aside0.mk H
 clear H
 go_enter Try.func18, Try.ntmps18
 go_wp2
 go_loopg [3, 4] k (fun kq v3 v4 w' => ∃ (x3_1 : List (S36)) (x4_1 : Int), v4 = .int .i64 x4_1 ∧ Aside0 (redraftlaw02_right.l0 kq l0 x3_1 x4_1 = some r) ∧ Aside0 (kq ≤ k) ∧ Aside0 (Kd.R k36 36 w' w.heap.size (fun _ => True) v3 x3_1) ∧ Aside0 (Below w.heap.size w w'))
 case atStart => exact ⟨(([] : List (S36))), (0), (by first | rfl | (simp; done) | (simp [*]; done)), H', ⟨Nat.le_refl _⟩, ⟨by first | exact Kd.R_nil _ _ _ _ _ | exact Kd.N_nil _ _ _ _ _ | exact Kd.V_nil _ _ _ _ _ | exact Kd.Q_nil _ _ _ _ _ | exact Kd.S_nil _ _ _ _ _⟩, ⟨by repeat (first | (with_reducible first | exact HB.out | apply below_alloc | apply pw_below_drewN | apply below_drew1) | exact HB.out)⟩⟩
 case round =>
  clear H'
  try clear c1
  obtain ⟨x3_1, x4_1, rfl, HA, HK1, HO_3, HB⟩ := hrel
  cases gk with
  | zero => exact absurd HA.out (by simp [redraftlaw02_right.l0])
  | succ k1 =>
   have H := HA.out
   clear HA
   simp only [redraftlaw02_right.l0] at H
   have HC2 := Aside0.mk H
   clear H
   go_upto_region 3 with (fail)
   go_cut [14] (fun v14 wc => ∃ (kq : Nat) (x14_1 : Bool), v14 = .bool x14_1 ∧ Aside0 (redraftlaw02_right.j1 kq l0 x3_1 x4_1 x14_1 = some r) ∧ Aside0 (kq ≤ k1) ∧ Aside0 (Kd.R k36 36 wc w.heap.size (fun _ => True) u3 x3_1) ∧ Aside0 (Below w.heap.size w wc))
   case first =>
    have H := HC2.out
    clear HC2
    by_cases c3 : x4_1 < (l0.length : Int)
    ·rw [if_pos c3] at H
     have c3b0 : decide (x4_1 < (l0.length : Int)) = true := decide_eq_true c3
     clear c3
     (first | rw [c3b0] | (simp only [i64_w, i32_w]; rw [c3b0]) | skip)
     have H' := Aside0.mk H
     clear H
     obtain ⟨Ao4, co4, eo4⟩ := Kd.R_slice HO_3.out
     subst eo4
     go_wp2
     go_meet
     case rel => exact ⟨_, (decide ((x3_1.length : Int) < 32768)), (by first | rfl | (simp; done) | (simp [*]; done)), H', ⟨by have := HK1.out; first | omega | exact Nat.le_refl _⟩, ⟨by (with_reducible repeat (first | apply Kd.R_alloc | apply Kd.R_drewN | apply Kd.R_drew)); exact HO_3.out⟩, ⟨by repeat (first | (with_reducible first | exact HB.out | apply below_alloc | apply pw_below_drewN | apply below_drew1) | exact HB.out)⟩⟩
    ·rw [if_neg c3] at H
     have c3b0 : decide (x4_1 < (l0.length : Int)) = false := decide_eq_false c3
     clear c3
     (first | rw [c3b0] | (simp only [i64_w, i32_w]; rw [c3b0]) | skip)
     have H' := Aside0.mk H
     clear H
     go_wp2
     go_meet
     case rel => exact ⟨_, (false), (by first | rfl | (simp; done) | (simp [*]; done)), H', ⟨by have := HK1.out; first | omega | exact Nat.le_refl _⟩, ⟨by (with_reducible repeat (first | apply Kd.R_alloc | apply Kd.R_drewN | apply Kd.R_drew)); exact HO_3.out⟩, ⟨by repeat (first | (with_reducible first | exact HB.out | apply below_alloc | apply pw_below_drewN | apply below_drew1) | exact HB.out)⟩⟩
   case rest =>
    clear HC2
    try clear c1
    try clear p2
    try clear c3
    try clear c3b0
    obtain ⟨kq, x14_1, rfl, HA, HJ1, HO_3, HB⟩ := hcut
    cases kq with
    | zero => exact absurd HA.out (by simp [redraftlaw02_right.j1])
    | succ kj1 =>
     have H := HA.out
     clear HA
     simp only [redraftlaw02_right.j1] at H
     by_cases c5 : x14_1 = true
     ·subst c5
      have H1 : (if 0 ≤ x4_1 then (if x4_1 < (l0.length : Int) then (if ((rd_T36 l0 x4_1).f0) ≥ 0 then (if ((rd_T36 l0 x4_1).f0) ≤ ((rd_T36 l0 x4_1).f1) then (if ((rd_T36 l0 x4_1).f1) ≤ 1048576 then (if x3_1.length < 8796093022208 then (redraftlaw02_right.l0 kj1 l0 (x3_1 ++ [(⟨(rd_T36 l0 x4_1).f0, (rd_T36 l0 x4_1).f1⟩ : S36)]) (wrap64 (x4_1 + 1))) else (none)) else (redraftlaw02_right.l0 kj1 l0 x3_1 (wrap64 (x4_1 + 1)))) else (redraftlaw02_right.l0 kj1 l0 x3_1 (wrap64 (x4_1 + 1)))) else (redraftlaw02_right.l0 kj1 l0 x3_1 (wrap64 (x4_1 + 1)))) else (none)) else (none)) = some r := by rw [if_pos rfl] at H; exact H
      clear H
      have H := H1
      clear H1
      by_cases c6 : 0 ≤ x4_1
      ·rw [if_pos c6] at H
       have c6b0 : decide (0 ≤ x4_1) = true := decide_eq_true c6
       clear c6
       by_cases c7 : x4_1 < (l0.length : Int)
       ·rw [if_pos c7] at H
        have c7b0 : decide (x4_1 < (l0.length : Int)) = true := decide_eq_true c7
        clear c7
        by_cases c8 : ((rd_T36 l0 x4_1).f0) ≥ 0
        ·rw [if_pos c8] at H
         have c8b0 : decide (0 ≤ ((rd_T36 l0 x4_1).f0)) = true := decide_eq_true c8
         clear c8
         by_cases c9 : ((rd_T36 l0 x4_1).f0) ≤ ((rd_T36 l0 x4_1).f1)
         ·rw [if_pos c9] at H
          have c9b0 : decide (((rd_T36 l0 x4_1).f0) ≤ ((rd_T36 l0 x4_1).f1)) = true := decide_eq_true c9
          clear c9
          by_cases c10 : ((rd_T36 l0 x4_1).f1) ≤ 1048576
          ·rw [if_pos c10] at H
           have c10b0 : decide (((rd_T36 l0 x4_1).f1) ≤ 1048576) = true := decide_eq_true c10
           clear c10
           by_cases c11 : x3_1.length < 8796093022208
           ·rw [if_pos c11] at H
            have LMc11 := Aside0.mk c11
            clear c11
            obtain ⟨y117, hy117⟩ : ∃ y_ : List (S36), y_ = (x3_1 ++ [(⟨(rd_T36 l0 x4_1).f0, (rd_T36 l0 x4_1).f1⟩ : S36)]) := ⟨_, rfl⟩
            replace H : (redraftlaw02_right.l0 kj1 l0 y117 (wrap64 (x4_1 + 1))) = some r := by first | (rw [hy117]; with_reducible exact H) | (have H2_ := (Option.bind_some _ _).symm.trans H; rw [hy117]; with_reducible exact H2_) | (have H2_ := (Option.bind_some _ _).symm.trans H; with_reducible exact H2_) | with_reducible exact H | (rw [hy117]; exact H) | exact H
            have Ny117 := Aside0.mk hy117
            clear hy117
            have H' := Aside0.mk H
            clear H
            have p115 : 0 ≤ (x4_1 : Int) := of_decide_eq_true (by first | (with_reducible assumption) | assumption)
            have q115 : x4_1 < (l0.length : Int) := of_decide_eq_true (by first | (with_reducible assumption) | assumption)
            obtain ⟨ad115, e115, hx115_0, hx115_1⟩ := at_T36 HR0.out x4_1 p115 q115
            cases e115
            replace hx115_0 := (HB.out.cell (World.block_lt_of_cell? w _ hx115_0)).trans hx115_0
            replace hx115_1 := (HB.out.cell (World.block_lt_of_cell? w _ hx115_1)).trans hx115_1
            replace p115 := eq_true p115
            replace q115 := eq_true q115
            go_wp2_with (first | ((with_reducible refine gate_dst (N := 5) rfl ?_); (try (refine gate_guard (by rfl) ?_; dsimp only)); refine box_event ?hg (N := 5) ?hd (cs := #[.int .i64 0, .int .i64 0]) (t := 36) ?hr ?_; (case hd => rfl); (case hg => rfl); (case hr => first | (go_simp; done) | (go_simp; rfl)); intro gb116 hg w12 hbox hb; have n0_ := Aside0.mk (Kd.R_below (Kd.R_elderB (by (with_reducible repeat (first | apply Kd.R_alloc | apply Kd.R_drewN | apply Kd.R_drew)); exact HO_3.out) gb116 (Nat.le_of_eq hg.symm)) hb); have n1_ := Aside0.mk (below_step (by repeat (first | (with_reducible first | exact HB.out | apply below_alloc | apply pw_below_drewN | apply below_drew1) | exact HB.out)) hb); have n2_ := Aside0.mk (hbox); have n3_ := Aside0.mk ((by rw [hg]; exact (below_size (by repeat (first | (with_reducible first | exact HB.out | apply below_alloc | apply pw_below_drewN | apply below_drew1) | exact HB.out))) : w.heap.size ≤ gb116)); have n4_ := Aside0.mk ((by rw [hg]; exact (below_size (by repeat (first | (with_reducible first | exact HB.out | apply below_alloc | apply pw_below_drewN | apply below_drew1) | exact HB.out))) : w.heap.size ≤ gb116)); clear HO_3; clear HB; have HO_3 := n0_; have HB := n1_; have BK116 := n2_; have GW116 := n3_; have GE116 := n4_; clear n0_ n1_ n2_ n3_ n4_; clear hb hbox hg; have hcz13_0 : w12.cell? ⟨gb116, 0, none⟩ = some (.int .i64 0) := (blk_cell BK116.out 0).trans rfl; have hcz13_1 : w12.cell? ⟨gb116, 1, none⟩ = some (.int .i64 0) := (blk_cell BK116.out 1).trans rfl; have hfz13_0 := blk_frozen BK116.out 0; have hfz13_1 := blk_frozen BK116.out 1) | ((with_reducible refine gate_builtin (b := .append) (xs := #[.tmp 36, .tmp 38]) rfl ?_); (try (refine gate_guard (by rfl) ?_; dsimp only)); at_builtin; refine Kd.R_append k36 (w0 := w) w.heap.size rfl (.tmp 36) (.tmp 38) 22 36 (.agg #[(.int .i64 0), (.int .i64 0)]) 16 rfl Try.underlying22 info36 rfl (by decide) (by omega) u3 x3_1 (⟨(rd_T36 l0 x4_1).f0, (rd_T36 l0 x4_1).f1⟩ : S36) [.int .i64 ((rd_T36 l0 x4_1).f0), .int .i64 ((rd_T36 l0 x4_1).f1)] (fun k_ => k_ ≠ gb116) (fun _ => False) rfl (by first | (go_simp; done) | (go_simp; rfl)) ?aP (fun _ hk => hk.elim) ?aF ?aO ?aB ?aS ?aL ?_; (case aP => exact k36_mkM _ _ _ (⟨(rd_T36 l0 x4_1).f0, (rd_T36 l0 x4_1).f1⟩ : S36)); (case aB => exact (by repeat (first | (with_reducible first | exact HB.out | apply below_alloc | apply pw_below_drewN | apply below_drew1 | refine below_set ?_ GE116.out) | exact HB.out))); (case aF => exact (fun k_ hk => Kd.freshB (g := gb116) (o := .cells #[.int .i64 ((rd_T36 l0 x4_1).f0), .int .i64 ((rd_T36 l0 x4_1).f1)] 36 (0, 0)) (by (with_reducible repeat (first | refine blk_drewN ?_ _ | refine blk_drew ?_ | refine blk_alloc ?_ _)); refine blk_put (cs := #[.int .i64 ((rd_T36 l0 x4_1).f0), .int .i64 0]) ?_ 1 _ rfl; (with_reducible repeat (first | refine blk_drewN ?_ _ | refine blk_drew ?_ | refine blk_alloc ?_ _)); refine blk_put (cs := #[.int .i64 0, .int .i64 0]) ?_ 0 _ rfl; (with_reducible repeat (first | refine blk_drewN ?_ _ | refine blk_drew ?_ | refine blk_alloc ?_ _)); exact BK116.out) k_ hk)); (case aO => exact (by (with_reducible repeat (first | apply Kd.R_alloc | apply Kd.R_drewN | apply Kd.R_drew)); exact Kd.R_mono (Kd.R_far (p := ⟨gb116, 1, none⟩) (Kd.R_far (p := ⟨gb116, 0, none⟩) (Kd.R_mono HO_3.out (fun k_ hk => (⟨hk, hk.2⟩ : _ ∧ k_ ≠ gb116))) (fun _ hk => hk.2) (.int .i64 ((rd_T36 l0 x4_1).f0))) (fun _ hk => hk.2) (.int .i64 ((rd_T36 l0 x4_1).f1))) (fun _ hk => hk.1.2))); (case aS => exact (below_size (by repeat (first | (with_reducible first | exact HB.out | apply below_alloc | apply pw_below_drewN | apply below_drew1 | refine below_set ?_ GE116.out) | exact HB.out)))); (case aL => have := LMc11.out; omega); intro v118 w14 ho hb hg hat; rw [← Ny117.out] at ho; have n0_ := Aside0.mk (blk_grown (g := gb116) (o := .cells #[.int .i64 ((rd_T36 l0 x4_1).f0), .int .i64 ((rd_T36 l0 x4_1).f1)] 36 (0, 0)) (by (with_reducible repeat (first | refine blk_drewN ?_ _ | refine blk_drew ?_ | refine blk_alloc ?_ _)); refine blk_put (cs := #[.int .i64 ((rd_T36 l0 x4_1).f0), .int .i64 0]) ?_ 1 _ rfl; (with_reducible repeat (first | refine blk_drewN ?_ _ | refine blk_drew ?_ | refine blk_alloc ?_ _)); refine blk_put (cs := #[.int .i64 0, .int .i64 0]) ?_ 0 _ rfl; (with_reducible repeat (first | refine blk_drewN ?_ _ | refine blk_drew ?_ | refine blk_alloc ?_ _)); exact BK116.out) hg (Kd.R_away HO_3.out (fun _ hk => hk.2))); have n1_ := Aside0.mk (hb); have n2_ := Aside0.mk (ho); clear BK116; clear HB; clear HO_3; have BK116 := n0_; have HB := n1_; have HO119 := n2_; clear n0_ n1_ n2_; clear ho hb hg hat))
            go_roundg kj1
            case measure => have := HK1.out; have := HJ1.out; omega
            case rel => exact ⟨(y117), (wrap64 (x4_1 + 1)), (by first | rfl | (simp; done) | (simp [*]; done)), H', ⟨by have := HK1.out; have := HJ1.out; omega⟩, ⟨by (with_reducible repeat (first | apply Kd.R_alloc | apply Kd.R_drewN | apply Kd.R_drew)); exact Kd.R_mono HO119.out (fun _ hk => trivial)⟩, ⟨by repeat (first | (with_reducible first | exact HB.out | apply below_alloc | apply pw_below_drewN | apply below_drew1 | refine below_set ?_ GE116.out) | exact HB.out)⟩⟩
           ·rw [if_neg c11] at H
            exact absurd H (by simp)
          ·rw [if_neg c10] at H
           have c10b0 : decide (((rd_T36 l0 x4_1).f1) ≤ 1048576) = false := decide_eq_false c10
           clear c10
           have H' := Aside0.mk H
           clear H
           have p115 : 0 ≤ (x4_1 : Int) := of_decide_eq_true (by first | (with_reducible assumption) | assumption)
           have q115 : x4_1 < (l0.length : Int) := of_decide_eq_true (by first | (with_reducible assumption) | assumption)
           obtain ⟨ad115, e115, hx115_0, hx115_1⟩ := at_T36 HR0.out x4_1 p115 q115
           cases e115
           replace hx115_0 := (HB.out.cell (World.block_lt_of_cell? w _ hx115_0)).trans hx115_0
           replace hx115_1 := (HB.out.cell (World.block_lt_of_cell? w _ hx115_1)).trans hx115_1
           replace p115 := eq_true p115
           replace q115 := eq_true q115
           go_wp2_with (first | ((with_reducible refine gate_dst (N := 5) rfl ?_); (try (refine gate_guard (by rfl) ?_; dsimp only)); refine box_event ?hg (N := 5) ?hd (cs := #[.int .i64 0, .int .i64 0]) (t := 36) ?hr ?_; (case hd => rfl); (case hg => rfl); (case hr => first | (go_simp; done) | (go_simp; rfl)); intro gb116 hg w15 hbox hb; have n0_ := Aside0.mk (Kd.R_below (Kd.R_elderB (by (with_reducible repeat (first | apply Kd.R_alloc | apply Kd.R_drewN | apply Kd.R_drew)); exact HO_3.out) gb116 (Nat.le_of_eq hg.symm)) hb); have n1_ := Aside0.mk (below_step (by repeat (first | (with_reducible first | exact HB.out | apply below_alloc | apply pw_below_drewN | apply below_drew1) | exact HB.out)) hb); have n2_ := Aside0.mk (hbox); have n3_ := Aside0.mk ((by rw [hg]; exact (below_size (by repeat (first | (with_reducible first | exact HB.out | apply below_alloc | apply pw_below_drewN | apply below_drew1) | exact HB.out))) : w.heap.size ≤ gb116)); have n4_ := Aside0.mk ((by rw [hg]; exact (below_size (by repeat (first | (with_reducible first | exact HB.out | apply below_alloc | apply pw_below_drewN | apply below_drew1) | exact HB.out))) : w.heap.size ≤ gb116)); clear HO_3; clear HB; have HO_3 := n0_; have HB := n1_; have BK116 := n2_; have GW116 := n3_; have GE116 := n4_; clear n0_ n1_ n2_ n3_ n4_; clear hb hbox hg; have hcz16_0 : w15.cell? ⟨gb116, 0, none⟩ = some (.int .i64 0) := (blk_cell BK116.out 0).trans rfl; have hcz16_1 : w15.cell? ⟨gb116, 1, none⟩ = some (.int .i64 0) := (blk_cell BK116.out 1).trans rfl; have hfz16_0 := blk_frozen BK116.out 0; have hfz16_1 := blk_frozen BK116.out 1))
           go_roundg kj1
           case measure => have := HK1.out; have := HJ1.out; omega
           case rel => exact ⟨(x3_1), (wrap64 (x4_1 + 1)), (by first | rfl | (simp; done) | (simp [*]; done)), H', ⟨by have := HK1.out; have := HJ1.out; omega⟩, ⟨by (with_reducible repeat (first | apply Kd.R_alloc | apply Kd.R_drewN | apply Kd.R_drew)); exact Kd.R_mono (Kd.R_far (p := ⟨gb116, 1, none⟩) (Kd.R_far (p := ⟨gb116, 0, none⟩) (Kd.R_mono HO_3.out (fun k_ hk => (⟨hk, hk.2⟩ : _ ∧ k_ ≠ gb116))) (fun _ hk => hk.2) (.int .i64 ((rd_T36 l0 x4_1).f0))) (fun _ hk => hk.2) (.int .i64 ((rd_T36 l0 x4_1).f1))) (fun _ hk => trivial)⟩, ⟨by repeat (first | (with_reducible first | exact HB.out | apply below_alloc | apply pw_below_drewN | apply below_drew1 | refine below_set ?_ GE116.out) | exact HB.out)⟩⟩
         ·rw [if_neg c9] at H
          have c9b0 : decide (((rd_T36 l0 x4_1).f0) ≤ ((rd_T36 l0 x4_1).f1)) = false := decide_eq_false c9
          clear c9
          have H' := Aside0.mk H
          clear H
          have p115 : 0 ≤ (x4_1 : Int) := of_decide_eq_true (by first | (with_reducible assumption) | assumption)
          have q115 : x4_1 < (l0.length : Int) := of_decide_eq_true (by first | (with_reducible assumption) | assumption)
          obtain ⟨ad115, e115, hx115_0, hx115_1⟩ := at_T36 HR0.out x4_1 p115 q115
          cases e115
          replace hx115_0 := (HB.out.cell (World.block_lt_of_cell? w _ hx115_0)).trans hx115_0
          replace hx115_1 := (HB.out.cell (World.block_lt_of_cell? w _ hx115_1)).trans hx115_1
          replace p115 := eq_true p115
          replace q115 := eq_true q115
          go_wp2_with (first | ((with_reducible refine gate_dst (N := 5) rfl ?_); (try (refine gate_guard (by rfl) ?_; dsimp only)); refine box_event ?hg (N := 5) ?hd (cs := #[.int .i64 0, .int .i64 0]) (t := 36) ?hr ?_; (case hd => rfl); (case hg => rfl); (case hr => first | (go_simp; done) | (go_simp; rfl)); intro gb116 hg w17 hbox hb; have n0_ := Aside0.mk (Kd.R_below (Kd.R_elderB (by (with_reducible repeat (first | apply Kd.R_alloc | apply Kd.R_drewN | apply Kd.R_drew)); exact HO_3.out) gb116 (Nat.le_of_eq hg.symm)) hb); have n1_ := Aside0.mk (below_step (by repeat (first | (with_reducible first | exact HB.out | apply below_alloc | apply pw_below_drewN | apply below_drew1) | exact HB.out)) hb); have n2_ := Aside0.mk (hbox); have n3_ := Aside0.mk ((by rw [hg]; exact (below_size (by repeat (first | (with_reducible first | exact HB.out | apply below_alloc | apply pw_below_drewN | apply below_drew1) | exact HB.out))) : w.heap.size ≤ gb116)); have n4_ := Aside0.mk ((by rw [hg]; exact (below_size (by repeat (first | (with_reducible first | exact HB.out | apply below_alloc | apply pw_below_drewN | apply below_drew1) | exact HB.out))) : w.heap.size ≤ gb116)); clear HO_3; clear HB; have HO_3 := n0_; have HB := n1_; have BK116 := n2_; have GW116 := n3_; have GE116 := n4_; clear n0_ n1_ n2_ n3_ n4_; clear hb hbox hg; have hcz18_0 : w17.cell? ⟨gb116, 0, none⟩ = some (.int .i64 0) := (blk_cell BK116.out 0).trans rfl; have hcz18_1 : w17.cell? ⟨gb116, 1, none⟩ = some (.int .i64 0) := (blk_cell BK116.out 1).trans rfl; have hfz18_0 := blk_frozen BK116.out 0; have hfz18_1 := blk_frozen BK116.out 1))
          go_roundg kj1
          case measure => have := HK1.out; have := HJ1.out; omega
          case rel => exact ⟨(x3_1), (wrap64 (x4_1 + 1)), (by first | rfl | (simp; done) | (simp [*]; done)), H', ⟨by have := HK1.out; have := HJ1.out; omega⟩, ⟨by (with_reducible repeat (first | apply Kd.R_alloc | apply Kd.R_drewN | apply Kd.R_drew)); exact Kd.R_mono (Kd.R_far (p := ⟨gb116, 1, none⟩) (Kd.R_far (p := ⟨gb116, 0, none⟩) (Kd.R_mono HO_3.out (fun k_ hk => (⟨hk, hk.2⟩ : _ ∧ k_ ≠ gb116))) (fun _ hk => hk.2) (.int .i64 ((rd_T36 l0 x4_1).f0))) (fun _ hk => hk.2) (.int .i64 ((rd_T36 l0 x4_1).f1))) (fun _ hk => trivial)⟩, ⟨by repeat (first | (with_reducible first | exact HB.out | apply below_alloc | apply pw_below_drewN | apply below_drew1 | refine below_set ?_ GE116.out) | exact HB.out)⟩⟩
        ·rw [if_neg c8] at H
         have c8b0 : decide (0 ≤ ((rd_T36 l0 x4_1).f0)) = false := decide_eq_false c8
         clear c8
         have H' := Aside0.mk H
         clear H
         have p115 : 0 ≤ (x4_1 : Int) := of_decide_eq_true (by first | (with_reducible assumption) | assumption)
         have q115 : x4_1 < (l0.length : Int) := of_decide_eq_true (by first | (with_reducible assumption) | assumption)
         obtain ⟨ad115, e115, hx115_0, hx115_1⟩ := at_T36 HR0.out x4_1 p115 q115
         cases e115
         replace hx115_0 := (HB.out.cell (World.block_lt_of_cell? w _ hx115_0)).trans hx115_0
         replace hx115_1 := (HB.out.cell (World.block_lt_of_cell? w _ hx115_1)).trans hx115_1
         replace p115 := eq_true p115
         replace q115 := eq_true q115
         go_wp2_with (first | ((with_reducible refine gate_dst (N := 5) rfl ?_); (try (refine gate_guard (by rfl) ?_; dsimp only)); refine box_event ?hg (N := 5) ?hd (cs := #[.int .i64 0, .int .i64 0]) (t := 36) ?hr ?_; (case hd => rfl); (case hg => rfl); (case hr => first | (go_simp; done) | (go_simp; rfl)); intro gb116 hg w19 hbox hb; have n0_ := Aside0.mk (Kd.R_below (Kd.R_elderB (by (with_reducible repeat (first | apply Kd.R_alloc | apply Kd.R_drewN | apply Kd.R_drew)); exact HO_3.out) gb116 (Nat.le_of_eq hg.symm)) hb); have n1_ := Aside0.mk (below_step (by repeat (first | (with_reducible first | exact HB.out | apply below_alloc | apply pw_below_drewN | apply below_drew1) | exact HB.out)) hb); have n2_ := Aside0.mk (hbox); have n3_ := Aside0.mk ((by rw [hg]; exact (below_size (by repeat (first | (with_reducible first | exact HB.out | apply below_alloc | apply pw_below_drewN | apply below_drew1) | exact HB.out))) : w.heap.size ≤ gb116)); have n4_ := Aside0.mk ((by rw [hg]; exact (below_size (by repeat (first | (with_reducible first | exact HB.out | apply below_alloc | apply pw_below_drewN | apply below_drew1) | exact HB.out))) : w.heap.size ≤ gb116)); clear HO_3; clear HB; have HO_3 := n0_; have HB := n1_; have BK116 := n2_; have GW116 := n3_; have GE116 := n4_; clear n0_ n1_ n2_ n3_ n4_; clear hb hbox hg; have hcz20_0 : w19.cell? ⟨gb116, 0, none⟩ = some (.int .i64 0) := (blk_cell BK116.out 0).trans rfl; have hcz20_1 : w19.cell? ⟨gb116, 1, none⟩ = some (.int .i64 0) := (blk_cell BK116.out 1).trans rfl; have hfz20_0 := blk_frozen BK116.out 0; have hfz20_1 := blk_frozen BK116.out 1))
         go_roundg kj1
         case measure => have := HK1.out; have := HJ1.out; omega
         case rel => exact ⟨(x3_1), (wrap64 (x4_1 + 1)), (by first | rfl | (simp; done) | (simp [*]; done)), H', ⟨by have := HK1.out; have := HJ1.out; omega⟩, ⟨by (with_reducible repeat (first | apply Kd.R_alloc | apply Kd.R_drewN | apply Kd.R_drew)); exact Kd.R_mono (Kd.R_far (p := ⟨gb116, 1, none⟩) (Kd.R_far (p := ⟨gb116, 0, none⟩) (Kd.R_mono HO_3.out (fun k_ hk => (⟨hk, hk.2⟩ : _ ∧ k_ ≠ gb116))) (fun _ hk => hk.2) (.int .i64 ((rd_T36 l0 x4_1).f0))) (fun _ hk => hk.2) (.int .i64 ((rd_T36 l0 x4_1).f1))) (fun _ hk => trivial)⟩, ⟨by repeat (first | (with_reducible first | exact HB.out | apply below_alloc | apply pw_below_drewN | apply below_drew1 | refine below_set ?_ GE116.out) | exact HB.out)⟩⟩
       ·rw [if_neg c7] at H
        exact absurd H (by simp)
      ·rw [if_neg c6] at H
       exact absurd H (by simp)
     ·replace c5 := Bool.eq_false_iff.mpr c5
      subst c5
      have H1 : (some x3_1) = some r := by rw [if_neg (show ¬ (false = true) by decide)] at H; exact H
      clear H
      have H := H1
      clear H1
      obtain rfl := Option.some.inj H
      go_wp2
      go_ret
      exact ⟨_, by first | rfl | (simp [errW_none, errW_some] <;> rfl) | (simp [*, errW_none, errW_some] <;> rfl), by (with_reducible repeat (first | apply Kd.R_alloc | apply Kd.R_drewN | apply Kd.R_drew)); exact HO_3.out, by repeat (first | (with_reducible first | exact HB.out | apply below_alloc | apply pw_below_drewN | apply below_drew1) | exact HB.out)⟩
end Go.Proofs.Ytmidiifgdloojaa.Pr
end
section
namespace Go.Proofs.Ytmidiifgdloojaa.SpanFns
open Go.RowKit Go.Proofs.YtmidiifgdloojaaW.PrintWords Go.Proofs.YtmidiifgdloojaaW.PrintMore Go.Proofs.Ytmidiifgdloojaa.Pr Go.Proofs.Ytmidiifgdloojaa.SpanMath
theorem right_l0 : ∀ (suf pre acc : List S36), Short (pre ++ suf) → acc.length ≤ 32768 → (∀ r ∈ acc, Part r) → ∃ p : List S36, Ev (fun k => redraftlaw02_right.l0 k (pre ++ suf) acc (pre.length : Int)) p ∧ p.length ≤ 32768 ∧ ∀ r ∈ p, Part r
  | [], pre, acc, hl, ha, hp => by
    refine ⟨acc, ?_, ha, hp⟩
    refine Ev.step (f := fun k => redraftlaw02_right.j1 k (pre ++ []) acc (pre.length : Int) false) (fun k => ?_) (Ev.step (f := fun _ => some acc) (fun k => ?_) (Ev.now _))
    · simp only [redraftlaw02_right.l0]
      rw [if_neg (by simp)]
    · simp only [redraftlaw02_right.j1]
      rw [if_neg (by simp)]
  | r :: suf, pre, acc, hl, ha, hp => by
    have hl' : (pre ++ r :: suf).length < 8796093022208 := hl
    have hl1 : (pre ++ r :: suf).length = pre.length + 1 + suf.length := by simp; omega
    by_cases c : acc.length < 32768
    · have next : ∀ acc' : List S36, acc'.length ≤ 32768 → (∀ r ∈ acc', Part r) → ∃ p : List S36, Ev (fun k => redraftlaw02_right.l0 k (pre ++ r :: suf) acc' (((pre ++ [r]).length : Nat) : Int)) p ∧ p.length ≤ 32768 ∧ ∀ r ∈ p, Part r := by
        intro acc' h1 h2
        have ih := right_l0 suf (pre ++ [r]) acc' (by rw [List.append_assoc]; exact hl) h1 h2
        rw [List.append_assoc, List.singleton_append] at ih
        exact ih
      have head : ∀ {p : List S36}, Ev (fun k => redraftlaw02_right.j1 k (pre ++ r :: suf) acc (pre.length : Int) true) p → Ev (fun k => redraftlaw02_right.l0 k (pre ++ r :: suf) acc (pre.length : Int)) p := by
        intro p h
        refine Ev.step (fun k => ?_) h
        simp only [redraftlaw02_right.l0]
        rw [if_pos (by omega), decide_eq_true (by omega)]
      by_cases g : Part r
      · obtain ⟨g1, g2, g3⟩ := g
        obtain ⟨p, h1, h2⟩ := next (acc ++ [r]) (by simp; omega) (fun s hs => by
          rcases List.mem_append.1 hs with hs | hs
          · exact hp s hs
          · have : s = r := by simpa using hs
            rw [this]; exact ⟨g1, g2, g3⟩)
        refine ⟨p, head (Ev.step (fun k => ?_) h1), h2⟩
        simp only [redraftlaw02_right.j1, if_true]
        rw [if_pos (by omega), if_pos (by omega), rd_at, if_pos (by omega), if_pos g2, if_pos g3, if_pos (by omega), e_succ pre r (by omega)]
      · obtain ⟨p, h1, h2⟩ := next acc ha hp
        refine ⟨p, head (Ev.step (fun k => ?_) h1), h2⟩
        simp only [redraftlaw02_right.j1, if_true]
        rw [if_pos (by omega), if_pos (by omega), rd_at, e_succ pre r (by omega)]
        by_cases c1 : r.f0 ≥ 0
        · rw [if_pos c1]
          by_cases c2 : r.f0 ≤ r.f1
          · rw [if_pos c2, if_neg (fun c3 => g ⟨c1, c2, c3⟩)]
          · rw [if_neg c2]
        · rw [if_neg c1]
    · refine ⟨acc, ?_, ha, hp⟩
      refine Ev.step (f := fun k => redraftlaw02_right.j1 k (pre ++ r :: suf) acc (pre.length : Int) false) (fun k => ?_) (Ev.step (f := fun _ => some acc) (fun k => ?_) (Ev.now _))
      · simp only [redraftlaw02_right.l0]
        rw [if_pos (by omega), decide_eq_false (by omega)]
      · simp only [redraftlaw02_right.j1]
        rw [if_neg (by simp)]
theorem right_ev {l : List S36} (h : Short l) : ∃ p : List S36, Ev (fun k => redraftlaw02_right.f k l) p ∧ p.length ≤ 32768 ∧ ∀ r ∈ p, Part r :=
  right_l0 l [] [] h (by simp) (by simp)
end Go.Proofs.Ytmidiifgdloojaa.SpanFns
end
section
namespace Go.Proofs.YtmidiifgdloojaaR
open Go.RowKit Go.Proofs.YtmidiifgdloojaaW.PrintWords
theorem list_of {α : Type} {p : Nat → α → Prop} : ∀ (n : Nat), (∀ i, i < n → ∃ y, p i y) → ∃ ys : List α, ys.length = n ∧ ∀ i y, ys[i]? = some y → p i y
  | 0, _ => ⟨[], rfl, fun i y h => by simp at h⟩
  | n + 1, h => by
    obtain ⟨ys, hl, hp⟩ := list_of n (fun i hi => h i (by omega))
    obtain ⟨y, hy⟩ := h n (by omega)
    refine ⟨ys ++ [y], by simp [hl], fun i z hz => ?_⟩
    by_cases hi : i < n
    · rw [List.getElem?_append_left (by omega)] at hz
      exact hp i z hz
    · have : i = n := by
        have := (List.getElem?_eq_some_iff.1 hz).1
        simp [hl] at this
        omega
      subst this
      rw [List.getElem?_append_right (by omega)] at hz
      simp [hl] at hz
      subst hz
      exact hy
theorem weightsAll_mem {H : Type} {P : Program} {e : TypeId} : ∀ {ds : List (DataW H)} {d : DataW H}, d ∈ ds → ∀ n ∈ d.weights P e, n ∈ DataW.weightsAll P e ds
  | d0 :: ds, d, hd, n, hn => by
    simp only [DataW.weightsAll, List.mem_append]
    rcases List.mem_cons.1 hd with rfl | hd
    · exact Or.inl hn
    · exact Or.inr (weightsAll_mem hd n hn)
  | [], d, hd, _, _ => by simp at hd
def Reads {α : Type} (P : Program) (t : TypeId) (d : Kd α) (Q : α → Prop) : Prop :=
  ∀ (H : Type) (enc : TypeId × Value → H) (w : World) (base : Nat) (spare : Nat → Bool) (held : Bool) (fuel : Nat) (cs : List Value) (x : DataW H × List MemPlace),
    DataW.trod enc P w base spare held fuel t cs = some x → (∀ n ∈ x.1.weights P t, n ≤ reachBytes) → ∃ y, d.K w y cs ∧ Q y
theorem reads_int {P : Program} {t : TypeId} {k : IntKind} (ht : P.underlying t = some (.int k)) : Reads P t (Kd.int k) (fun n => (Lit.int k n).wf = true) := by
  intro H enc w base spare held fuel cs x h _
  obtain ⟨n, rfl, _, hw⟩ := DataW.trod_int ht h
  exact ⟨n, rfl, hw⟩
theorem reads_slice {α : Type} {P : Program} {t e : TypeId} {d : Kd α} {Q : α → Prop} (ht : P.underlying t = some (.slice e)) (hc : P.cellsOf e = d.sz) {B : Nat} (hB : P.bytesOf e = B) (he : Reads P e d Q) :
    Reads P t (Kd.slice e d) (fun xs => xs.length * B ≤ 140737488351232 ∧ ∀ x ∈ xs, Q x) := by
  intro H enc w base spare held fuel cs x h hb
  rcases Deep.open_slice ht h with ⟨rfl, rfl⟩ | ⟨a, len, cap, m, n, D, Pl, rfl, _, hl, hm, hmm, rfl, hx⟩
  · exact ⟨[], ⟨none, 0, rfl, Nat.le_refl _, ⟨rfl, by simp, fun h0 => absurd h0 (by simp)⟩⟩, by simp, by simp⟩
  · have hlm : len ≤ m := by rw [hmm]; split <;> omega
    have hex : ∀ i, i < len → ∃ y, (∃ cs', w.cells? base (a.add (i * P.cellsOf e)) (P.cellsOf e) = some cs' ∧ d.K w y cs') ∧ Q y := by
      intro i hi
      obtain ⟨cs', h1, h2⟩ := hx i (by omega)
      obtain ⟨y, hy, hq⟩ := he H enc w base spare held n cs' _ h2 (fun k hk => hb k (by
        simp only [DataW.weights, ht, List.mem_cons, List.mem_append]
        refine Or.inr (Or.inl (weightsAll_mem (d := D i) ?_ k hk))
        exact List.mem_map.2 ⟨i, List.mem_range.2 hi, rfl⟩))
      exact ⟨y, ⟨cs', h1, hy⟩, hq⟩
    obtain ⟨ys, hlen, hp⟩ := list_of len hex
    subst hlen
    have hcap : ys.length ≤ 9223372036854775807 := by unfold maxLen at hm; omega
    refine ⟨ys, ⟨some a, cap, rfl, hl, rfl, hcap, fun _ => ⟨a, rfl, fun j p hj => ?_⟩⟩, ?_, fun x hx' => ?_⟩
    · obtain ⟨⟨cs', h1, hK⟩, _⟩ := hp j p hj
      obtain ⟨_, hl2, hcell⟩ := World.cells?_some h1
      rw [hc] at hl2
      refine ⟨cs', hl2, hK, fun i u hu => ?_⟩
      have hi : i < P.cellsOf e := by rw [hc, ← hl2]; exact (List.getElem?_eq_some_iff.1 hu).1
      rw [← add_add, ← hc]
      exact (hcell i hi).trans hu
    · have := hb _ (by simp only [DataW.weights, ht]; exact List.mem_cons_self)
      simp only [List.length_map, List.length_range] at this
      rw [hB] at this
      have e1 : reachBytes = 140737488351232 := rfl
      rw [e1] at this
      refine Nat.le_trans (Nat.mul_le_mul_right _ ?_) this
      omega
    · obtain ⟨i, hi⟩ := List.getElem?_of_mem hx'
      exact (hp i x hi).2
def ReadsL {α : Type} (P : Program) (o : Nat) (fs : List Field) (d : Kd α) (Q : α → Prop) : Prop :=
  ∀ (H : Type) (enc : TypeId × Value → H) (w : World) (base : Nat) (spare : Nat → Bool) (held : Bool) (fuel : Nat) (cs : List Value) (xs : List (DataW H × List MemPlace)),
    xs.length = fs.length → (∀ (i : Nat) (f : Field), fs[i]? = some f → DataW.trod enc P w base spare held fuel f.type ((cs.drop f.offset).take (P.cellsOf f.type)) = xs[i]?) →
    (∀ n ∈ DataW.weightsEach P (fs.map (·.type)) (xs.map (·.1)), n ≤ reachBytes) → o + d.sz ≤ cs.length → ∃ y, d.K w y ((cs.drop o).take d.sz) ∧ Q y
theorem readsL_one {α : Type} {P : Program} {o : Nat} {f : Field} {d : Kd α} {Q : α → Prop} (h : Reads P f.type d Q) (ho : f.offset = o) (hc : P.cellsOf f.type = d.sz) : ReadsL P o [f] d Q := by
  intro H enc w base spare held fuel cs xs hl hx hb _
  match xs, hl with
  | [x], _ =>
    have h0 := hx 0 f rfl
    rw [ho, hc] at h0
    exact h H enc w base spare held fuel _ x h0 (fun n hn => hb n (by simpa [DataW.weightsEach] using hn))
theorem readsL_cons {α β : Type} {P : Program} {o : Nat} {f : Field} {fs : List Field} {a : Kd α} {b : Kd β} {Qa : α → Prop} {Qb : β → Prop} (h : Reads P f.type a Qa) (ho : f.offset = o) (hc : P.cellsOf f.type = a.sz) (ht : ReadsL P (o + a.sz) fs b Qb) :
    ReadsL P o (f :: fs) (Kd.pair a b) (fun y => Qa y.1 ∧ Qb y.2) := by
  intro H enc w base spare held fuel cs xs hl hx hb hlen
  match xs, hl with
  | x :: xs, hl =>
    have h0 := hx 0 f rfl
    rw [ho, hc] at h0
    obtain ⟨y, hy, hq⟩ := h H enc w base spare held fuel _ x h0 (fun n hn => hb n (by simp only [List.map_cons, DataW.weightsEach, List.mem_append]; exact Or.inl hn))
    have hsz : (Kd.pair a b).sz = a.sz + b.sz := rfl
    obtain ⟨z, hz, hr⟩ := ht H enc w base spare held fuel cs xs (by simpa using hl) (fun i g hg => hx (i + 1) g hg) (fun n hn => hb n (by simp only [List.map_cons, DataW.weightsEach, List.mem_append]; exact Or.inr hn)) (by rw [hsz] at hlen; omega)
    refine ⟨(y, z), ⟨_, _, ?_, hy, hz⟩, hq, hr⟩
    rw [hsz, List.take_add, List.drop_drop]
theorem reads_struct {α β : Type} {P : Program} {t : TypeId} {fs : Array Field} {d : Kd α} {Q : α → Prop} {f : β → α} (g : α → β) (hg : ∀ y, f (g y) = y) (ht : P.underlying t = some (.struct fs)) (hc : P.cellsOf t = d.sz) (h : ReadsL P 0 fs.toList d Q) :
    Reads P t (Kd.iso d f) (fun x => Q (f x)) := by
  intro H enc w base spare held fuel cs x hx hb
  obtain ⟨xs, n, rfl, rfl, hl, hlen, hall⟩ := DataW.trod_struct ht hx
  obtain ⟨y, hy, hq⟩ := h H enc w base spare held n cs xs (by simpa using hlen) (fun i f hf => hall i f (by simpa using hf)) (fun k hk => hb k (by simp only [DataW.weights, ht]; exact hk)) (by omega)
  rw [List.drop_zero, List.take_of_length_le (by omega)] at hy
  refine ⟨g y, ?_, ?_⟩
  · show d.K w (f (g y)) cs
    rw [hg]; exact hy
  · show Q (f (g y))
    rw [hg]; exact hq
theorem agg_arg {α : Type} {H : Type} {enc : TypeId × Value → H} {P : Program} {W : World} {base : Nat} {spare : Nat → Bool} {held : Bool} {t : TypeId} {d : Kd α} {Q : α → Prop} {v : Value} {D : DataW H} {ps : List MemPlace}
    (h : DataW.Trod enc P W base spare held t v D ps) {ts : List TypeId} {ds : List (DataW H)} {j : Nat}
    (hsz : (DataW.weightsEach P ts ds).all (· ≤ reachBytes) = true) (ht : ts[j]? = some t) (hd : ds[j]? = some D) (hR : Reads P t d Q) :
    ∃ x : α, d.K W x v.cells.toList ∧ Q x := by
  obtain ⟨fuel, hf⟩ := h
  exact hR H enc W base spare held fuel _ _ hf (fun n hn => by
    have := List.all_eq_true.1 hsz n (DataW.weights_mem_each ht hd n hn)
    simpa using this)
end Go.Proofs.YtmidiifgdloojaaR
end
section
namespace Go.Proofs.Ytmidiifgdloojaa.SpanReads
open Go.RowKit Go.Proofs.YtmidiifgdloojaaR Go.Proofs.YtmidiifgdloojaaW.PrintWords Go.Proofs.Ytmidiifgdloojaa.Pr
def WfR (r : S36) : Prop := (Lit.int .i64 r.f0).wf = true ∧ (Lit.int .i64 r.f1).wf = true
def WfL (l : List S36) : Prop := l.length * 16 ≤ 140737488351232 ∧ ∀ r ∈ l, WfR r
theorem reads36 : Reads Try.prog 36 k36 WfR :=
  reads_struct (fun y => ⟨y.1, y.2⟩) (fun _ => rfl) Try.underlying36 (by kernel_rfl)
    (readsL_cons (reads_int (by kernel_rfl)) rfl (by kernel_rfl) (readsL_one (reads_int (by kernel_rfl)) rfl (by kernel_rfl)))
theorem reads22 : Reads Try.prog 22 (Kd.slice 36 k36) WfL := reads_slice (by kernel_rfl) (by kernel_rfl) (by kernel_rfl) reads36
theorem reads3 : Reads Try.prog 3 (Kd.int .i64) (fun n => (Lit.int .i64 n).wf = true) := reads_int (by kernel_rfl)
end Go.Proofs.Ytmidiifgdloojaa.SpanReads
end
section
namespace Go.Proofs.Ytmidiifgdloojaa.Pr
open Go.RowKit Go.Proofs.YtmidiifgdloojaaW.PrintWords Go.Proofs.YtmidiifgdloojaaW.PrintLast Go.Proofs.YtmidiifgdloojaaW.PrintMore
attribute [local go_sem] max2_int min2_int max_two min_two max_three min_three max_four min_four
set_option linter.unusedVariables false
set_option linter.unusedSimpArgs false
mutual
def redraftlaw02_awake.j0 : Nat → Bool → Option (Bool)
 | 0, _ => none
 | k + 1, x20 => if x20 = true then (some false) else ((span_Union.f k (([(⟨0, 2⟩ : S36), (⟨5, 7⟩ : S36)] : List (S36))) (([(⟨2, 5⟩ : S36)] : List (S36)))).bind fun bt185 => ((redraftlaw02_num.f bt185.2).bind fun t189 => (if t189 = 0 then ((redraftlaw02_same.f k bt185.1 (([(⟨0, 7⟩ : S36)] : List (S36)))).bind fun t193 => (redraftlaw02_awake.j1 k (!t193))) else (redraftlaw02_awake.j1 k true))))
def redraftlaw02_awake.j1 : Nat → Bool → Option (Bool)
 | 0, _ => none
 | k + 1, x39 => if x39 = true then (some false) else ((span_Through.f k (([(⟨2, 5⟩ : S36)] : List (S36))) 3 2).bind fun bt197 => ((redraftlaw02_num.f bt197.2).bind fun t201 => (if t201 = 0 then ((redraftlaw02_same.f k bt197.1 (([(⟨2, 3⟩ : S36), (⟨5, 7⟩ : S36)] : List (S36)))).bind fun t205 => (some t205)) else (some false))))
end
def redraftlaw02_awake.f (k : Nat)  : Option (Bool) := (span_Check.f k (([(⟨2, 5⟩ : S36), (⟨5, 9⟩ : S36)] : List (S36)))).bind fun bt176 => (if bt176.1 = 1 then ((redraftlaw02_num.f bt176.2).bind fun t178 => (redraftlaw02_awake.j0 k (t178 != 22))) else (redraftlaw02_awake.j0 k true))
theorem redraftlaw02_awake.mono_l : ∀ k, (∀ y0, LeO (redraftlaw02_awake.j0 k y0) (redraftlaw02_awake.j0 (k + 1) y0)) ∧ (∀ y0, LeO (redraftlaw02_awake.j1 k y0) (redraftlaw02_awake.j1 (k + 1) y0))
 | 0 => ⟨fun _ r h => by simp [redraftlaw02_awake.j0] at h, fun _ r h => by simp [redraftlaw02_awake.j1] at h⟩
 | k + 1 => by
  obtain ⟨ih0, ih1⟩ := redraftlaw02_awake.mono_l k
  refine ⟨?_, ?_⟩
  ·intro y0
   unfold redraftlaw02_awake.j0
   repeat' first
   | (with_reducible exact ih0 _)
   | (with_reducible exact ih1 _)
   | (with_reducible exact redraftlaw02_same.mono _ _ _)
   | (with_reducible exact span_Check.mono _ _)
   | (with_reducible exact span_Through.mono _ _ _ _)
   | (with_reducible exact span_Union.mono _ _ _)
   | (with_reducible exact LeO.refl _)
   | (with_reducible exact LeO.none _)
   | (with_reducible refine LeO.ite ?_ ?_)
   | (with_reducible refine LeO.bind ?_ (fun _ => ?_))
   | exact ih0 _
   | exact ih1 _
   | exact redraftlaw02_same.mono _ _ _
   | exact span_Check.mono _ _
   | exact span_Through.mono _ _ _ _
   | exact span_Union.mono _ _ _
   | exact LeO.none _
   | refine LeO.ite ?_ ?_
   | refine LeO.bind ?_ (fun _ => ?_)
  ·intro y0
   unfold redraftlaw02_awake.j1
   repeat' first
   | (with_reducible exact ih0 _)
   | (with_reducible exact ih1 _)
   | (with_reducible exact redraftlaw02_same.mono _ _ _)
   | (with_reducible exact span_Check.mono _ _)
   | (with_reducible exact span_Through.mono _ _ _ _)
   | (with_reducible exact span_Union.mono _ _ _)
   | (with_reducible exact LeO.refl _)
   | (with_reducible exact LeO.none _)
   | (with_reducible refine LeO.ite ?_ ?_)
   | (with_reducible refine LeO.bind ?_ (fun _ => ?_))
   | exact ih0 _
   | exact ih1 _
   | exact redraftlaw02_same.mono _ _ _
   | exact span_Check.mono _ _
   | exact span_Through.mono _ _ _ _
   | exact span_Union.mono _ _ _
   | exact LeO.none _
   | refine LeO.ite ?_ ?_
   | refine LeO.bind ?_ (fun _ => ?_)
theorem redraftlaw02_awake.mono : ∀ k, LeO (redraftlaw02_awake.f k ) (redraftlaw02_awake.f (k + 1) ) := by
 intro  k
 obtain ⟨ih0, ih1⟩ := redraftlaw02_awake.mono_l k
 unfold redraftlaw02_awake.f
 repeat' first
   | (with_reducible exact ih0 _)
   | (with_reducible exact ih1 _)
   | (with_reducible exact redraftlaw02_same.mono _ _ _)
   | (with_reducible exact span_Check.mono _ _)
   | (with_reducible exact span_Through.mono _ _ _ _)
   | (with_reducible exact span_Union.mono _ _ _)
   | (with_reducible exact LeO.refl _)
   | (with_reducible exact LeO.none _)
   | (with_reducible refine LeO.ite ?_ ?_)
   | (with_reducible refine LeO.bind ?_ (fun _ => ?_))
   | exact ih0 _
   | exact ih1 _
   | exact redraftlaw02_same.mono _ _ _
   | exact span_Check.mono _ _
   | exact span_Through.mono _ _ _ _
   | exact span_Union.mono _ _ _
   | exact LeO.none _
   | refine LeO.ite ?_ ?_
   | refine LeO.bind ?_ (fun _ => ?_)
set_option maxHeartbeats 8000000 in
set_option maxRecDepth 100000 in
theorem redraftlaw02_awake.calls (k : Nat)  (r : Bool) (w : World) (h : redraftlaw02_awake.f k  = some r) :
  Calls Try.prog 20 #[] w fun e w' => e = .returned (.bool r) ∧ Below w.heap.size w w' := by
 have hu36 := Try.underlying36
 have HB := Aside0.mk (Below.refl w.heap.size w)
 have H : ((span_Check.f k (([(⟨2, 5⟩ : S36), (⟨5, 9⟩ : S36)] : List (S36)))).bind fun bt176 => (if bt176.1 = 1 then ((redraftlaw02_num.f bt176.2).bind fun t178 => (redraftlaw02_awake.j0 k (t178 != 22))) else (redraftlaw02_awake.j0 k true))) = some r := h
 clear h
 obtain ⟨y173, hy173⟩ : ∃ y_ : List (S36), y_ = (([(⟨2, 5⟩ : S36), (⟨5, 9⟩ : S36)] : List (S36))) := ⟨_, rfl⟩
 replace H : ((span_Check.f k y173).bind fun bt176 => (if bt176.1 = 1 then ((redraftlaw02_num.f bt176.2).bind fun t178 => (redraftlaw02_awake.j0 k (t178 != 22))) else (redraftlaw02_awake.j0 k true))) = some r := by first | (rw [hy173]; with_reducible exact H) | (have H2_ := (Option.bind_some _ _).symm.trans H; rw [hy173]; with_reducible exact H2_) | (have H2_ := (Option.bind_some _ _).symm.trans H; with_reducible exact H2_) | with_reducible exact H | (rw [hy173]; exact H) | exact H
 have Ny173 := Aside0.mk hy173
 clear hy173
 replace H := Option.bind_eq_some_iff.mp H
 obtain ⟨⟨t176, t177⟩, A10, H⟩ := H
 replace H : (if t176 = 1 then ((redraftlaw02_num.f t177).bind fun t178 => (redraftlaw02_awake.j0 k (t178 != 22))) else (redraftlaw02_awake.j0 k true)) = some r := H
 have A1 := Aside0.mk A10
 clear A10
 have HC2 := Aside0.mk H
 clear H
 go_enter Try.func20, Try.ntmps20
 go_upto_region 2 with (first | ((with_reducible refine gate_dst (N := 10) rfl ?_); (try (refine gate_guard (by rfl) ?_; dsimp only)); refine Kd.R_lit k36 _ 36 ?hg (N := 10) ?hd (xs := ([(⟨2, 5⟩ : S36), (⟨5, 9⟩ : S36)] : List (S36))) (inner := [.int .i64 2, .int .i64 5, .int .i64 5, .int .i64 9]) (ok := fun _ => True) (okp := fun _ => True) ?hr ?hp (fun _ hk => hk) trivial (Below.refl _ _) (Nat.le_refl _) (by simp) ?_; (case hd => rfl); (case hg => rfl); (case hr => first | (go_simp; done) | (go_simp; rfl)); (case hp => exact (Reps.c2 (show Kd.M k36 _ _ _ (⟨2, 5⟩ : S36) [.int .i64 2, .int .i64 5] from (k36_mkM _ _ _ (⟨2, 5⟩ : S36) )) (Reps.c2 (show Kd.M k36 _ _ _ (⟨5, 9⟩ : S36) [.int .i64 5, .int .i64 9] from (k36_mkM _ _ _ (⟨5, 9⟩ : S36) )) (Reps.none _ _)))); intro v174 w3 ho4 hb hg_ hnew_; clear hg_ hnew_; (first | rw [← Ny173.out] at ho4 | (simp only [Int.reduceToNat] at ho4; rw [← Ny173.out] at ho4)); have n0_ := Aside0.mk (Kd.R_lower ho4 (below_size (by repeat (first | (with_reducible first | exact HB.out | apply below_alloc | apply pw_below_drewN | apply below_drew1) | exact HB.out)))); have n1_ := Aside0.mk (below_step (by repeat (first | (with_reducible first | exact HB.out | apply below_alloc | apply pw_below_drewN | apply below_drew1) | exact HB.out)) hb); clear HB; have HO175 := n0_; have HB := n1_; clear n0_ n1_; clear hb ho4; obtain ⟨Ao5, co5, eo5⟩ := Kd.R_slice HO175.out; subst eo5) | ((with_reducible refine gate_callee (f := 51) rfl ?_); refine goesL_ (some 11) rfl rfl Try.func51 (by kernel_rfl) rfl #[.slice Ao5 y173.length co5] rfl (by (try simp only [List.map_toArray, List.map_cons, List.map_nil]); first | done | rfl | (simp only [List.length_drop, List.length_take]; rfl)) ?_; (with_reducible refine (span_Check.calls k _ _ y173 t176 t177 _ ?side1 ?side2 A1.out).mono ?_); (case side1 => repeat (first | exact (Kd.R_reads' HO175.out).2.2 | (with_reducible refine Kd.C_alloc ?_ _) | (with_reducible refine Kd.C_drewN ?_ _) | (with_reducible refine Kd.C_drew ?_))); (case side2 => exact (Kd.R_reads' HO175.out).2.1); rintro e w6 ⟨rfl, hb⟩; refine ⟨_, rfl, ?_⟩; have n0_ := Aside0.mk (Kd.R_below (by (with_reducible repeat (first | apply Kd.R_alloc | apply Kd.R_drewN | apply Kd.R_drew)); exact HO175.out) hb); have n1_ := Aside0.mk (below_step (by repeat (first | (with_reducible first | exact HB.out | apply below_alloc | apply pw_below_drewN | apply below_drew1) | exact HB.out)) hb); clear HO175; clear HB; have HO175 := n0_; have HB := n1_; clear n0_ n1_; (try clear hb); (try clear hb2); (try clear hk); (try clear hi)))
 (try simp only [Act.put, List.setIfInBounds_toArray, List.set_cons_zero, List.set_cons_succ])
 go_cut [20] (fun v20 wc => ∃ (kq : Nat) (x20_1 : Bool), v20 = .bool x20_1 ∧ Aside0 (redraftlaw02_awake.j0 kq x20_1 = some r) ∧ Aside0 (kq ≤ k) ∧ Aside0 (Below w.heap.size w wc))
 case first =>
  have H := HC2.out
  clear HC2
  by_cases c7 : t176 = 1
  ·rw [if_pos c7] at H
   have c7b0 : (t176 == 1) = true := beq_iff_eq.mpr c7
   have c7b1 : (t176 != 1) = false := bne_eq_false_iff_eq.mpr c7
   clear c7
   (first | rw [c7b0] | (simp only [i64_w, i32_w]; rw [c7b0]) | skip)
   replace H := Option.bind_eq_some_iff.mp H
   obtain ⟨t178, A80, H⟩ := H
   replace H : (redraftlaw02_awake.j0 k (t178 != 22)) = some r := H
   have A8 := Aside0.mk A80
   clear A80
   have H' := Aside0.mk H
   clear H
   go_wp2_with (first | (go_at_call 19; (with_reducible refine (redraftlaw02_num.calls t177 t178 _ A8.out).mono ?_); rintro e w' ⟨rfl, ⟨nd, rfl⟩⟩))
   go_meet
   case rel => exact ⟨_, ((t178 != 22)), (by first | rfl | (simp; done) | (simp [*]; done)), H', ⟨by first | omega | exact Nat.le_refl _⟩, ⟨by repeat (first | (with_reducible first | exact HB.out | apply below_alloc | apply pw_below_drewN | apply below_drew1) | exact HB.out)⟩⟩
  ·rw [if_neg c7] at H
   have c7b0 : (t176 == 1) = false := beq_eq_false_iff_ne.mpr c7
   have c7b1 : (t176 != 1) = true := bne_iff_ne.mpr c7
   (first | rw [c7b0] | (simp only [i64_w, i32_w]; rw [c7b0]) | skip)
   have H' := Aside0.mk H
   clear H
   go_wp2
   go_meet
   case rel => exact ⟨_, (true), (by first | rfl | (simp; done) | (simp [*]; done)), H', ⟨by first | omega | exact Nat.le_refl _⟩, ⟨by repeat (first | (with_reducible first | exact HB.out | apply below_alloc | apply pw_below_drewN | apply below_drew1) | exact HB.out)⟩⟩
 case rest =>
  clear HC2
  try clear c2
  try clear p2
  try clear c5
  try clear c7
  try clear c7b0
  try clear c7b1
  obtain ⟨kq, x20_1, rfl, HA, HJ1, HB⟩ := hcut
  cases kq with
  | zero => exact absurd HA.out (by simp [redraftlaw02_awake.j0])
  | succ kj1 =>
   have H := HA.out
   clear HA
   simp only [redraftlaw02_awake.j0] at H
   by_cases c9 : x20_1 = true
   ·subst c9
    have H1 : (some false) = some r := by rw [if_pos rfl] at H; exact H
    clear H
    have H := H1
    clear H1
    obtain rfl := Option.some.inj H
    go_wp2
    go_ret
    exact ⟨by first | rfl | (simp [errW_none, errW_some] <;> rfl) | (simp [*, errW_none, errW_some] <;> rfl), by repeat (first | (with_reducible first | exact HB.out | apply below_alloc | apply pw_below_drewN | apply below_drew1) | exact HB.out)⟩
   ·replace c9 := Bool.eq_false_iff.mpr c9
    subst c9
    have H1 : ((span_Union.f kj1 (([(⟨0, 2⟩ : S36), (⟨5, 7⟩ : S36)] : List (S36))) (([(⟨2, 5⟩ : S36)] : List (S36)))).bind fun bt185 => ((redraftlaw02_num.f bt185.2).bind fun t189 => (if t189 = 0 then ((redraftlaw02_same.f kj1 bt185.1 (([(⟨0, 7⟩ : S36)] : List (S36)))).bind fun t193 => (redraftlaw02_awake.j1 kj1 (!t193))) else (redraftlaw02_awake.j1 kj1 true)))) = some r := by rw [if_neg (show ¬ (false = true) by decide)] at H; exact H
    clear H
    have H := H1
    clear H1
    obtain ⟨y179, hy179⟩ : ∃ y_ : List (S36), y_ = (([(⟨0, 2⟩ : S36), (⟨5, 7⟩ : S36)] : List (S36))) := ⟨_, rfl⟩
    replace H : ((span_Union.f kj1 y179 (([(⟨2, 5⟩ : S36)] : List (S36)))).bind fun bt185 => ((redraftlaw02_num.f bt185.2).bind fun t189 => (if t189 = 0 then ((redraftlaw02_same.f kj1 bt185.1 (([(⟨0, 7⟩ : S36)] : List (S36)))).bind fun t193 => (redraftlaw02_awake.j1 kj1 (!t193))) else (redraftlaw02_awake.j1 kj1 true)))) = some r := by first | (rw [hy179]; with_reducible exact H) | (have H2_ := (Option.bind_some _ _).symm.trans H; rw [hy179]; with_reducible exact H2_) | (have H2_ := (Option.bind_some _ _).symm.trans H; with_reducible exact H2_) | with_reducible exact H | (rw [hy179]; exact H) | exact H
    have Ny179 := Aside0.mk hy179
    clear hy179
    obtain ⟨y182, hy182⟩ : ∃ y_ : List (S36), y_ = (([(⟨2, 5⟩ : S36)] : List (S36))) := ⟨_, rfl⟩
    replace H : ((span_Union.f kj1 y179 y182).bind fun bt185 => ((redraftlaw02_num.f bt185.2).bind fun t189 => (if t189 = 0 then ((redraftlaw02_same.f kj1 bt185.1 (([(⟨0, 7⟩ : S36)] : List (S36)))).bind fun t193 => (redraftlaw02_awake.j1 kj1 (!t193))) else (redraftlaw02_awake.j1 kj1 true)))) = some r := by first | (rw [hy182]; with_reducible exact H) | (have H2_ := (Option.bind_some _ _).symm.trans H; rw [hy182]; with_reducible exact H2_) | (have H2_ := (Option.bind_some _ _).symm.trans H; with_reducible exact H2_) | with_reducible exact H | (rw [hy182]; exact H) | exact H
    have Ny182 := Aside0.mk hy182
    clear hy182
    replace H := Option.bind_eq_some_iff.mp H
    obtain ⟨⟨t185, t188⟩, A100, H⟩ := H
    replace H : ((redraftlaw02_num.f t188).bind fun t189 => (if t189 = 0 then ((redraftlaw02_same.f kj1 t185 (([(⟨0, 7⟩ : S36)] : List (S36)))).bind fun t193 => (redraftlaw02_awake.j1 kj1 (!t193))) else (redraftlaw02_awake.j1 kj1 true))) = some r := H
    have A10 := Aside0.mk A100
    clear A100
    have HC11 := Aside0.mk H
    clear H
    go_upto_region 5 with (first | ((with_reducible refine gate_dst (N := 24) rfl ?_); (try (refine gate_guard (by rfl) ?_; dsimp only)); refine Kd.R_lit k36 _ 36 ?hg (N := 24) ?hd (xs := ([(⟨0, 2⟩ : S36), (⟨5, 7⟩ : S36)] : List (S36))) (inner := [.int .i64 0, .int .i64 2, .int .i64 5, .int .i64 7]) (ok := fun _ => True) (okp := fun _ => True) ?hr ?hp (fun _ hk => hk) trivial (Below.refl _ _) (Nat.le_refl _) (by simp) ?_; (case hd => rfl); (case hg => rfl); (case hr => first | (go_simp; done) | (go_simp; rfl)); (case hp => exact (Reps.c2 (show Kd.M k36 _ _ _ (⟨0, 2⟩ : S36) [.int .i64 0, .int .i64 2] from (k36_mkM _ _ _ (⟨0, 2⟩ : S36) )) (Reps.c2 (show Kd.M k36 _ _ _ (⟨5, 7⟩ : S36) [.int .i64 5, .int .i64 7] from (k36_mkM _ _ _ (⟨5, 7⟩ : S36) )) (Reps.none _ _)))); intro v180 w12 ho13 hb hg_ hnew_; clear hg_ hnew_; (first | rw [← Ny179.out] at ho13 | (simp only [Int.reduceToNat] at ho13; rw [← Ny179.out] at ho13)); have n0_ := Aside0.mk (Kd.R_lower ho13 (below_size (by repeat (first | (with_reducible first | exact HB.out | apply below_alloc | apply pw_below_drewN | apply below_drew1) | exact HB.out)))); have n1_ := Aside0.mk (below_step (by repeat (first | (with_reducible first | exact HB.out | apply below_alloc | apply pw_below_drewN | apply below_drew1) | exact HB.out)) hb); clear HB; have HO181 := n0_; have HB := n1_; clear n0_ n1_; clear hb ho13) | ((with_reducible refine gate_dst (N := 26) rfl ?_); (try (refine gate_guard (by rfl) ?_; dsimp only)); refine Kd.R_lit k36 _ 36 ?hg (N := 26) ?hd (xs := ([(⟨2, 5⟩ : S36)] : List (S36))) (inner := [.int .i64 2, .int .i64 5]) (ok := fun _ => True) (okp := fun _ => True) ?hr ?hp (fun _ hk => hk) trivial (Below.refl _ _) (Nat.le_refl _) (by simp) ?_; (case hd => rfl); (case hg => rfl); (case hr => first | (go_simp; done) | (go_simp; rfl)); (case hp => exact (Reps.c2 (show Kd.M k36 _ _ _ (⟨2, 5⟩ : S36) [.int .i64 2, .int .i64 5] from (k36_mkM _ _ _ (⟨2, 5⟩ : S36) )) (Reps.none _ _))); intro v183 w14 ho15 hb hg_ hnew_; clear hg_ hnew_; (first | rw [← Ny182.out] at ho15 | (simp only [Int.reduceToNat] at ho15; rw [← Ny182.out] at ho15)); have n0_ := Aside0.mk (Kd.R_elder' (by (with_reducible repeat (first | apply Kd.R_alloc | apply Kd.R_drewN | apply Kd.R_drew)); exact HO181.out) (Kd.R_base ho15) hb); have n1_ := Aside0.mk (Kd.R_lower (Kd.R_new' ho15 (Kd.R_lt (by (with_reducible repeat (first | apply Kd.R_alloc | apply Kd.R_drewN | apply Kd.R_drew)); exact HO181.out))) (below_size (by repeat (first | (with_reducible first | exact HB.out | apply below_alloc | apply pw_below_drewN | apply below_drew1) | exact HB.out)))); have n2_ := Aside0.mk (below_step (by repeat (first | (with_reducible first | exact HB.out | apply below_alloc | apply pw_below_drewN | apply below_drew1) | exact HB.out)) hb); clear HO181; clear HB; have HO181 := n0_; have HO184 := n1_; have HB := n2_; clear n0_ n1_ n2_; clear hb ho15; obtain ⟨Ao16, co16, eo16⟩ := Kd.R_slice HO181.out; subst eo16; obtain ⟨Ao17, co17, eo17⟩ := Kd.R_slice HO184.out; subst eo17) | ((with_reducible refine gate_callee (f := 24) rfl ?_); refine goesL_ (some 27) rfl rfl Try.func24 (by kernel_rfl) rfl #[.slice Ao16 y179.length co16, .slice Ao17 y182.length co17] rfl (by (try simp only [List.map_toArray, List.map_cons, List.map_nil]); first | done | rfl | (simp only [List.length_drop, List.length_take]; rfl)) ?_; (with_reducible refine (span_Union.calls kj1 (fun k_ => some k_ = (.slice Ao16 y179.length co16 : Value).ownBlock) _ _ y179 (fun k_ => some k_ = (.slice Ao17 y182.length co17 : Value).ownBlock) _ _ y182 t185 t188 _ ?side1 ?side2 A10.out).mono ?_); (case side1 => exact Kd.R_V (Kd.R_tight rfl (HO181.out))); (case side2 => exact Kd.R_V (Kd.R_tight rfl (HO184.out))); rintro e w18 ⟨v186, rfl, ho0, hb⟩; refine ⟨_, rfl, ?_⟩; have n0_ := Aside0.mk (Kd.R_elder' (by (with_reducible repeat (first | apply Kd.R_alloc | apply Kd.R_drewN | apply Kd.R_drew)); exact HO181.out) (Kd.R_base ho0) hb); have n1_ := Aside0.mk (Kd.R_elder' (by (with_reducible repeat (first | apply Kd.R_alloc | apply Kd.R_drewN | apply Kd.R_drew)); exact HO184.out) (Kd.R_base ho0) hb); have n2_ := Aside0.mk (Kd.R_lower (Kd.R_new' (Kd.R_new' (Kd.R_mono (ok' := fun k_ => True) ho0 (fun _ hk_ => trivial)) (Kd.R_lt (by (with_reducible repeat (first | apply Kd.R_alloc | apply Kd.R_drewN | apply Kd.R_drew)); exact HO181.out))) (Kd.R_lt (by (with_reducible repeat (first | apply Kd.R_alloc | apply Kd.R_drewN | apply Kd.R_drew)); exact HO184.out))) (below_size (by repeat (first | (with_reducible first | exact HB.out | apply below_alloc | apply pw_below_drewN | apply below_drew1) | exact HB.out)))); have n3_ := Aside0.mk (below_step (by repeat (first | (with_reducible first | exact HB.out | apply below_alloc | apply pw_below_drewN | apply below_drew1) | exact HB.out)) hb); clear HO181; clear HO184; clear HB; have HO181 := n0_; have HO184 := n1_; have HO187 := n2_; have HB := n3_; clear n0_ n1_ n2_ n3_; (try clear hb); (try clear hb2); (try clear hk); (try clear hi); (try clear ho0)))
    (try simp only [Act.put, List.setIfInBounds_toArray, List.set_cons_zero, List.set_cons_succ])
    go_cut [39] (fun v39 wc => ∃ (kq : Nat) (x39_10 : Bool), v39 = .bool x39_10 ∧ Aside0 (redraftlaw02_awake.j1 kq x39_10 = some r) ∧ Aside0 (kq ≤ kj1) ∧ Aside0 (Below w.heap.size w wc))
    case first =>
     have H := HC11.out
     clear HC11
     replace H := Option.bind_eq_some_iff.mp H
     obtain ⟨t189, A190, H⟩ := H
     replace H : (if t189 = 0 then ((redraftlaw02_same.f kj1 t185 (([(⟨0, 7⟩ : S36)] : List (S36)))).bind fun t193 => (redraftlaw02_awake.j1 kj1 (!t193))) else (redraftlaw02_awake.j1 kj1 true)) = some r := H
     have A19 := Aside0.mk A190
     clear A190
     by_cases c20 : t189 = 0
     ·rw [if_pos c20] at H
      have c20b0 : (t189 == 0) = true := beq_iff_eq.mpr c20
      have c20b1 : (t189 != 0) = false := bne_eq_false_iff_eq.mpr c20
      clear c20
      (first | rw [c20b0] | (simp only [i64_w, i32_w]; rw [c20b0]) | skip)
      obtain ⟨y190, hy190⟩ : ∃ y_ : List (S36), y_ = (([(⟨0, 7⟩ : S36)] : List (S36))) := ⟨_, rfl⟩
      replace H : ((redraftlaw02_same.f kj1 t185 y190).bind fun t193 => (redraftlaw02_awake.j1 kj1 (!t193))) = some r := by first | (rw [hy190]; with_reducible exact H) | (have H2_ := (Option.bind_some _ _).symm.trans H; rw [hy190]; with_reducible exact H2_) | (have H2_ := (Option.bind_some _ _).symm.trans H; with_reducible exact H2_) | with_reducible exact H | (rw [hy190]; exact H) | exact H
      have Ny190 := Aside0.mk hy190
      clear hy190
      replace H := Option.bind_eq_some_iff.mp H
      obtain ⟨t193, A210, H⟩ := H
      replace H : (redraftlaw02_awake.j1 kj1 (!t193)) = some r := H
      have A21 := Aside0.mk A210
      clear A210
      have H' := Aside0.mk H
      clear H
      go_wp2_with (first | ((with_reducible refine gate_callee (f := 19) rfl ?_); refine goesL_ (some 31) rfl rfl Try.func19 (by kernel_rfl) rfl #[.int .i64 t188] rfl (by (try simp only [List.map_toArray, List.map_cons, List.map_nil]); first | done | rfl | (simp only [List.length_drop, List.length_take]; rfl)) ?_; (with_reducible refine (redraftlaw02_num.calls t188 t189 _ A19.out).mono ?_); rintro e w' ⟨rfl, ⟨nd, rfl⟩⟩; refine ⟨_, rfl, ?_⟩) | ((with_reducible refine gate_dst (N := 36) rfl ?_); (try (refine gate_guard (by rfl) ?_; dsimp only)); refine Kd.R_lit k36 _ 36 ?hg (N := 36) ?hd (xs := ([(⟨0, 7⟩ : S36)] : List (S36))) (inner := [.int .i64 0, .int .i64 7]) (ok := fun _ => True) (okp := fun _ => True) ?hr ?hp (fun _ hk => hk) trivial (Below.refl _ _) (Nat.le_refl _) (by simp) ?_; (case hd => rfl); (case hg => rfl); (case hr => first | (go_simp; done) | (go_simp; rfl)); (case hp => exact (Reps.c2 (show Kd.M k36 _ _ _ (⟨0, 7⟩ : S36) [.int .i64 0, .int .i64 7] from (k36_mkM _ _ _ (⟨0, 7⟩ : S36) )) (Reps.none _ _))); intro v191 w22 ho23 hb hg_ hnew_; clear hg_ hnew_; (first | rw [← Ny190.out] at ho23 | (simp only [Int.reduceToNat] at ho23; rw [← Ny190.out] at ho23)); have n0_ := Aside0.mk (Kd.R_elder' (by (with_reducible repeat (first | apply Kd.R_alloc | apply Kd.R_drewN | apply Kd.R_drew)); exact HO181.out) (Kd.R_base ho23) hb); have n1_ := Aside0.mk (Kd.R_elder' (by (with_reducible repeat (first | apply Kd.R_alloc | apply Kd.R_drewN | apply Kd.R_drew)); exact HO184.out) (Kd.R_base ho23) hb); have n2_ := Aside0.mk (Kd.R_elder' (by (with_reducible repeat (first | apply Kd.R_alloc | apply Kd.R_drewN | apply Kd.R_drew)); exact HO187.out) (Kd.R_base ho23) hb); have n3_ := Aside0.mk (Kd.R_lower (Kd.R_new' (Kd.R_new' (Kd.R_new' ho23 (Kd.R_lt (by (with_reducible repeat (first | apply Kd.R_alloc | apply Kd.R_drewN | apply Kd.R_drew)); exact HO181.out))) (Kd.R_lt (by (with_reducible repeat (first | apply Kd.R_alloc | apply Kd.R_drewN | apply Kd.R_drew)); exact HO184.out))) (Kd.R_lt (by (with_reducible repeat (first | apply Kd.R_alloc | apply Kd.R_drewN | apply Kd.R_drew)); exact HO187.out))) (below_size (by repeat (first | (with_reducible first | exact HB.out | apply below_alloc | apply pw_below_drewN | apply below_drew1) | exact HB.out)))); have n4_ := Aside0.mk (below_step (by repeat (first | (with_reducible first | exact HB.out | apply below_alloc | apply pw_below_drewN | apply below_drew1) | exact HB.out)) hb); clear HO181; clear HO184; clear HO187; clear HB; have HO181 := n0_; have HO184 := n1_; have HO187 := n2_; have HO192 := n3_; have HB := n4_; clear n0_ n1_ n2_ n3_ n4_; clear hb ho23; obtain ⟨Ao24, co24, eo24⟩ := Kd.R_slice HO187.out; subst eo24; obtain ⟨Ao25, co25, eo25⟩ := Kd.R_slice HO192.out; subst eo25) | (go_at_call 25; (with_reducible refine (redraftlaw02_same.calls kj1 _ _ t185 _ _ y190 t193 _ ?side1 ?side2 ?side3 ?side4 A21.out).mono ?_); (case side1 => repeat (first | exact (Kd.R_reads' HO187.out).2.2 | (with_reducible refine Kd.C_alloc ?_ _) | (with_reducible refine Kd.C_drewN ?_ _) | (with_reducible refine Kd.C_drew ?_))); (case side2 => exact (Kd.R_reads' HO187.out).2.1); (case side3 => repeat (first | exact (Kd.R_reads' HO192.out).2.2 | (with_reducible refine Kd.C_alloc ?_ _) | (with_reducible refine Kd.C_drewN ?_ _) | (with_reducible refine Kd.C_drew ?_))); (case side4 => exact (Kd.R_reads' HO192.out).2.1); rintro e w' ⟨rfl, ⟨nd, rfl⟩⟩))
      go_meet
      case rel => exact ⟨_, (!t193), (by first | rfl | (simp; done) | (simp [*]; done)), H', ⟨by have := HJ1.out; first | omega | exact Nat.le_refl _⟩, ⟨by repeat (first | (with_reducible first | exact HB.out | apply below_alloc | apply pw_below_drewN | apply below_drew1) | exact HB.out)⟩⟩
     ·rw [if_neg c20] at H
      have c20b0 : (t189 == 0) = false := beq_eq_false_iff_ne.mpr c20
      have c20b1 : (t189 != 0) = true := bne_iff_ne.mpr c20
      (first | rw [c20b0] | (simp only [i64_w, i32_w]; rw [c20b0]) | skip)
      have H' := Aside0.mk H
      clear H
      go_wp2_with (first | ((with_reducible refine gate_callee (f := 19) rfl ?_); refine goesL_ (some 31) rfl rfl Try.func19 (by kernel_rfl) rfl #[.int .i64 t188] rfl (by (try simp only [List.map_toArray, List.map_cons, List.map_nil]); first | done | rfl | (simp only [List.length_drop, List.length_take]; rfl)) ?_; (with_reducible refine (redraftlaw02_num.calls t188 t189 _ A19.out).mono ?_); rintro e w' ⟨rfl, ⟨nd, rfl⟩⟩; refine ⟨_, rfl, ?_⟩))
      go_meet
      case rel => exact ⟨_, (true), (by first | rfl | (simp; done) | (simp [*]; done)), H', ⟨by have := HJ1.out; first | omega | exact Nat.le_refl _⟩, ⟨by repeat (first | (with_reducible first | exact HB.out | apply below_alloc | apply pw_below_drewN | apply below_drew1) | exact HB.out)⟩⟩
    case rest =>
     clear HC11
     try clear c1
     try clear c2
     try clear p2
     try clear c5
     try clear c7
     try clear c7b0
     try clear c7b1
     try clear c9
     try clear c19
     try clear c20
     try clear c20b0
     try clear c20b1
     try clear c24
     try clear p2
     obtain ⟨kq, x39_10, rfl, HA, HJ10, HB⟩ := hcut
     cases kq with
     | zero => exact absurd HA.out (by simp [redraftlaw02_awake.j1])
     | succ kj10 =>
      have H := HA.out
      clear HA
      simp only [redraftlaw02_awake.j1] at H
      by_cases c26 : x39_10 = true
      ·subst c26
       have H1 : (some false) = some r := by rw [if_pos rfl] at H; exact H
       clear H
       have H := H1
       clear H1
       obtain rfl := Option.some.inj H
       go_wp2
       go_ret
       exact ⟨by first | rfl | (simp [errW_none, errW_some] <;> rfl) | (simp [*, errW_none, errW_some] <;> rfl), by repeat (first | (with_reducible first | exact HB.out | apply below_alloc | apply pw_below_drewN | apply below_drew1) | exact HB.out)⟩
      ·replace c26 := Bool.eq_false_iff.mpr c26
       subst c26
       have H1 : ((span_Through.f kj10 (([(⟨2, 5⟩ : S36)] : List (S36))) 3 2).bind fun bt197 => ((redraftlaw02_num.f bt197.2).bind fun t201 => (if t201 = 0 then ((redraftlaw02_same.f kj10 bt197.1 (([(⟨2, 3⟩ : S36), (⟨5, 7⟩ : S36)] : List (S36)))).bind fun t205 => (some t205)) else (some false)))) = some r := by rw [if_neg (show ¬ (false = true) by decide)] at H; exact H
       clear H
       have H := H1
       clear H1
       obtain ⟨y194, hy194⟩ : ∃ y_ : List (S36), y_ = (([(⟨2, 5⟩ : S36)] : List (S36))) := ⟨_, rfl⟩
       replace H : ((span_Through.f kj10 y194 3 2).bind fun bt197 => ((redraftlaw02_num.f bt197.2).bind fun t201 => (if t201 = 0 then ((redraftlaw02_same.f kj10 bt197.1 (([(⟨2, 3⟩ : S36), (⟨5, 7⟩ : S36)] : List (S36)))).bind fun t205 => (some t205)) else (some false)))) = some r := by first | (rw [hy194]; with_reducible exact H) | (have H2_ := (Option.bind_some _ _).symm.trans H; rw [hy194]; with_reducible exact H2_) | (have H2_ := (Option.bind_some _ _).symm.trans H; with_reducible exact H2_) | with_reducible exact H | (rw [hy194]; exact H) | exact H
       have Ny194 := Aside0.mk hy194
       clear hy194
       replace H := Option.bind_eq_some_iff.mp H
       obtain ⟨⟨t197, t198⟩, A270, H⟩ := H
       replace H : ((redraftlaw02_num.f t198).bind fun t201 => (if t201 = 0 then ((redraftlaw02_same.f kj10 t197 (([(⟨2, 3⟩ : S36), (⟨5, 7⟩ : S36)] : List (S36)))).bind fun t205 => (some t205)) else (some false))) = some r := H
       have A27 := Aside0.mk A270
       clear A270
       replace H := Option.bind_eq_some_iff.mp H
       obtain ⟨t201, A280, H⟩ := H
       replace H : (if t201 = 0 then ((redraftlaw02_same.f kj10 t197 (([(⟨2, 3⟩ : S36), (⟨5, 7⟩ : S36)] : List (S36)))).bind fun t205 => (some t205)) else (some false)) = some r := H
       have A28 := Aside0.mk A280
       clear A280
       by_cases c29 : t201 = 0
       ·rw [if_pos c29] at H
        have c29b0 : (t201 == 0) = true := beq_iff_eq.mpr c29
        have c29b1 : (t201 != 0) = false := bne_eq_false_iff_eq.mpr c29
        clear c29
        obtain ⟨y202, hy202⟩ : ∃ y_ : List (S36), y_ = (([(⟨2, 3⟩ : S36), (⟨5, 7⟩ : S36)] : List (S36))) := ⟨_, rfl⟩
        replace H : ((redraftlaw02_same.f kj10 t197 y202).bind fun t205 => (some t205)) = some r := by first | (rw [hy202]; with_reducible exact H) | (have H2_ := (Option.bind_some _ _).symm.trans H; rw [hy202]; with_reducible exact H2_) | (have H2_ := (Option.bind_some _ _).symm.trans H; with_reducible exact H2_) | with_reducible exact H | (rw [hy202]; exact H) | exact H
        have Ny202 := Aside0.mk hy202
        clear hy202
        replace H := Option.bind_eq_some_iff.mp H
        obtain ⟨t205, A300, H⟩ := H
        replace H : (some t205) = some r := H
        have A30 := Aside0.mk A300
        clear A300
        obtain rfl := Option.some.inj H
        go_wp2_with (first | ((with_reducible refine gate_dst (N := 42) rfl ?_); (try (refine gate_guard (by rfl) ?_; dsimp only)); refine Kd.R_lit k36 _ 36 ?hg (N := 42) ?hd (xs := ([(⟨2, 5⟩ : S36)] : List (S36))) (inner := [.int .i64 2, .int .i64 5]) (ok := fun _ => True) (okp := fun _ => True) ?hr ?hp (fun _ hk => hk) trivial (Below.refl _ _) (Nat.le_refl _) (by simp) ?_; (case hd => rfl); (case hg => rfl); (case hr => first | (go_simp; done) | (go_simp; rfl)); (case hp => exact (Reps.c2 (show Kd.M k36 _ _ _ (⟨2, 5⟩ : S36) [.int .i64 2, .int .i64 5] from (k36_mkM _ _ _ (⟨2, 5⟩ : S36) )) (Reps.none _ _))); intro v195 w31 ho32 hb hg_ hnew_; clear hg_ hnew_; (first | rw [← Ny194.out] at ho32 | (simp only [Int.reduceToNat] at ho32; rw [← Ny194.out] at ho32)); have n0_ := Aside0.mk (Kd.R_lower ho32 (below_size (by repeat (first | (with_reducible first | exact HB.out | apply below_alloc | apply pw_below_drewN | apply below_drew1) | exact HB.out)))); have n1_ := Aside0.mk (below_step (by repeat (first | (with_reducible first | exact HB.out | apply below_alloc | apply pw_below_drewN | apply below_drew1) | exact HB.out)) hb); clear HB; have HO196 := n0_; have HB := n1_; clear n0_ n1_; clear hb ho32; obtain ⟨Ao33, co33, eo33⟩ := Kd.R_slice HO196.out; subst eo33) | ((with_reducible refine gate_callee (f := 23) rfl ?_); refine goesL_ (some 43) rfl rfl Try.func23 (by kernel_rfl) rfl #[.slice Ao33 y194.length co33, .int .i64 3, .int .i64 2] rfl (by (try simp only [List.map_toArray, List.map_cons, List.map_nil]); first | done | rfl | (simp only [List.length_drop, List.length_take]; rfl)) ?_; (with_reducible refine (span_Through.calls kj10 _ _ y194 3 2 t197 t198 _ ?side1 ?side2 A27.out).mono ?_); (case side1 => repeat (first | exact (Kd.R_reads' HO196.out).2.2 | (with_reducible refine Kd.C_alloc ?_ _) | (with_reducible refine Kd.C_drewN ?_ _) | (with_reducible refine Kd.C_drew ?_))); (case side2 => exact (Kd.R_reads' HO196.out).2.1); rintro e w34 ⟨v199, rfl, ho0, hb⟩; refine ⟨_, rfl, ?_⟩; have n0_ := Aside0.mk (Kd.R_elder' (by (with_reducible repeat (first | apply Kd.R_alloc | apply Kd.R_drewN | apply Kd.R_drew)); exact HO196.out) (Kd.R_base ho0) hb); have n1_ := Aside0.mk (Kd.R_lower (Kd.R_new' ho0 (Kd.R_lt (by (with_reducible repeat (first | apply Kd.R_alloc | apply Kd.R_drewN | apply Kd.R_drew)); exact HO196.out))) (below_size (by repeat (first | (with_reducible first | exact HB.out | apply below_alloc | apply pw_below_drewN | apply below_drew1) | exact HB.out)))); have n2_ := Aside0.mk (below_step (by repeat (first | (with_reducible first | exact HB.out | apply below_alloc | apply pw_below_drewN | apply below_drew1) | exact HB.out)) hb); clear HO196; clear HB; have HO196 := n0_; have HO200 := n1_; have HB := n2_; clear n0_ n1_ n2_; (try clear hb); (try clear hb2); (try clear hk); (try clear hi); (try clear ho0)) | ((with_reducible refine gate_callee (f := 19) rfl ?_); refine goesL_ (some 47) rfl rfl Try.func19 (by kernel_rfl) rfl #[.int .i64 t198] rfl (by (try simp only [List.map_toArray, List.map_cons, List.map_nil]); first | done | rfl | (simp only [List.length_drop, List.length_take]; rfl)) ?_; (with_reducible refine (redraftlaw02_num.calls t198 t201 _ A28.out).mono ?_); rintro e w' ⟨rfl, ⟨nd, rfl⟩⟩; refine ⟨_, rfl, ?_⟩) | ((with_reducible refine gate_dst (N := 53) rfl ?_); (try (refine gate_guard (by rfl) ?_; dsimp only)); refine Kd.R_lit k36 _ 36 ?hg (N := 53) ?hd (xs := ([(⟨2, 3⟩ : S36), (⟨5, 7⟩ : S36)] : List (S36))) (inner := [.int .i64 2, .int .i64 3, .int .i64 5, .int .i64 7]) (ok := fun _ => True) (okp := fun _ => True) ?hr ?hp (fun _ hk => hk) trivial (Below.refl _ _) (Nat.le_refl _) (by simp) ?_; (case hd => rfl); (case hg => rfl); (case hr => first | (go_simp; done) | (go_simp; rfl)); (case hp => exact (Reps.c2 (show Kd.M k36 _ _ _ (⟨2, 3⟩ : S36) [.int .i64 2, .int .i64 3] from (k36_mkM _ _ _ (⟨2, 3⟩ : S36) )) (Reps.c2 (show Kd.M k36 _ _ _ (⟨5, 7⟩ : S36) [.int .i64 5, .int .i64 7] from (k36_mkM _ _ _ (⟨5, 7⟩ : S36) )) (Reps.none _ _)))); intro v203 w35 ho36 hb hg_ hnew_; clear hg_ hnew_; (first | rw [← Ny202.out] at ho36 | (simp only [Int.reduceToNat] at ho36; rw [← Ny202.out] at ho36)); have n0_ := Aside0.mk (Kd.R_elder' (by (with_reducible repeat (first | apply Kd.R_alloc | apply Kd.R_drewN | apply Kd.R_drew)); exact HO196.out) (Kd.R_base ho36) hb); have n1_ := Aside0.mk (Kd.R_elder' (by (with_reducible repeat (first | apply Kd.R_alloc | apply Kd.R_drewN | apply Kd.R_drew)); exact HO200.out) (Kd.R_base ho36) hb); have n2_ := Aside0.mk (Kd.R_lower (Kd.R_new' (Kd.R_new' ho36 (Kd.R_lt (by (with_reducible repeat (first | apply Kd.R_alloc | apply Kd.R_drewN | apply Kd.R_drew)); exact HO196.out))) (Kd.R_lt (by (with_reducible repeat (first | apply Kd.R_alloc | apply Kd.R_drewN | apply Kd.R_drew)); exact HO200.out))) (below_size (by repeat (first | (with_reducible first | exact HB.out | apply below_alloc | apply pw_below_drewN | apply below_drew1) | exact HB.out)))); have n3_ := Aside0.mk (below_step (by repeat (first | (with_reducible first | exact HB.out | apply below_alloc | apply pw_below_drewN | apply below_drew1) | exact HB.out)) hb); clear HO196; clear HO200; clear HB; have HO196 := n0_; have HO200 := n1_; have HO204 := n2_; have HB := n3_; clear n0_ n1_ n2_ n3_; clear hb ho36; obtain ⟨Ao37, co37, eo37⟩ := Kd.R_slice HO200.out; subst eo37; obtain ⟨Ao38, co38, eo38⟩ := Kd.R_slice HO204.out; subst eo38) | (go_at_call 25; (with_reducible refine (redraftlaw02_same.calls kj10 _ _ t197 _ _ y202 t205 _ ?side1 ?side2 ?side3 ?side4 A30.out).mono ?_); (case side1 => repeat (first | exact (Kd.R_reads' HO200.out).2.2 | (with_reducible refine Kd.C_alloc ?_ _) | (with_reducible refine Kd.C_drewN ?_ _) | (with_reducible refine Kd.C_drew ?_))); (case side2 => exact (Kd.R_reads' HO200.out).2.1); (case side3 => repeat (first | exact (Kd.R_reads' HO204.out).2.2 | (with_reducible refine Kd.C_alloc ?_ _) | (with_reducible refine Kd.C_drewN ?_ _) | (with_reducible refine Kd.C_drew ?_))); (case side4 => exact (Kd.R_reads' HO204.out).2.1); rintro e w' ⟨rfl, ⟨nd, rfl⟩⟩))
        go_ret
        exact ⟨by first | rfl | (simp [errW_none, errW_some] <;> rfl) | (simp [*, errW_none, errW_some] <;> rfl), by repeat (first | (with_reducible first | exact HB.out | apply below_alloc | apply pw_below_drewN | apply below_drew1) | exact HB.out)⟩
       ·rw [if_neg c29] at H
        have c29b0 : (t201 == 0) = false := beq_eq_false_iff_ne.mpr c29
        have c29b1 : (t201 != 0) = true := bne_iff_ne.mpr c29
        obtain rfl := Option.some.inj H
        go_wp2_with (first | ((with_reducible refine gate_dst (N := 42) rfl ?_); (try (refine gate_guard (by rfl) ?_; dsimp only)); refine Kd.R_lit k36 _ 36 ?hg (N := 42) ?hd (xs := ([(⟨2, 5⟩ : S36)] : List (S36))) (inner := [.int .i64 2, .int .i64 5]) (ok := fun _ => True) (okp := fun _ => True) ?hr ?hp (fun _ hk => hk) trivial (Below.refl _ _) (Nat.le_refl _) (by simp) ?_; (case hd => rfl); (case hg => rfl); (case hr => first | (go_simp; done) | (go_simp; rfl)); (case hp => exact (Reps.c2 (show Kd.M k36 _ _ _ (⟨2, 5⟩ : S36) [.int .i64 2, .int .i64 5] from (k36_mkM _ _ _ (⟨2, 5⟩ : S36) )) (Reps.none _ _))); intro v195 w39 ho40 hb hg_ hnew_; clear hg_ hnew_; (first | rw [← Ny194.out] at ho40 | (simp only [Int.reduceToNat] at ho40; rw [← Ny194.out] at ho40)); have n0_ := Aside0.mk (Kd.R_lower ho40 (below_size (by repeat (first | (with_reducible first | exact HB.out | apply below_alloc | apply pw_below_drewN | apply below_drew1) | exact HB.out)))); have n1_ := Aside0.mk (below_step (by repeat (first | (with_reducible first | exact HB.out | apply below_alloc | apply pw_below_drewN | apply below_drew1) | exact HB.out)) hb); clear HB; have HO196 := n0_; have HB := n1_; clear n0_ n1_; clear hb ho40; obtain ⟨Ao41, co41, eo41⟩ := Kd.R_slice HO196.out; subst eo41) | ((with_reducible refine gate_callee (f := 23) rfl ?_); refine goesL_ (some 43) rfl rfl Try.func23 (by kernel_rfl) rfl #[.slice Ao41 y194.length co41, .int .i64 3, .int .i64 2] rfl (by (try simp only [List.map_toArray, List.map_cons, List.map_nil]); first | done | rfl | (simp only [List.length_drop, List.length_take]; rfl)) ?_; (with_reducible refine (span_Through.calls kj10 _ _ y194 3 2 t197 t198 _ ?side1 ?side2 A27.out).mono ?_); (case side1 => repeat (first | exact (Kd.R_reads' HO196.out).2.2 | (with_reducible refine Kd.C_alloc ?_ _) | (with_reducible refine Kd.C_drewN ?_ _) | (with_reducible refine Kd.C_drew ?_))); (case side2 => exact (Kd.R_reads' HO196.out).2.1); rintro e w42 ⟨v199, rfl, ho0, hb⟩; refine ⟨_, rfl, ?_⟩; have n0_ := Aside0.mk (Kd.R_elder' (by (with_reducible repeat (first | apply Kd.R_alloc | apply Kd.R_drewN | apply Kd.R_drew)); exact HO196.out) (Kd.R_base ho0) hb); have n1_ := Aside0.mk (Kd.R_lower (Kd.R_new' ho0 (Kd.R_lt (by (with_reducible repeat (first | apply Kd.R_alloc | apply Kd.R_drewN | apply Kd.R_drew)); exact HO196.out))) (below_size (by repeat (first | (with_reducible first | exact HB.out | apply below_alloc | apply pw_below_drewN | apply below_drew1) | exact HB.out)))); have n2_ := Aside0.mk (below_step (by repeat (first | (with_reducible first | exact HB.out | apply below_alloc | apply pw_below_drewN | apply below_drew1) | exact HB.out)) hb); clear HO196; clear HB; have HO196 := n0_; have HO200 := n1_; have HB := n2_; clear n0_ n1_ n2_; (try clear hb); (try clear hb2); (try clear hk); (try clear hi); (try clear ho0)) | ((with_reducible refine gate_callee (f := 19) rfl ?_); refine goesL_ (some 47) rfl rfl Try.func19 (by kernel_rfl) rfl #[.int .i64 t198] rfl (by (try simp only [List.map_toArray, List.map_cons, List.map_nil]); first | done | rfl | (simp only [List.length_drop, List.length_take]; rfl)) ?_; (with_reducible refine (redraftlaw02_num.calls t198 t201 _ A28.out).mono ?_); rintro e w' ⟨rfl, ⟨nd, rfl⟩⟩; refine ⟨_, rfl, ?_⟩))
        go_ret
        exact ⟨by first | rfl | (simp [errW_none, errW_some] <;> rfl) | (simp [*, errW_none, errW_some] <;> rfl), by repeat (first | (with_reducible first | exact HB.out | apply below_alloc | apply pw_below_drewN | apply below_drew1) | exact HB.out)⟩
end Go.Proofs.Ytmidiifgdloojaa.Pr
end
section
namespace Go.Proofs.Ytmidiifgdloojaa.SpanFns
open Go.RowKit Go.Proofs.YtmidiifgdloojaaW.PrintWords Go.Proofs.YtmidiifgdloojaaW.PrintMore Go.Proofs.Ytmidiifgdloojaa.Pr Go.Proofs.Ytmidiifgdloojaa.SpanMath Go.Proofs.Ytmidiifgdloojaa.SpanReads
theorem awake_ev : Ev (fun k => redraftlaw02_awake.f k) true := Ev.of redraftlaw02_awake.mono (k := 40) (by decide +kernel)
theorem wfl_short {l : List S36} (h : WfL l) : Short l := by have := h.1; show l.length < _; omega
end Go.Proofs.Ytmidiifgdloojaa.SpanFns
end
section
namespace Go.Proofs.Ytmidiifgdloojaa.Pr
open Go.RowKit Go.Proofs.YtmidiifgdloojaaW.PrintWords Go.Proofs.YtmidiifgdloojaaW.PrintLast Go.Proofs.YtmidiifgdloojaaW.PrintMore
attribute [local go_sem] max2_int min2_int max_two min_two max_three min_three max_four min_four
set_option linter.unusedVariables false
set_option linter.unusedSimpArgs false
def redraftlaw02_taken.f (l0 : List (S36)) (a1 : Int) : Option (List Int × Bool) := if a1 ≤ 300 then (span_Check.f (2 * l0.length + 1) l0).bind fun b => (if b.2 = 0 then (if l0.length ≤ 32768 ∧ (∀ r ∈ l0, 0 ≤ r.f0 ∧ r.f0 < r.f1 ∧ r.f1 ≤ 1048576) then some ((SpanEach.spans (SpanEach.prs l0)).take a1.toNat, true) else none) else some ([], true)) else none
theorem redraftlaw02_taken.info3 : (Try.prog.info? 3).map (fun i => (i.zero, i.size, i.bytes)) = some (some (.int .i64 0), 1, 8) := by kernel_rfl
theorem redraftlaw02_taken.eqlF (W : World) (f : Nat) (bl : Array Value) : (binOp .eql 43 (.func (.func f) #[] bl) .nilFunc).run Try.prog W = .ok (.bool false) W := by
 unfold binOp Op.equal
 obtain ⟨d, hd⟩ : ∃ d, Op.maxDepth = d + 1 := ⟨9999, rfl⟩
 rw [hd]
 simp [Op.equalIn, run_underlying Try.underlying43, go_sem]
attribute [local go_sem] redraftlaw02_taken.eqlF
attribute [local go_sem] Oper.semAt_some
theorem redraftlaw02_taken.R_of_row {W : World} {base : Nat} {v : Value} {xs : List Int} (h : W.ownsRow base 3 1 v xs.length (xs.map (Value.int .i64))) : Kd.R (Kd.int .i64) 3 W base (fun _ => True) v xs := by
 exact Kd.R_of_own (by simpa [encs] using h) (fun _ _ => trivial)
theorem redraftlaw02_taken.keeps {W w1 : World} {n₀ B k : Nat} {v v' : Value} {xs : List Value} {tmp : Obj} (hv : Boxed W B 23 v) (hrow : W.ownsRow n₀ 3 1 v k xs) (hgrow : (W.alloc tmp).grownBy w1 v.ownBlock) (hv1 : Boxed w1 B 23 v) : SpanEach.Keeps36 W (w1.setCell ⟨B, 0, none⟩ v') := by
 refine (SpanEach.Keeps36.grown (World.grownBy_alloc W tmp none) (by simp)).trans ((SpanEach.Keeps36.grown hgrow ?_).trans (SpanEach.Keeps36.grown (grownBy_setCell' w1 B v') ?_))
 ·intro r e c hh
  obtain ⟨cells, hc⟩ := own_typed (hrow.alloc tmp) r e
  rw [hc] at hh
  cases hh
 ·intro r e c hh
  cases e
  rw [show w1.heap[B]? = _ from hv1] at hh
  cases hh
set_option maxHeartbeats 8000000 in
set_option maxRecDepth 100000 in
theorem redraftlaw02_taken.go (A0 : Option Addr) (c0 : Nat) (l0 : List (S36)) (a1 : Int) (i1 i2 : Int) (w : World) (hr0 : Kd.C k36 w A0 l0.length l0) (hc0 : l0.length ≤ c0) (ha : a1 ≤ 300) (hC : span_Check.f (2 * l0.length + 1) l0 = some (i1, i2)) (zs : List (Int × Int)) (hz : SpanEach.Fine zs) (hzs : zs = if i2 = 0 then SpanEach.prs l0 else []) (hlen : i2 = 0 → l0.length ≤ 32768) :
  Calls Try.prog 42 #[.slice A0 l0.length c0, .int .i64 a1] w fun e w' => ∃ v0_ : Value, e = .returned (.tuple #[v0_, .bool true]) ∧ w'.ownsRow w.heap.size 3 1 v0_ ((SpanEach.spans zs).take a1.toNat).length (((SpanEach.spans zs).take a1.toNat).map (Value.int .i64)) ∧ Below w.heap.size w w' := by
 have HE := Aside0.mk (fun W (hb : Below w.heap.size w W) => SpanEach.Each_calls (2 * l0.length + 1) A0 c0 l0 i1 i2 W (Kd.C_below hr0 hb) hc0 hlen hC)
 rw [← hzs] at HE
 clear hr0 hc0 hC hzs hlen
 obtain ⟨i0, hi, hz0, hz1, hz2⟩ := info_parts redraftlaw02_taken.info3
 have hB0 : Below w.heap.size w ((w.alloc (.cells #[.int .i64 a1] 3)).alloc (.cells #[.slice none 0 0] 23)) := ((Below.refl _ w).alloc (Nat.le_refl _) _).alloc (by simp) _
 refine (callsIn_wide (n := 3)).1 ?_
 refine callsIn_of_wp_marks Try.func42 rfl trivial ?_ rfl
 simp only [Try.ntmps42, List.size_toArray, List.length_cons, List.length_nil, Nat.reduceAdd, Nat.reduceSub, Array.replicate_succ, Array.replicate_zero, List.push_toArray, List.append_toArray, List.nil_append, List.cons_append]
 by_cases h0 : a1 ≤ 0
 ·gi_wp2_with (refine ⟨trivial, ?_⟩; gi_at_call 27; refine (callsIn_wide.2 (HE.out _ hB0)).mono ?_; rintro e w5 ⟨sv, rfl, hlt5, hc5, hR5, hb5⟩; have b5 : Boxed w5 (w.heap.size + 1) 23 (.slice none 0 0) := (hb5.block _ (by simp)).trans (by have := World.alloc_heap_new (w.alloc (.cells #[.int .i64 a1] 3)) (.cells #[.slice none 0 0] 23); rwa [World.size_alloc] at this); have k5 : Boxed w5 w.heap.size 3 (.int .i64 a1) := (hb5.block _ (by simp; omega)).trans ((Boxed.new w 3 (.int .i64 a1)).alloc _); have b5c := b5.cell; have k5c := k5.cell; have HB5 := Aside0.mk (hB0.trans (hb5.mono hB0.size)))
  refine ⟨_, results_tmp2 rfl _ _ _, ?_⟩
  exact ⟨_, rfl, by rw [show a1.toNat = 0 from by omega]; exact World.ownsRow_nil _ _ _ _, HB5.out⟩
 ·gi_wp2_with (refine ⟨trivial, ?_⟩; gi_at_call 27; refine (callsIn_wide.2 (HE.out _ hB0)).mono ?_; rintro e w5 ⟨sv, rfl, hlt5, hc5, hR5, hb5⟩; have b5 : Boxed w5 (w.heap.size + 1) 23 (.slice none 0 0) := (hb5.block _ (by simp)).trans (by have := World.alloc_heap_new (w.alloc (.cells #[.int .i64 a1] 3)) (.cells #[.slice none 0 0] 23); rwa [World.size_alloc] at this); have k5 : Boxed w5 w.heap.size 3 (.int .i64 a1) := (hb5.block _ (by simp; omega)).trans ((Boxed.new w 3 (.int .i64 a1)).alloc _); have b5c := b5.cell; have k5c := k5.cell; have HB5 := Aside0.mk (hB0.trans (hb5.mono hB0.size)))
  have hs5 := HB5.out.size
  simp only [World.size_alloc] at hlt5
  refine wpIn_rangeFunc_ownG rfl (by omega) (gf := 55) (lb := #[.pointer (some ⟨w.heap.size + 1 + 1, 0, none⟩)]) rfl trivial (enters_of Try.func55 (by kernel_rfl) rfl)
   (SpanEach.each_stops Fence.wide 2 trivial rfl (by omega) (w.heap.size + 1 + 1) sv zs hz w5 hlt5 (by simpa using hc5) hR5) (fun h k => h.trans k) (fun W l o o' _ h hc _ => SpanEach.keeps36_b W l o o' h hc) (Below.refl _ _) (fun _ => rfl)
   (fun (pre : List Int) W => (∃ v, Boxed W (w.heap.size + 1) 23 v ∧ W.ownsRow (w.heap.size + 1) 3 1 v pre.length (pre.map (Value.int .i64)) ∧ (pre.length : Int) < a1) ∧ Below (w.heap.size + 1) w5 W)
   (fun c (pre : List Int) W => (∃ v, Boxed W (w.heap.size + 1) 23 v ∧ W.ownsRow (w.heap.size + 1) 3 1 v pre.length (pre.map (Value.int .i64)) ∧ (c = .exit 0 ∧ (pre.length : Int) = a1)) ∧ Below (w.heap.size + 1) w5 W)
   (OwnFrom.and (Own.from (holdsRow_own (w.heap.size + 1) (w.heap.size + 1) 23 3 1 (fun (pre : List Int) => pre.length) (fun pre => pre.map (Value.int .i64)) (fun pre v => (pre.length : Int) < a1)) _) (ownFrom_below (by omega) (by omega)))
   (fun c => OwnFrom.and (Own.from (holdsRow_own (w.heap.size + 1) (w.heap.size + 1) 23 3 1 (fun (pre : List Int) => pre.length) (fun pre => pre.map (Value.int .i64)) (fun pre v => c = .exit 0 ∧ (pre.length : Int) = a1)) _) (ownFrom_below (by omega) (by omega)))
   ⟨⟨_, b5, World.ownsRow_nil _ _ _ _, by simp; omega⟩, Below.refl _ _⟩
   (fun x => { tmps := #[.slice A0 l0.length c0, .int .i64 a1, undef, .pointer (some ⟨w.heap.size, 0, none⟩), .slice none 0 0, .bool false, .pointer (some ⟨w.heap.size + 1, 0, none⟩), .func (.func 55) #[] #[.pointer (some ⟨w.heap.size + 1 + 1, 0, none⟩)], .int .i64 x, .slice A0 l0.length c0, .func (.func 55) #[] #[.pointer (some ⟨w.heap.size + 1 + 1, 0, none⟩)], .func (.func 55) #[] #[.pointer (some ⟨w.heap.size + 1 + 1, 0, none⟩)], .bool false, undef, .int .i64 a1, .bool (decide (a1 ≤ 0)), undef, .func (.func 55) #[] #[.pointer (some ⟨w.heap.size + 1 + 1, 0, none⟩)], .int .i64 x, undef, undef, undef, undef, undef, undef, undef, undef, undef], defers := [] }) ?assign ?body ?done ?stop
  case assign =>
   intro l x W K hK
   gi_wp2
   exact hK
  case body =>
   rintro l pre x W ⟨⟨v, hv, hrow, hlt⟩, hB⟩ hlen
   have hc := hv.cell
   have hBs := hB.size
   gi_wp2_with (gi_at_builtin; refine wpListIn_append_own _ rfl _ _ 23 rfl (w.heap.size + 1) 3 i0 (.int .i64 0) 1 8 Try.underlying23 hi hz0 hz1 hz2 rfl (by decide) _ _ _ rfl (hrow.alloc _) ⟨W.heap.size, 0, none⟩ 1 1 [.int .i64 x] rfl rfl (cell_one_new _ _ _) (by simp [Value.oneCell']) (by simp [maxLen]; omega) (by omega) (by simp; omega) ?_; intro v' w1 hown' hgrow _; obtain ⟨g', cap', rfl⟩ := ownsRow_succ hown'; obtain ⟨hv1, hv2, hr2, hk2, hb2⟩ := hv.appended (by decide) hrow (by omega) (Nat.le_refl _) hown' hgrow; have hkp := redraftlaw02_taken.keeps (v' := .slice (some ⟨g', 0, none⟩) (pre.length + 1) cap') hv hrow hgrow hv1; have hc1 := hv1.cell; have hf1 := hv1.frozen; have hc2 := hv2.cell; have hk2c := ((hB.trans hb2).cell (p := ⟨w.heap.size, 0, none⟩) (by simp)).trans k5c)
   ·exact ⟨hk2.from _, ⟨_, hv2, by simpa using hr2, rfl, by simp only [List.length_append, List.length_cons, List.length_nil]; omega⟩, hB.trans hb2⟩
   ·exact ⟨hk2.from _, hkp, ⟨_, hv2, by simpa using hr2, by simp only [List.length_append, List.length_cons, List.length_nil]; omega⟩, hB.trans hb2⟩
  case done =>
   rintro D ys W hD rfl ⟨⟨v, hv, hrow, hlt⟩, hB⟩ hK
   have hc := hv.cell
   gi_wp2
   refine ⟨by simp, .inl ⟨_, _, rfl, run_takeDeferred hK, ?_⟩⟩
   refine ⟨_, results_tmp2 rfl _ _ _, v, rfl, ?_, HB5.out.trans ((hB.trans (belowK_b (w := w5) (n₀ := w.heap.size + 1) (by omega) W D _ _ hD hK rfl rfl)).mono (by omega))⟩
   rw [List.take_of_length_le (by omega : (SpanEach.spans zs).length ≤ a1.toNat)]
   exact own_weaken (ownsRow_putObj hrow _ hK rfl) (by omega)
  case stop =>
   rintro D c pre W hD hpre ⟨⟨v, hv, hrow, rfl, hl⟩, hB⟩ hK
   have hc := hv.cell
   gi_wp2
   refine ⟨by simp, .inl ⟨_, _, rfl, run_takeDeferred hK, ?_⟩⟩
   refine ⟨_, results_tmp2 rfl _ _ _, v, rfl, ?_, HB5.out.trans ((hB.trans (belowK_b (w := w5) (n₀ := w.heap.size + 1) (by omega) W D _ _ hD hK rfl rfl)).mono (by omega))⟩
   rw [show (SpanEach.spans zs).take a1.toNat = pre from by rw [List.prefix_iff_eq_take.1 hpre, show a1.toNat = pre.length from by omega]]
   exact own_weaken (ownsRow_putObj hrow _ hK rfl) (by omega)
theorem redraftlaw02_taken.calls (A0 : Option Addr) (c0 : Nat) (l0 : List (S36)) (a1 : Int) (r1 : List Int) (r2 : Bool) (w : World) (hr0 : Kd.C k36 w A0 l0.length l0) (hc0 : l0.length ≤ c0) (h : redraftlaw02_taken.f l0 a1 = some (r1, r2)) :
  Calls Try.prog 42 #[.slice A0 l0.length c0, .int .i64 a1] w fun e w' => ∃ v0_ : Value, e = .returned (.tuple #[v0_, .bool r2]) ∧ Kd.R (Kd.int .i64) 3 w' w.heap.size (fun _ => True) v0_ r1 ∧ Below w.heap.size w w' := by
 have H := h
 unfold redraftlaw02_taken.f at H
 clear h
 split at H
 ·rename_i ha
  cases hC : span_Check.f (2 * l0.length + 1) l0 with
  | none => rw [hC] at H; simp at H
  | some b =>
   obtain ⟨i1, i2⟩ := b
   rw [hC] at H
   simp only [Option.bind_some] at H
   have fin : ∀ zs : List (Int × Int), SpanEach.Fine zs → (zs = if i2 = 0 then SpanEach.prs l0 else []) → (i2 = 0 → l0.length ≤ 32768) → ((SpanEach.spans zs).take a1.toNat, true) = (r1, r2) → Calls Try.prog 42 #[.slice A0 l0.length c0, .int .i64 a1] w fun e w' => ∃ v0_ : Value, e = .returned (.tuple #[v0_, .bool r2]) ∧ Kd.R (Kd.int .i64) 3 w' w.heap.size (fun _ => True) v0_ r1 ∧ Below w.heap.size w w' := by
    intro zs h1 h2 h3 h4
    injection h4 with h4 h5
    subst h4 h5
    refine (redraftlaw02_taken.go A0 c0 l0 a1 i1 i2 w hr0 hc0 ha hC zs h1 h2 h3).mono ?_
    rintro e w' ⟨v, rfl, ho, hb⟩
    exact ⟨v, rfl, redraftlaw02_taken.R_of_row ho, hb⟩
   split at H
   ·rename_i hi
    split at H
    ·rename_i hg
     injection H with H
     refine fin (SpanEach.prs l0) ⟨by simpa [SpanEach.prs] using hg.1, fun k hk => ?_⟩ (by rw [if_pos hi]) (fun _ => hg.1) H
     have hk' : k < l0.length := by simpa [SpanEach.prs] using hk
     have := hg.2 l0[k] (List.getElem_mem hk')
     simpa [SpanEach.prs, List.getElem?_eq_getElem hk'] using this
    ·cases H
   ·rename_i hi
    injection H with H
    refine fin [] ⟨by simp, fun k hk => by simp at hk⟩ (by rw [if_neg hi]) (fun h => absurd h hi) ?_
    rw [← H]
    simp [SpanEach.spans]
 ·cases H
end Go.Proofs.Ytmidiifgdloojaa.Pr
end
section
namespace Go.Proofs.Ytmidiifgdloojaa.SpanEach
open Go.RowKit Go.Shelf Go.Proofs.YtmidiifgdloojaaW.PrintWords Go.Proofs.YtmidiifgdloojaaW.PrintLast Go.Proofs.YtmidiifgdloojaaW.PrintMore Go.Proofs.Ytmidiifgdloojaa.Pr Go.Proofs.Ytmidiifgdloojaa.SpanFns Go.Proofs.Ytmidiifgdloojaa.SpanMath
set_option linter.unusedSimpArgs false
set_option linter.unusedVariables false
attribute [local go_sem] Oper.semAt_some redraftlaw02_taken.eqlF
theorem run_store_func {P : Program} {w : World} (a : Addr) (m : Mode) (f : Fn) {x1 : _} {x2 : _} : (store a (.func f x1 x2) m).run P w = stored P w a (.func f x1 x2) m := run_store P w a _ m rfl
attribute [local go_sem] run_store_func
theorem add_block (a : Addr) (i : Nat) : (a.add i).block = a.block := by
  unfold Addr.add
  by_cases h : i = 0 <;> simp [h]
theorem Rd.own {β : Type} {B n : Nat} {W : World} (hn : W.heap.size ≤ n) : OwnFrom n (fun (_ : β) W' => Rd B W W') := by
  intro s X Y row h hg hr
  refine ⟨ownFrom_keepsFrom (β := β) hn s X Y row h.f hg hr, h.k.trans (Keeps36.grown hg (fun r e c hh => ?_))⟩
  obtain ⟨_, o, ho, hc⟩ := hr r e
  rw [hh] at ho
  cases ho
  cases hc
theorem good_fine {l : List S36} (h : SpanFns.Good l) : Fine (prs l) := by
  obtain ⟨h1, h2, h3⟩ := h
  refine ⟨by rw [prs_len]; exact h1, fun k hk => ?_⟩
  rw [prs_len] at hk
  rw [prs_at hk]
  have hm := List.getElem_mem hk
  exact ⟨(h3 _ hm).1, h2.2 _ hm, (h3 _ hm).2⟩
end Go.Proofs.Ytmidiifgdloojaa.SpanEach
end
section
namespace Go.Proofs.Ytmidiifgdloojaa.SpanEach
open Go.RowKit Go.Lib Go.Proofs.YtmidiifgdloojaaW.PrintWords Go.Proofs.YtmidiifgdloojaaW.PrintLast Go.Proofs.YtmidiifgdloojaaW.PrintMore Go.Proofs.Ytmidiifgdloojaa.Pr Go.Proofs.Ytmidiifgdloojaa.SpanFns
set_option linter.unusedSimpArgs false
set_option linter.unusedVariables false
theorem eqlF43 (W : World) (f : Nat) (bl : Array Value) : (binOp .eql 43 (.func (.func f) #[] bl) .nilFunc).run Try.prog W = .ok (.bool false) W := by
  unfold binOp Op.equal
  obtain ⟨d, hd⟩ : ∃ d, Op.maxDepth = d + 1 := ⟨9999, rfl⟩
  rw [hd]
  simp [Op.equalIn, run_underlying Try.underlying43, go_sem]
attribute [local go_sem] eqlF43
attribute [local go_sem] Oper.semAt_some
def LeftI (N B : Nat) (w5 W : World) : Prop := (∃ v : Int, Boxed W B 3 (.int .i64 v)) ∧ Below N w5 W
theorem leftI_own {β : Type} {N B n : Nat} {w5 : World} (hN : N ≤ w5.heap.size) (hn : N ≤ n) : OwnFrom n (fun (_ : β) W => LeftI N B w5 W) := by
  intro s W W' row h hg hr
  obtain ⟨⟨v, hv⟩, hB⟩ := h
  refine ⟨⟨v, ?_⟩, ⟨hg.os.trans hB.os, hg.tape.trans hB.tape, hg.output.trans hB.output, Nat.le_trans hB.size hg.size, fun k hk => (hg.block k (by have := hB.size; omega) (fun e => ?_)).trans (hB.block k hk)⟩⟩
  · refine (hg.block B hv.lt (fun e => ?_)).trans hv
    obtain ⟨_, o, ho, hc⟩ := hr B e.symm
    rw [show W.heap[B]? = _ from hv] at ho
    cases ho
    cases hc
  · have := (hr k e.symm).1
    omega
set_option maxHeartbeats 8000000 in
set_option maxRecDepth 100000 in
theorem asked_calls (A0 : Option Addr) (c0 : Nat) (l : List S36) (a n : Int) (w : World) (hr0 : Kd.C k36 w A0 l.length l) (hc0 : l.length ≤ c0) (hG : SpanFns.Good l) (hn : n ≤ 9223372036854775807) :
    Calls Try.prog 44 #[.slice A0 l.length c0, .int .i64 a, .int .i64 n] w fun e w' => e = .returned (.tuple #[]) ∧ Below w.heap.size w w' := by
  have hs := hG.short
  obtain ⟨k1, hk1⟩ := (Check_ev hs).rounds
  obtain ⟨k2, hk2⟩ := (Count_evA hs).rounds
  obtain ⟨k3, hk3⟩ := (Rank_ev hs a).rounds
  obtain ⟨k4, hk4⟩ := (Nth_ev hs n hn).rounds
  have f1 := fun W (hB : Below w.heap.size w W) => span_Check.calls k1 A0 c0 l (checkS l).1 (checkS l).2 W (Kd.C_below hr0 hB) hc0 hk1
  have f2 := fun W (hB : Below w.heap.size w W) => span_Count.calls k2 A0 c0 l (countA l).1 (countA l).2 W (Kd.C_below hr0 hB) hc0 hk2
  have f3 := fun W (hB : Below w.heap.size w W) => span_Rank.calls k3 A0 c0 l a (rankA l a).1 (rankA l a).2 W (Kd.C_below hr0 hB) hc0 hk3
  have f4 := fun W (hB : Below w.heap.size w W) => span_Nth.calls k4 A0 c0 l n (nthA l n).1 (nthA l n).2 W (Kd.C_below hr0 hB) hc0 hk4
  have f5 := fun W (hB : Below w.heap.size w W) => Each_calls k1 A0 c0 l (checkS l).1 (checkS l).2 W (Kd.C_below hr0 hB) hc0 (fun _ => hG.1) hk1
  rw [if_pos (checkS_good.2 hG)] at f5
  have hz : Fine (prs l) := good_fine hG
  obtain ⟨zs, hzs⟩ : ∃ zs, zs = prs l := ⟨_, rfl⟩
  rw [← hzs] at f5 hz
  generalize checkS l = q1 at *
  generalize countA l = q2 at *
  generalize rankA l a = q3 at *
  generalize nthA l n = q4 at *
  clear hk1 hk2 hk3 hk4 hr0 hc0 hG hs hzs hn
  refine (callsIn_wide (n := 3)).1 ?_
  refine callsIn_of_wp_marks Try.func44 rfl trivial ?_ rfl
  simp only [Try.ntmps44, List.size_toArray, List.length_cons, List.length_nil, Nat.reduceAdd, Nat.reduceSub, Array.replicate_succ, Array.replicate_zero, List.push_toArray, List.append_toArray, List.nil_append, List.cons_append]
  gi_wp2_with (first
    | (refine ⟨trivial, ?_⟩; gi_at_call 51; refine (callsIn_wide.2 (f1 _ (Below.refl _ _))).mono ?_; rintro e w1 ⟨rfl, hb1⟩; have HB1 := Lib.hid hb1; clear f1 hb1)
    | (refine ⟨trivial, ?_⟩; gi_at_call 33; refine (callsIn_wide.2 (f2 _ HB1.out)).mono ?_; rintro e w2 ⟨rfl, hb2⟩; have HB2 := Lib.hid (HB1.out.trans (hb2.mono HB1.out.size)); clear f2 hb2 HB1)
    | (refine ⟨trivial, ?_⟩; gi_at_call 34; refine (callsIn_wide.2 (f3 _ HB2.out)).mono ?_; rintro e w3 ⟨rfl, hb3⟩; have HB3 := Lib.hid (HB2.out.trans (hb3.mono HB2.out.size)); clear f3 hb3 HB2)
    | (refine ⟨trivial, ?_⟩; gi_at_call 35; refine (callsIn_wide.2 (f4 _ HB3.out)).mono ?_; rintro e w4 ⟨rfl, hb4⟩; have HB4 := Lib.hid (HB3.out.trans (hb4.mono HB3.out.size)); clear f4 hb4 HB3)
    | (refine ⟨trivial, ?_⟩; gi_at_call 27; refine (callsIn_wide.2 (f5 _ HB4.out)).mono ?_; rintro e w5 ⟨sv, rfl, hlt5, hc5, hR5, hb5⟩; have HB5 := Lib.hid (HB4.out.trans (hb5.mono HB4.out.size)); clear f5 hb5))
  obtain ⟨P, hP⟩ : ∃ P, w4.heap.size = P := ⟨_, rfl⟩
  rw [hP] at hlt5 hc5 ⊢
  have hle5 : w.heap.size ≤ w5.heap.size := HB5.out.size
  obtain ⟨W6, hW6⟩ : ∃ W, w5.alloc (.cells #[.int .i64 50] 3) = W := ⟨_, rfl⟩
  have b6 : Boxed W6 w5.heap.size 3 (.int .i64 50) := by rw [← hW6]; exact World.alloc_heap_new w5 _
  have hb6 : Below w5.heap.size w5 W6 := by rw [← hW6]; exact (Below.refl _ w5).alloc (Nat.le_refl _) _
  have hc6 : W6.cell? ⟨P, 0, none⟩ = some sv := (hb6.cell (p := ⟨P, 0, none⟩) hlt5).trans hc5
  have hR6 : Ranges W6 sv zs := hR5.below hb6 rfl
  have hs6 : W6.heap.size = w5.heap.size + 1 := by rw [← hW6]; exact World.size_alloc _ _
  obtain ⟨N, hN⟩ : ∃ N, w5.heap.size = N := ⟨_, rfl⟩
  have HB6 := Lib.hid (HB5.out.trans (hb6.mono hle5))
  rw [hN] at b6 hs6 hle5 hlt5
  rw [hW6, hN]
  clear hc5 hR5 hb6 hW6 HB5 hP
  refine wpIn_rangeFunc_ownG rfl (by omega) (gf := 55) (lb := #[.pointer (some ⟨P, 0, none⟩)]) rfl trivial (enters_of Try.func55 (by kernel_rfl) rfl)
    (each_stops Fence.wide 2 trivial rfl (by omega) P sv zs hz W6 (by omega) hc6 hR6) (fun h k => h.trans k) (fun W l o o' _ h hc _ => keeps36_b W l o o' h hc) (Below.refl _ _) (fun _ => rfl)
    (fun (pre : List Int) W => LeftI N N W6 W) (fun c (pre : List Int) W => c = .exit 0 ∧ LeftI N N W6 W)
    (leftI_own (by omega) (by omega)) (fun c => ?ownx) ⟨⟨_, b6⟩, Below.refl _ _⟩
    (fun x => { tmps := #[.slice A0 l.length c0, .int .i64 a, .int .i64 n, undef, undef, undef, .func (.func 55) #[] #[.pointer (some ⟨P, 0, none⟩)], .pointer (some ⟨N, 0, none⟩), .slice A0 l.length c0, .tuple #[.int .i64 q1.1, .int .i64 q1.2], .slice A0 l.length c0, .tuple #[.int .i64 q2.1, .int .i64 q2.2], .slice A0 l.length c0, .int .i64 a, .tuple #[.int .i64 q3.1, .int .i64 q3.2], .slice A0 l.length c0, .int .i64 n, .tuple #[.int .i64 q4.1, .int .i64 q4.2], .slice A0 l.length c0, .func (.func 55) #[] #[.pointer (some ⟨P, 0, none⟩)], .func (.func 55) #[] #[.pointer (some ⟨P, 0, none⟩)], .bool false, .func (.func 55) #[] #[.pointer (some ⟨P, 0, none⟩)], .int .i64 x, undef, undef, undef, undef], defers := [] }) ?assign ?body ?done ?stop
  case ownx =>
    intro s W W' row h hg hr
    exact ⟨h.1, leftI_own (N := N) (B := N) (n := W6.heap.size) (w5 := W6) (β := List Int) (by omega) (by omega) s W W' row h.2 hg hr⟩
  case assign =>
    intro l x W K hK
    gi_wp2
    simpa using hK
  case body =>
    rintro l pre x W ⟨⟨v, hv⟩, hB⟩ hlen
    have hc := hv.cell
    have hf := hv.frozen
    have r1 := Rd.set (N + 1) hv (by decide) (.int .i64 (wrap64 (v - 1)))
    rw [← hs6] at r1
    have hv2 := hv.set (.int .i64 (wrap64 (v - 1)))
    have hc2 := hv2.cell
    have hB2 := hB.setCell (p := ⟨N, 0, none⟩) (Nat.le_refl _) (.int .i64 (wrap64 (v - 1)))
    obtain ⟨u, hu⟩ : ∃ u, wrap64 (v - 1) = u := ⟨_, rfl⟩
    rw [hu] at r1 hv2 hc2 hB2
    by_cases c : u < 1
    · have d : decide (u < 1) = true := decide_eq_true c
      gi_wp2
      exact ⟨r1.f, rfl, ⟨_, hv2⟩, hB2⟩
    · have d : decide (u < 1) = false := decide_eq_false c
      gi_wp2
      exact ⟨hs6 ▸ r1.f, r1.k, ⟨_, hv2⟩, hB2⟩
  case done =>
    rintro D ys W hD rfl ⟨⟨v, hv⟩, hB⟩ hK
    gi_wp2
    refine ⟨by simp, .inl ⟨_, _, rfl, run_takeDeferred hK, ?_⟩⟩
    refine ⟨_, results_none rfl _ _ _, rfl, HB6.out.trans ((hB.trans (belowK_b (w := W6) (n₀ := N) (by omega) W D _ _ hD hK rfl rfl)).mono (by omega))⟩
  case stop =>
    rintro D c pre W hD hpre ⟨rfl, ⟨v, hv⟩, hB⟩ hK
    gi_wp2
    refine ⟨by simp, .inl ⟨_, _, rfl, run_takeDeferred hK, ?_⟩⟩
    refine ⟨_, results_none rfl _ _ _, rfl, HB6.out.trans ((hB.trans (belowK_b (w := W6) (n₀ := N) (by omega) W D _ _ hD hK rfl rfl)).mono (by omega))⟩
end Go.Proofs.Ytmidiifgdloojaa.SpanEach
end
section
namespace Go.Proofs.Ytmidiifgdloojaa.SpanEach
open Go.RowKit Go.Lib Go.Proofs.YtmidiifgdloojaaW.PrintWords Go.Proofs.YtmidiifgdloojaaW.PrintLast Go.Proofs.YtmidiifgdloojaaW.PrintMore Go.Proofs.Ytmidiifgdloojaa.Pr Go.Proofs.Ytmidiifgdloojaa.SpanFns
set_option linter.unusedSimpArgs false
set_option linter.unusedVariables false
section
variable {W W' : World} {v : Value} {l m : List S36} {S S' K : Nat → Prop} {A : Option Addr} {c : Nat}
theorem RgAt.lt_ (h : RgAt W v l S) : RgAt W v l (fun g => S g ∧ g < W.heap.size) := by
  obtain ⟨A, c, hv, hl, hc⟩ := h
  refine ⟨A, c, hv, hl, fun i hi => ?_⟩
  obtain ⟨g, cur, hA, hS, hg, hx⟩ := hc i hi
  exact ⟨g, cur, hA, ⟨hS, (Array.getElem?_eq_some_iff.1 hg).1⟩, hg, hx⟩
theorem RgAt.take (h : RgAt W (.slice A (l ++ m).length c) (l ++ m) S) : RgAt W (.slice A l.length c) l S := by
  obtain ⟨A', c', hv, hl, hc⟩ := h
  injection hv with hA hn hc'
  subst hA hc'
  refine ⟨A, c, rfl, by rw [List.length_append] at hl; omega, fun i hi => ?_⟩
  obtain ⟨g, cur, hA, hS, hg, hx⟩ := hc i (by rw [List.length_append]; omega)
  rw [List.getElem_append_left hi] at hx
  exact ⟨g, cur, hA, hS, hg, hx⟩
theorem RgAt.get (h : RgAt W (.slice A l.length c) l S) (hb : l.length ≤ 9223372036854775807) : l.length ≤ c ∧ Kd.C k36 W A l.length l := by
  obtain ⟨A', c', hv, hl, hC⟩ := h.reads hb
  injection hv with hA hn hc'
  subst hA hc'
  exact ⟨hl, hC⟩
end
structure Base (w W : World) (n : Nat) (o : Obj) (fs : List (Option Addr × Nat × List S36)) : Prop where
  bel : Below w.heap.size w W
  le : n ≤ W.heap.size
  lt : w.heap.size < n
  box : W.heap[w.heap.size]? = some o
  rd : ∀ x ∈ fs, RgAt W (.slice x.1 x.2.2.length x.2.1) x.2.2 (fun g => w.heap.size ≤ g ∧ g < n)
section
variable {w W W' : World} {n : Nat} {o : Obj} {fs : List (Option Addr × Nat × List S36)} {A : Option Addr} {c : Nat} {l : List S36}
theorem Base.only {K : Nat → Prop} (h : Base w W n o fs) (ho : Only K W W') (hK : ∀ k, K k → n ≤ k) : Base w W' n o fs :=
  ⟨h.bel.trans (ho.below h.bel.size (fun k hk => by have := hK k hk; have := h.lt; omega)), Nat.le_trans h.le ho.size, h.lt,
    (ho.block _ (Array.getElem?_eq_some_iff.1 h.box).1 (fun hk => by have := hK _ hk; have := h.lt; omega)).trans h.box,
    fun x hx => (h.rd x hx).only ho (fun k h1 _ h2 => by have := hK k h2; omega)⟩
theorem Base.below (h : Base w W n o fs) (hb : Below W.heap.size W W') : Base w W' n o fs := h.only (K := fun _ => False) (Only.of_below hb rfl) (fun _ hk => hk.elim)
theorem Base.grow (h : Base w W n o fs) : Base w W W.heap.size o fs :=
  ⟨h.bel, Nat.le_refl _, Nat.lt_of_lt_of_le h.lt h.le, h.box, fun x hx => (h.rd x hx).mono (fun k hk => ⟨hk.1, by have := h.le; omega⟩)⟩
theorem Base.add {S : Nat → Prop} (h : Base w W W.heap.size o fs) (hr : RgAt W (.slice A l.length c) l S) (hS : ∀ g, S g → w.heap.size ≤ g) : Base w W W.heap.size o ((A, c, l) :: fs) :=
  ⟨h.bel, h.le, h.lt, h.box, fun x hx => by
    rcases List.mem_cons.1 hx with rfl | hx
    · exact hr.lt_.mono (fun k hk => ⟨hS k hk.1, hk.2⟩)
    · exact h.rd x hx⟩
theorem Base.new {ok : Nat → Prop} (h : Base w W n o fs) (hb : Below W.heap.size W W') (hR : Kd.R k36 36 W' W.heap.size ok (.slice A l.length c) l) : Base w W' W'.heap.size o ((A, c, l) :: fs) :=
  (h.below hb).grow.add (S := fun g => w.heap.size ≤ g) (RgAt.of_row (own36 hR) (fun g hg => by have := (row_at (own36 hR) hg).1; have := h.bel.size; omega)) (fun g hg => hg)
theorem Base.get (h : Base w W n o fs) {A : Option Addr} {c : Nat} {l : List S36} (hm : (A, c, l) ∈ fs) (hb : l.length ≤ 9223372036854775807) : l.length ≤ c ∧ Kd.C k36 W A l.length l := (h.rd _ hm).get hb
theorem Base.roomy {g : Nat} (h : Base w W n o fs) (hb : Below W.heap.size W W') (hR : W'.ownsRow W.heap.size 36 2 (.slice (some ⟨g, 0, none⟩) (l.length + 3) c) (l.length + 3) (cells36 (l ++ tail3))) :
    Base w W' W'.heap.size o ((some ⟨g, 0, none⟩, c, l ++ tail3) :: (some ⟨g, 0, none⟩, c, l) :: fs) := by
  have e : l.length + 3 = (l ++ tail3).length := by rw [List.length_append]; rfl
  rw [e] at hR
  have h1 : RgAt W' (.slice (some ⟨g, 0, none⟩) (l ++ tail3).length c) (l ++ tail3) (fun g => w.heap.size ≤ g) := RgAt.of_row hR (fun g hg => by have := (row_at hR hg).1; have := h.bel.size; omega)
  exact ((h.below hb).grow.add h1.take (fun g hg => hg)).add h1 (fun g hg => hg)
end
theorem same_true {l : List S36} (hs : Short l) {A A' : Option Addr} {c c' : Nat} (W : World) (h1 : l.length ≤ c ∧ Kd.C k36 W A l.length l) (h2 : l.length ≤ c' ∧ Kd.C k36 W A' l.length l) :
    Calls Try.prog 25 #[.slice A l.length c, .slice A' l.length c'] W fun e w' => e = .returned (.bool true) ∧ Below W.heap.size W w' := by
  refine (redraftlaw02_same.calls (l.length + 1) A c l A' c' l true W h1.2 h1.1 h2.2 h2.1 ?_).mono ?_
  · have := same_f (b := l) hs (Nat.le_refl (l.length + 1))
    simpa using this
  · rintro e w' ⟨he, nd, rfl⟩
    exact ⟨he, pw_below_drewN (Below.refl W.heap.size W) nd⟩
end Go.Proofs.Ytmidiifgdloojaa.SpanEach
end
section
namespace Go.Proofs.Ytmidiifgdloojaa.SpanEach
open Go.RowKit Go.Lib Go.Proofs.YtmidiifgdloojaaW.PrintWords Go.Proofs.YtmidiifgdloojaaW.PrintLast Go.Proofs.YtmidiifgdloojaaW.PrintMore Go.Proofs.Ytmidiifgdloojaa.Pr Go.Proofs.Ytmidiifgdloojaa.SpanFns
set_option linter.unusedSimpArgs false
set_option linter.unusedVariables false
theorem row_form {W : World} {base e s n : Nat} {v : Value} {xs : List Value} (h : W.ownsRow base e s v n xs) : ∃ A c, v = .slice A n c := by
  rcases h.2 with ⟨hv, h0⟩ | ⟨g, cap, cur, hv, _⟩
  · exact ⟨none, 0, by rw [hv, h0]⟩
  · exact ⟨_, _, hv⟩
theorem row_reads {W : World} {base : Nat} {v : Value} {l : List S36} (h : W.ownsRow base 36 2 v l.length (cells36 l)) (hs : Short l) : ∃ A c, v = .slice A l.length c ∧ l.length ≤ c ∧ Kd.C k36 W A l.length l :=
  (RgAt.of_row (S := fun _ => True) h (fun _ _ => trivial)).reads (by have : l.length < 8796093022208 := hs; omega)
theorem Got.at_ {W : World} {B gg : Nat} {vs : List Value} {ls : List (List S36)} (h : Got W B gg vs ls) {i : Nat} {l : List S36} (hl : ls[i]? = some l) (hs : Short l) : ∃ A c, vs[i]? = some (.slice A l.length c) ∧ W.cell? ⟨gg, i, none⟩ = some (.slice A l.length c) ∧ l.length ≤ c ∧ Kd.C k36 W A l.length l := by
  have hlt := (List.getElem?_eq_some_iff.1 hl).1
  have hlv : i < vs.length := by rw [h.n]; exact hlt
  have hv : vs[i]? = some (vs[i]'hlv) := List.getElem?_eq_getElem hlv
  obtain ⟨A, c, e, h1, h2⟩ := row_reads (h.own i _ l hv hl) hs
  rw [e] at hv
  refine ⟨A, c, hv, ?_, h1, h2⟩
  rw [cell_of' h.row]
  simpa using hv
structure WantAt (W0 W : World) (ls : List (List S36)) (v : Value) (ws : List Value) (m : Nat) : Prop where
  bel : Below W0.heap.size W0 W
  n : ws.length = m
  row : W.ownsRow W0.heap.size 22 1 v m ws
  rd : ∀ (i : Nat) (u : Value) (l : List S36), ws[i]? = some u → ls[i]? = some l → RgAt W u l (fun g => W0.heap.size ≤ g)
theorem WantAt.start (W0 : World) (ls : List (List S36)) : WantAt W0 W0 ls (.slice none 0 0) [] 0 :=
  ⟨Below.refl _ _, rfl, World.ownsRow_nil _ _ _ _, fun i u l h => by simp at h⟩
theorem WantAt.step {W0 W w1 w2 : World} {ls : List (List S36)} {v v' u : Value} {ws : List Value} {m : Nat} {l : List S36} {o : Obj} {ok : Nat → Prop} (h : WantAt W0 W ls v ws m) (hb : Below W.heap.size W w1) (hl : ls[m]? = some l) (hR : Kd.R k36 36 w1 W.heap.size ok u l)
    (hown : w2.ownsRow W0.heap.size 22 1 v' (m + 1) (ws ++ [u])) (hg : (w1.alloc o).grownBy w2 v.ownBlock) : WantAt W0 w2 ls v' (ws ++ [u]) (m + 1) := by
  have h1 := h.row
  have hv1 : w1.ownsRow W0.heap.size 22 1 v m ws := row_move h.row (fun g hg => hb.block g (row_at h.row hg).2.1)
  have ho : Only (fun k => v.ownBlock = some k) w1 w2 := (Only.alloc _ w1 o).trans (Only.grown hg)
  have hk : ∀ k, (v.ownBlock = some k) → ∀ cur, w1.heap[k]? ≠ some (.cells cur 36 (0, 0)) := by
    intro k hk cur e
    obtain ⟨_, _, cur', e'⟩ := row_at hv1 hk
    rw [e'] at e
    cases e
  have hs : W0.heap.size ≤ W.heap.size := h.bel.size
  refine ⟨(h.bel.trans (hb.mono hs)).trans (ho.below (Nat.le_trans hs hb.size) (fun k hk => (row_at h.row hk).1)), by simp [h.n], hown, fun i x y h2 h3 => ?_⟩
  by_cases c : i < m
  · rw [List.getElem?_append_left (by rw [h.n]; exact c)] at h2
    exact ((h.rd i x y h2 h3).below hb).kept ho (fun k _ h5 _ => hk k h5)
  · have hi := (List.getElem?_eq_some_iff.1 h2).1
    rw [List.length_append, h.n] at hi
    simp at hi
    obtain rfl : i = m := by omega
    rw [hl] at h3
    injection h3 with h3
    subst h3
    rw [List.getElem?_append_right (by rw [h.n]; exact Nat.le_refl _), h.n] at h2
    simp at h2
    subst h2
    exact (RgAt.of_row (S := fun g => W0.heap.size ≤ g) (own36 hR) (fun g hg => by have := (row_at (own36 hR) hg).1; omega)).kept ho (fun k _ h5 _ => hk k h5)
def mks (k n : Nat) : List S36 := (List.range n).map (mrk k)
theorem mks_len (k n : Nat) : (mks k n).length = n := by simp [mks]
theorem mks_succ (k n : Nat) : mks k (n + 1) = mks k n ++ [mrk k n] := by simp [mks, List.range_succ]
theorem mks_get (k n i : Nat) (h : i < n) : (mks k n)[i]'(by rw [mks_len]; exact h) = mrk k i := by simp [mks]
def overS (k : Nat) (l : List S36) (j : Nat) : List S36 := mks k j ++ l.drop j
theorem overS_zero (k : Nat) (l : List S36) : overS k l 0 = l := by simp [overS, mks]
theorem overS_all (k : Nat) (l : List S36) : overS k l l.length = mks k l.length := by simp [overS]
theorem cells36_set (x y : List S36) (r : S36) (a b : Int) : ((cells36 (x ++ r :: y)).set (x.length * 2) (.int .i64 a)).set (x.length * 2 + 1) (.int .i64 b) = cells36 (x ++ ⟨a, b⟩ :: y) := by
  have h : (cells36 x).length = x.length * 2 := cells36_len x
  have e : ∀ r : S36, cells36 (x ++ r :: y) = cells36 x ++ (.int .i64 r.f0 :: .int .i64 r.f1 :: cells36 y) := by intro r; rw [cells36_app]; rfl
  rw [e, e, List.set_append_right _ _ (by omega), h, Nat.sub_self, List.set_cons_zero, List.set_append_right _ _ (by omega), h, show x.length * 2 + 1 - x.length * 2 = 1 by omega]
  rfl
theorem overS_set (k : Nat) {l : List S36} {j : Nat} (h : j < l.length) : ((cells36 (overS k l j)).set (j * 2) (.int .i64 (mrk k j).f0)).set (j * 2 + 1) (.int .i64 (mrk k j).f1) = cells36 (overS k l (j + 1)) := by
  have := cells36_set (mks k j) (l.drop (j + 1)) l[j] (mrk k j).f0 (mrk k j).f1
  rw [mks_len] at this
  unfold overS
  rw [List.drop_eq_getElem_cons h, this, mks_succ, List.append_assoc]
  rfl
theorem row36_store {W : World} {base n g cap : Nat} {xs : List Value} (h : W.ownsRow base 36 2 (.slice (some ⟨g, 0, none⟩) n cap) n xs) {i : Nat} (hi : i < n) (a b : Value) :
    (∃ v, W.cell? ⟨g, i * 2, none⟩ = some v) ∧ W.frozen? ⟨g, i * 2, none⟩ = false ∧ (∃ v, (W.setCell ⟨g, i * 2, none⟩ a).cell? ⟨g, i * 2 + 1, none⟩ = some v) ∧ (W.setCell ⟨g, i * 2, none⟩ a).frozen? ⟨g, i * 2 + 1, none⟩ = false ∧
      ((W.setCell ⟨g, i * 2, none⟩ a).setCell ⟨g, i * 2 + 1, none⟩ b).ownsRow base 36 2 (.slice (some ⟨g, 0, none⟩) n cap) n ((xs.set (i * 2) a).set (i * 2 + 1) b) ∧ Only (fun k => k = g) W ((W.setCell ⟨g, i * 2, none⟩ a).setCell ⟨g, i * 2 + 1, none⟩ b) := by
  have hx := h.1
  obtain ⟨h1, _⟩ := h.stored (i * 2) a
  obtain ⟨h2, _⟩ := h1.stored (i * 2 + 1) b
  refine ⟨⟨_, (h.cellAt (i * 2) (by omega)).trans (List.getElem?_eq_getElem (by omega))⟩, h.frozenAt _, ⟨_, (h1.cellAt (i * 2 + 1) (by omega)).trans (List.getElem?_eq_getElem (by rw [List.length_set]; omega))⟩, h1.frozenAt _, h2, (Only.setCell (S := fun k => k = g) W ⟨g, i * 2, none⟩ a rfl).trans (Only.setCell (S := fun k => k = g) _ ⟨g, i * 2 + 1, none⟩ b rfl)⟩
structure MarksAt (W2 W : World) (B1 : Nat) (vs : List Value) (ls : List (List S36)) (k : Nat) (v : Value) (us : List Value) : Prop where
  only : Only (fun g => (∃ u ∈ vs, u.ownBlock = some g) ∨ W2.heap.size ≤ g) W2 W
  n : us.length = k
  row : W.ownsRow W2.heap.size 22 1 v k us
  done : ∀ (i : Nat) (x u : Value) (l : List S36), i < k → vs[i]? = some x → ls[i]? = some l → us[i]? = some u → RgAt W x (mks i l.length) (fun g => x.ownBlock = some g) ∧ RgAt W u (mks i (l.length + 1)) (fun g => x.ownBlock = some g ∨ W2.heap.size ≤ g)
  todo : ∀ (i : Nat) (x : Value) (l : List S36), k ≤ i → vs[i]? = some x → ls[i]? = some l → W.ownsRow B1 36 2 x l.length (cells36 l)
section
variable {W2 W wi wA w2 wB w4 : World} {B1 k : Nat} {vs us : List Value} {ls : List (List S36)} {v vk v' v4 : Value} {l : List S36}
theorem MarksAt.start (h : Pend W2 B1 vs ls) : MarksAt W2 W2 B1 vs ls 0 (.slice none 0 0) [] :=
  ⟨Only.refl _ _, rfl, World.ownsRow_nil _ _ _ _, fun i x u l hi => by omega, fun i x l _ h1 h2 => h.own i x l h1 h2⟩
theorem MarksAt.step (P : Pend W2 B1 vs ls) (h : MarksAt W2 W B1 vs ls k v us) (hv : vs[k]? = some vk) (hl : ls[k]? = some l)
    (hO1 : Only (fun g => vk.ownBlock = some g ∨ W.heap.size ≤ g) W wi) (hrow : wi.ownsRow B1 36 2 vk l.length (cells36 (mks k l.length)))
    (hbA : Below wi.heap.size wi wA) (H2 : w2.ownsRow B1 36 2 v' (l.length + 1) (cells36 (mks k l.length) ++ cells36 [mrk k l.length])) (hg2 : wA.grownBy w2 vk.ownBlock) (hl2 : v'.ownBlock = vk.ownBlock ∨ v'.ownBlock = some wA.heap.size)
    (he2 : ∀ g, vk.ownBlock = some g → ∃ cur, w2.heap[g]? = some (.cells cur 36 (0, 0)) ∧ ∀ (j : Nat) (u : Value), (cells36 (mks k l.length))[j]? = some u → cur[j]? = some u)
    (hbB : Below w2.heap.size w2 wB) (H4 : w4.ownsRow W2.heap.size 22 1 v4 (k + 1) (us ++ [v'])) (hg4 : wB.grownBy w4 v.ownBlock) : MarksAt W2 w4 B1 vs ls (k + 1) v4 (us ++ [v']) := by
  have hmem := List.mem_of_getElem? hv
  have hlt : ∀ {x : Value}, x ∈ vs → ∀ g, x.ownBlock = some g → g < W2.heap.size := fun hx g hg => (P.lt hx hg).2.1
  have hsW : W2.heap.size ≤ W.heap.size := h.only.size
  have hsi : W.heap.size ≤ wi.heap.size := hO1.size
  have hsA : wi.heap.size ≤ wA.heap.size := hbA.size
  have oA : Only (fun g => vk.ownBlock = some g ∨ W.heap.size ≤ g) W wA := hO1.trans (Only.of_below hbA rfl)
  have o2 : Only (fun g => vk.ownBlock = some g) wA w2 := Only.grown hg2
  have oB : Only (fun g => vk.ownBlock = some g) wA wB := o2.trans (Only.of_below hbB rfl)
  have hs2 : wA.heap.size ≤ w2.heap.size := o2.size
  have hsB : w2.heap.size ≤ wB.heap.size := hbB.size
  have oWB : Only (fun g => vk.ownBlock = some g ∨ W.heap.size ≤ g) W wB := oA.trans (oB.mono (fun g hg => .inl hg))
  have hvB : wB.ownsRow W2.heap.size 22 1 v k us := row_move h.row (fun g hg => by
    obtain ⟨h1, h2, _⟩ := row_at h.row hg
    exact oWB.block g h2 (fun e => by
      rcases e with e | e
      · have := hlt hmem g e; omega
      · omega))
  have o4 : Only (fun g => v.ownBlock = some g) wB w4 := Only.grown hg4
  have hty : ∀ g, v.ownBlock = some g → ∀ cur, wB.heap[g]? ≠ some (.cells cur 36 (0, 0)) := by
    intro g hg cur e
    obtain ⟨_, _, cur', e'⟩ := row_at hvB hg
    rw [e'] at e
    cases e
  have hv0 : ∀ g, v.ownBlock = some g → W2.heap.size ≤ g := fun g hg => (row_at h.row hg).1
  have keep : ∀ {x : Value} {m : List S36} {S : Nat → Prop}, RgAt W x m S → (∀ g, S g → vk.ownBlock ≠ some g) → RgAt w4 x m S := by
    intro x m S hx hS
    refine (hx.only oWB (fun g h1 h2 h3 => ?_)).kept o4 (fun g _ h2 _ => hty g h2)
    rcases h3 with h3 | h3
    · exact hS g h1 h3
    · omega
  refine ⟨?_, by simp [h.n], H4, fun i x u m hi h1 h2 h3 => ?_, fun i x m hi h1 h2 => ?_⟩
  · refine h.only.trans ⟨o4.os.trans oWB.os, o4.tape.trans oWB.tape, o4.output.trans oWB.output, Nat.le_trans oWB.size o4.size, fun g hg hn => ?_⟩
    refine (o4.block g (Nat.lt_of_lt_of_le hg oWB.size) (fun e => hn (.inr (hv0 g e)))).trans (oWB.block g hg (fun e => hn ?_))
    rcases e with e | e
    · exact .inl ⟨vk, hmem, e⟩
    · exact .inr (by omega)
  · by_cases c : i < k
    · rw [List.getElem?_append_left (by rw [h.n]; exact c)] at h3
      obtain ⟨r1, r2⟩ := h.done i x u m c h1 h2 h3
      refine ⟨keep r1 (fun g hg e => P.dis i k x vk c h1 hv g hg e), keep r2 (fun g hg e => ?_)⟩
      rcases hg with hg | hg
      · exact P.dis i k x vk c h1 hv g hg e
      · have := hlt hmem g e; omega
    · obtain rfl : i = k := by omega
      rw [hv] at h1
      injection h1 with h1
      subst h1
      rw [hl] at h2
      injection h2 with h2
      subst h2
      rw [List.getElem?_append_right (by rw [h.n]; exact Nat.le_refl _), h.n] at h3
      simp at h3
      subst h3
      constructor
      · have r : RgAt w2 vk (mks i l.length) (fun g => vk.ownBlock = some g) := by
          rcases hrow.2 with ⟨hv0, h0⟩ | ⟨g, cap, cur, hv0, _, _, hcap, _⟩
          · rw [hv0, h0]
            exact ⟨none, 0, rfl, Nat.le_refl _, fun i hi => by simp [mks] at hi⟩
          · obtain ⟨cur', hg', hx'⟩ := he2 g (by rw [hv0]; rfl)
            have := RgAt.of_cells (W := w2) (g := g) (c := cap) (l := mks i l.length) (S := fun g => vk.ownBlock = some g) (by rw [hv0]; rfl) hg' (by rw [mks_len]; exact hcap) hx'
            rw [mks_len] at this
            rw [hv0] at this ⊢
            exact this
        exact (r.below hbB).kept o4 (fun g _ h2 _ => hty g h2)
      · have r : RgAt w2 v' (mks i (l.length + 1)) (fun g => vk.ownBlock = some g ∨ W2.heap.size ≤ g) := by
          refine RgAt.of_row (base := B1) ?_ (fun g hg => ?_)
          · rw [mks_len, mks_succ, cells36_app]
            exact H2
          · rcases hl2 with h5 | h5
            · exact .inl (h5 ▸ hg)
            · right
              rw [h5] at hg
              injection hg with hg
              omega
        exact (r.below hbB).kept o4 (fun g _ h2 _ => hty g h2)
  · have hxm := List.mem_of_getElem? h1
    refine row_move (h.todo i x m (by omega) h1 h2) (fun g hg => ?_)
    have hgl := hlt hxm g hg
    refine (o4.block g (by have := oWB.size; omega) (fun e => by have := hv0 g e; omega)).trans (oWB.block g (by omega) (fun e => ?_))
    rcases e with e | e
    · exact P.dis k i vk x (by omega) hv h1 g e hg
    · omega
theorem MarksAt.gg {gg : Nat} (G : Got W2 B1 gg vs ls) (h : MarksAt W2 W B1 vs ls k v us) : W.heap[gg]? = some (.cells vs.toArray 22 (0, 0)) ∧ gg < W2.heap.size := by
  have hlt := (Array.getElem?_eq_some_iff.1 G.row).1
  refine ⟨(h.only.block gg hlt (fun e => ?_)).trans G.row, hlt⟩
  rcases e with ⟨u, hu, hg⟩ | e
  · obtain ⟨_, _, cur, hc⟩ := G.toPend.lt hu hg
    rw [G.row] at hc
    cases hc
  · omega
end
end Go.Proofs.Ytmidiifgdloojaa.SpanEach
end
section
namespace Go.Proofs.Ytmidiifgdloojaa.SpanEach
open Go.RowKit Go.Lib Go.Proofs.YtmidiifgdloojaaW.PrintWords Go.Proofs.YtmidiifgdloojaaW.PrintLast Go.Proofs.YtmidiifgdloojaaW.PrintMore Go.Proofs.Ytmidiifgdloojaa.Pr Go.Proofs.Ytmidiifgdloojaa.SpanFns
set_option linter.unusedSimpArgs false
set_option linter.unusedVariables false
theorem row_some {W : World} {base e s n : Nat} {A : Option Addr} {c : Nat} {xs : List Value} (h : W.ownsRow base e s (.slice A n c) n xs) (h0 : 0 < n) : ∃ g, A = some ⟨g, 0, none⟩ := by
  rcases h.2 with ⟨_, h1⟩ | ⟨g, cap, cur, hv, _⟩
  · omega
  · injection hv with hv _ _
    exact ⟨g, hv⟩
theorem RgAt.form {W : World} {v : Value} {l : List S36} {S : Nat → Prop} (h : RgAt W v l S) : ∃ A c, v = .slice A l.length c := by
  obtain ⟨A, c, hv, _⟩ := h
  exact ⟨A, c, hv⟩
theorem RgAt.mark {W : World} {A : Option Addr} {m c k n : Nat} {S : Nat → Prop} (h : RgAt W (.slice A m c) (mks k n) S) {j : Nat} (hj : j < n) : ∃ g, A = some ⟨g, 0, none⟩ ∧ W.cell? ⟨g, j * 2, none⟩ = some (.int .i64 (mrk k j).f0) ∧ W.cell? ⟨g, j * 2 + 1, none⟩ = some (.int .i64 (mrk k j).f1) := by
  obtain ⟨A', c', hv, hl, hc⟩ := h
  injection hv with hA _ _
  subst hA
  obtain ⟨g, cur, hA, _, hg, h0, h1⟩ := hc j (by rw [mks_len]; exact hj)
  rw [mks_get k n j hj] at h0 h1
  exact ⟨g, hA, (cell_of' hg _).trans h0, (cell_of' hg _).trans h1⟩
theorem MarksAt.all {W2 W : World} {B1 gg gl cL : Nat} {vs us : List Value} {ls : List (List S36)} (G : Got W2 B1 gg vs ls) (h : MarksAt W2 W B1 vs ls 7 (.slice (some ⟨gl, 0, none⟩) 7 cL) us) {k : Nat} (hk : k < 7) {l : List S36} (hl : ls[k]? = some l) :
    ∃ A3 c3 p3 e3, ∀ W', Below W.heap.size W W' → W'.cell? ⟨gg, k, none⟩ = some (.slice A3 l.length c3) ∧ W'.cell? ⟨gl, k, none⟩ = some (.slice p3 (l.length + 1) e3) ∧ RgAt W' (.slice A3 l.length c3) (mks k l.length) (fun _ => True) ∧ RgAt W' (.slice p3 (l.length + 1) e3) (mks k (l.length + 1)) (fun _ => True) := by
  have hkl := (List.getElem?_eq_some_iff.1 hl).1
  have hkv : k < vs.length := by rw [G.n]; exact hkl
  have hku : k < us.length := by rw [h.n]; exact hk
  have hv : vs[k]? = some (vs[k]'hkv) := List.getElem?_eq_getElem hkv
  have hu : us[k]? = some (us[k]'hku) := List.getElem?_eq_getElem hku
  obtain ⟨r1, r2⟩ := h.done k _ _ l hk hv hl hu
  obtain ⟨A3, c3, e1⟩ := r1.form
  obtain ⟨p3, e3, e2⟩ := r2.form
  rw [mks_len] at e1 e2
  rw [e1] at hv r1
  rw [e2] at hu r2
  refine ⟨A3, c3, p3, e3, fun W' hb => ⟨?_, ?_, (r1.below hb).mono (fun _ _ => trivial), (r2.below hb).mono (fun _ _ => trivial)⟩⟩
  · obtain ⟨h1, h2⟩ := h.gg G
    have h3 : W'.heap[gg]? = some (.cells vs.toArray 22 (0, 0)) := (hb.block gg (Array.getElem?_eq_some_iff.1 h1).1).trans h1
    rw [cell_of' h3]
    simpa using hv
  · have h4 := h.row.cellAt k (by omega)
    have h5 : W.cell? ⟨gl, k, none⟩ = some (.slice p3 (l.length + 1) e3) := h4.trans hu
    have h6 := (row_at h.row (g := gl) rfl).2.1
    exact (hb.cell (p := ⟨gl, k, none⟩) h6).trans h5
theorem WantAt.get {W0 W2 W : World} {ls : List (List S36)} {gw cw : Nat} {ws : List Value} {K : Nat → Prop} (h : WantAt W0 W2 ls (.slice (some ⟨gw, 0, none⟩) 7 cw) ws 7) (ho : Only K W2 W) (hK : ∀ g, W0.heap.size ≤ g → g < W2.heap.size → ¬ K g) {k : Nat} (hk : k < 7) {l : List S36} (hl : ls[k]? = some l) (hs : Short l) :
    ∃ A c, W.cell? ⟨gw, k, none⟩ = some (.slice A l.length c) ∧ l.length ≤ c ∧ Kd.C k36 W A l.length l := by
  have hkw : k < ws.length := by rw [h.n]; exact hk
  have hw : ws[k]? = some (ws[k]'hkw) := List.getElem?_eq_getElem hkw
  have r := h.rd k _ l hw hl
  obtain ⟨A, c, e⟩ := r.form
  rw [e] at hw r
  have r2 := r.only ho (fun g h1 h2 h3 => hK g h1 h2 h3)
  obtain ⟨h1, h2⟩ := r2.get (by have : l.length < 8796093022208 := hs; omega)
  refine ⟨A, c, ?_, h1, h2⟩
  obtain ⟨h3, h4, _⟩ := row_at h.row (g := gw) rfl
  have h5 : W2.cell? ⟨gw, k, none⟩ = some (.slice A l.length c) := (h.row.cellAt k (by omega)).trans hw
  rw [World.cell?_of_block (w := W2) (by exact ho.block gw h4 (hK gw h3 h4))]
  exact h5
end Go.Proofs.Ytmidiifgdloojaa.SpanEach
end
section
namespace Go.Proofs.Ytmidiifgdloojaa.SpanEach
open Go.RowKit Go.Lib Go.Proofs.YtmidiifgdloojaaW.PrintWords Go.Proofs.YtmidiifgdloojaaW.PrintLast Go.Proofs.YtmidiifgdloojaaW.PrintMore Go.Proofs.Ytmidiifgdloojaa.Pr Go.Proofs.Ytmidiifgdloojaa.SpanFns
set_option linter.unusedSimpArgs false
set_option linter.unusedVariables false
attribute [local go_sem high] eqA36
theorem answersL_short (a b : List S36) (c n : Int) : ∀ l ∈ answersL a b c n, Short l := by
  have hm : ∀ x : List S36 × Int, (∃ y, x = few y) ∨ x.1 = [] → Short x.1 := by
    rintro x (⟨y, rfl⟩ | h)
    · exact few_short y
    · rw [h]; show (0 : Nat) < _; omega
  intro l hl
  simp only [answersL, List.mem_cons, List.not_mem_nil, or_false] at hl
  rcases hl with rfl | rfl | rfl | rfl | rfl | rfl | rfl
  · exact makeA_short a
  · exact unionA_short a b
  · refine hm _ ?_
    unfold meetA
    split
    · exact .inl ⟨_, rfl⟩
    · exact .inr rfl
  · refine hm _ ?_
    unfold minusA
    split
    · exact .inl ⟨_, rfl⟩
    · exact .inr rfl
  · refine hm _ ?_
    unfold throughA
    split
    · split
      · exact .inr rfl
      · split
        · exact .inr rfl
        · exact .inl ⟨_, rfl⟩
    · exact .inr rfl
  · exact (backA_short a c n).1
  · exact (backA_short a c n).2
theorem drawn_b {w w' : World} (h : Drawn0 w w') : Below w.heap.size w w' := by
  obtain ⟨nd, rfl⟩ := h
  exact pw_below_drewN (Below.refl _ _) nd
theorem answersL_len (a b : List S36) (c n : Int) : (answersL a b c n).length = 7 := rfl
theorem answersL_zero {a : List S36} (h : SpanFns.Good a) (b : List S36) (c n : Int) : (answersL a b c n)[0]? = some a := by
  have : (makeA a).1 = a := by
    rw [makeA_good h.1 (fun r hr => ?_), ofParts_self h.nrm]
    have h1 := h.2.2 r hr
    have h2 := h.nrm.2 r hr
    exact ⟨h1.1, Int.le_of_lt h2, h1.2⟩
  simp [answersL, this]
set_option maxRecDepth 100000 in
set_option maxHeartbeats 16000000 in
theorem newmem_calls {w : World} {A0 A1 A2 : Option Addr} {c0 c1 c2 : Nat} {l0 l1 : List S36} {l2 : List Int} {pa nn : Int} (hr0 : Kd.C k36 w A0 l0.length l0) (hc0 : l0.length ≤ c0) (hr1 : Kd.C k36 w A1 l1.length l1) (hc1 : l1.length ≤ c1)
    {k0 k1 : Nat} {p q : List S36} (hk0 : redraftlaw02_right.f k0 l0 = some p) (hp1 : p.length ≤ 32768) (hp2 : ∀ r ∈ p, Part r) (hk1 : redraftlaw02_right.f k1 l1 = some q) (hq1 : q.length ≤ 32768) (hq2 : ∀ r ∈ q, Part r) (hnn : nn ≤ 9223372036854775807) :
    Calls Try.prog 15 #[.agg #[.slice A0 l0.length c0, .slice A1 l1.length c1, .slice A2 l2.length c2, .int .i64 pa, .int .i64 nn]] w fun e w' => e = .returned (.bool true) ∧ Below w.heap.size w w' := by
  obtain ⟨a, ha⟩ : ∃ l, l = ofParts p := ⟨_, rfl⟩
  obtain ⟨b, hb⟩ : ∃ l, l = ofParts q := ⟨_, rfl⟩
  have hGa : SpanFns.Good a := by rw [ha]; exact ofParts_good hp1 hp2
  have hGb : SpanFns.Good b := by rw [hb]; exact ofParts_good hq1 hq2
  have hMa : span_Make.f p = some (a, 0) := by rw [Make_f, makeA_good hp1 hp2, ha]
  have hMb : span_Make.f q = some (b, 0) := by rw [Make_f, makeA_good hq1 hq2, hb]
  have hps : Short p := by show p.length < _; omega
  have hqs : Short q := by show q.length < _; omega
  obtain ⟨ka, hka⟩ := awake_ev.rounds
  have ba : a.length ≤ 32768 := hGa.1
  have bb : b.length ≤ 32768 := hGb.1
  have fr0 := fun W (hB : Below w.heap.size w W) => redraftlaw02_right.calls k0 A0 c0 l0 p W (Kd.C_below hr0 hB) hc0 hk0
  have fr1 := fun W (hB : Below w.heap.size w W) => redraftlaw02_right.calls k1 A1 c1 l1 q W (Kd.C_below hr1 hB) hc1 hk1
  have fc0 := fun W A c (h : Kd.C k36 W A p.length p) (hc : p.length ≤ c) => redraftlaw02_copied.calls A c p p W h hc (copied_f hps)
  have fc1 := fun W A c (h : Kd.C k36 W A q.length q) (hc : q.length ≤ c) => redraftlaw02_copied.calls A c q q W h hc (copied_f hqs)
  have fm0 := fun W A c (h : Kd.C k36 W A p.length p) (hc : p.length ≤ c) => span_Make.calls A c p a 0 W h hc hMa
  have fm1 := fun W A c (h : Kd.C k36 W A q.length q) (hc : q.length ≤ c) => span_Make.calls A c q b 0 W h hc hMb
  have fy0 := fun W A c (h : a.length ≤ c ∧ Kd.C k36 W A a.length a) => roomy_calls A c a W h.2 h.1 (by omega)
  have fy1 := fun W A c (h : b.length ≤ c ∧ Kd.C k36 W A b.length b) => roomy_calls A c b W h.2 h.1 (by omega)
  have hsA : Short (a ++ tail3) := by show (a ++ tail3).length < _; rw [List.length_append]; show a.length + 3 < _; omega
  have hsB : Short (b ++ tail3) := by show (b ++ tail3).length < _; rw [List.length_append]; show b.length + 3 < _; omega
  have hlA : (a ++ tail3).length = a.length + 3 := by rw [List.length_append]; rfl
  have hlB : (b ++ tail3).length = b.length + 3 := by rw [List.length_append]; rfl
  have fk0 := fun W A c (h : (a ++ tail3).length ≤ c ∧ Kd.C k36 W A (a ++ tail3).length (a ++ tail3)) => redraftlaw02_copied.calls A c (a ++ tail3) (a ++ tail3) W h.2 h.1 (copied_f hsA)
  have fk1 := fun W A c (h : (b ++ tail3).length ≤ c ∧ Kd.C k36 W A (b ++ tail3).length (b ++ tail3)) => redraftlaw02_copied.calls A c (b ++ tail3) (b ++ tail3) W h.2 h.1 (copied_f hsB)
  rw [hlA] at fk0
  rw [hlB] at fk1
  obtain ⟨mt, hmt⟩ : ∃ m, max 0 (min pa 1048576) = m := ⟨_, rfl⟩
  obtain ⟨mn, hmn⟩ : ∃ m, max 0 (min nn 9) = m := ⟨_, rfl⟩
  have hmn2 : mn ≤ 9223372036854775807 := by omega
  have fa0 := fun W A c (h : a.length ≤ c ∧ Kd.C k36 W A a.length a) => asked_calls A c a pa nn W h.2 h.1 hGa hnn
  have fa1 := fun W A c (h : a.length ≤ c ∧ Kd.C k36 W A a.length a) => asked_calls A c a mt mn W h.2 h.1 hGa hmn2
  have fg := fun W A A' c c' (h : a.length ≤ c ∧ Kd.C k36 W A a.length a) (h' : b.length ≤ c' ∧ Kd.C k36 W A' b.length b) => answers_calls a b pa nn A A' c c' W h.2 h.1 h'.2 h'.1 hGa.short hGb.short
  have hLs := answersL_short a b pa nn
  have hL7 := answersL_len a b pa nn
  have hL0 := answersL_zero hGa b pa nn
  obtain ⟨ls, hls⟩ : ∃ ls, answersL a b pa nn = ls := ⟨_, rfl⟩
  rw [hls] at hLs hL7 hL0
  simp only [hls] at fg
  have fsA := fun W {A A' c c'} (h1 : (a ++ tail3).length ≤ c ∧ Kd.C k36 W A (a ++ tail3).length (a ++ tail3)) (h2 : (a ++ tail3).length ≤ c' ∧ Kd.C k36 W A' (a ++ tail3).length (a ++ tail3)) => same_true hsA W h1 h2
  have fsB := fun W {A A' c c'} (h1 : (b ++ tail3).length ≤ c ∧ Kd.C k36 W A (b ++ tail3).length (b ++ tail3)) (h2 : (b ++ tail3).length ≤ c' ∧ Kd.C k36 W A' (b ++ tail3).length (b ++ tail3)) => same_true hsB W h1 h2
  have fsa := fun W {A A' c c'} (h1 : a.length ≤ c ∧ Kd.C k36 W A a.length a) (h2 : a.length ≤ c' ∧ Kd.C k36 W A' a.length a) => same_true hGa.short W h1 h2
  rw [hlA] at fsA
  rw [hlB] at fsB
  have HK := Lib.hid hka
  have HA := Lib.hid hsA
  have HLs := Lib.hid hLs
  have HL0 := Lib.hid hL0
  have HL7 := Lib.hid hL7
  have ba' : (a.length : Int) ≤ 32768 := by omega
  have bb' : (b.length : Int) ≤ 32768 := by omega
  have ga : a.length ≤ 9223372036854775807 := by omega
  have gb : b.length ≤ 9223372036854775807 := by omega
  have gA : (a ++ tail3).length ≤ 9223372036854775807 := by omega
  have gB : (b ++ tail3).length ≤ 9223372036854775807 := by omega
  have GG := Lib.hid (And.intro ga (And.intro gb (And.intro gA gB)))
  have HEA := Lib.hid hlA
  have HEB := Lib.hid hlB
  obtain ⟨O, hO⟩ : ∃ O : Obj, (.cells #[.slice A0 l0.length c0, .slice A1 l1.length c1, .slice A2 l2.length c2, .int .i64 pa, .int .i64 nn] 25 (0, 0)) = O := ⟨_, rfl⟩
  have S0 : Base w (w.alloc (.cells #[.slice A0 l0.length c0, .slice A1 l1.length c1, .slice A2 l2.length c2, .int .i64 pa, .int .i64 nn] 25)) (w.heap.size + 1) O [] :=
    ⟨(Below.refl _ w).alloc (Nat.le_refl _) _, by rw [World.size_alloc]; omega, by omega, by rw [← hO]; exact World.alloc_heap_new w _, fun x hx => by cases hx⟩
  have y0 := cell_of' (World.alloc_heap_new w (.cells #[.slice A0 l0.length c0, .slice A1 l1.length c1, .slice A2 l2.length c2, .int .i64 pa, .int .i64 nn] 25)) 0
  have HO := Lib.hid hO
  have hS0 := Lib.hid S0
  clear S0 hO hka hsA hsB hLs hL0 hL7 hGa hGb hMa hMb hps hqs ha hb hp1 hp2 hq1 hq2 hk0 hk1 hr0 hr1 hc0 hc1 hls ba bb ga gb gA gB hlA hlB hnn hmn2
  go_enter Try.func15, Try.ntmps15
  go_upto_region 2 with (first
    | (go_at_call 18; refine (fr0 _ hS0.out.bel).mono ?_; clear fr0; rintro e w1 ⟨v1, rfl, hR1, hb1⟩; obtain ⟨D1, d1, hv1, hd1, hC1⟩ := Kd.R_reads hR1; subst hv1; have S1 := Lib.hid (hS0.out.below hb1); clear hR1 hb1 hS0)
    | (go_at_call 17; refine (fc0 _ D1 d1 hC1 hd1).mono ?_; clear fc0; rintro e w2 ⟨v2, rfl, hR2, hb2⟩; obtain ⟨D2, d2, hv2, hd2, hC2⟩ := Kd.R_reads hR2; subst hv2; have S2 := Lib.hid (S1.out.below hb2); clear hR2 hb2 S1 hC1 hd1)
    | (go_at_call 16; refine (fm0 _ D2 d2 hC2 hd2).mono ?_; clear fm0; rintro e w3 ⟨v3, rfl, hR3, hb3⟩; obtain ⟨D3, d3, hv3⟩ := Kd.R_slice hR3; subst hv3; have S3 := Lib.hid (S2.out.new hb3 hR3); clear hR3 hb3 S2 hC2 hd2))
  have y1 : w3.cell? ⟨w.heap.size, 1, none⟩ = some (.slice A1 l1.length c1) := by have := S3.out.box; rw [← HO.out] at this; exact cell_of' this 1
  clear y0
  go_upto_region 5 with (first
    | (go_at_call 18; refine (fr1 _ S3.out.bel).mono ?_; clear fr1; rintro e w4 ⟨v4, rfl, hR4, hb4⟩; obtain ⟨D4, d4, hv4, hd4, hC4⟩ := Kd.R_reads hR4; subst hv4; have S4 := Lib.hid (S3.out.below hb4); clear hR4 hb4 S3)
    | (go_at_call 17; refine (fc1 _ D4 d4 hC4 hd4).mono ?_; clear fc1; rintro e w5 ⟨v5, rfl, hR5, hb5⟩; obtain ⟨D5, d5, hv5, hd5, hC5⟩ := Kd.R_reads hR5; subst hv5; have S5 := Lib.hid (S4.out.below hb5); clear hR5 hb5 S4 hC4 hd4)
    | (go_at_call 16; refine (fm1 _ D5 d5 hC5 hd5).mono ?_; clear fm1; rintro e w6 ⟨v6, rfl, hR6, hb6⟩; obtain ⟨D6, d6, hv6⟩ := Kd.R_slice hR6; subst hv6; have S6 := Lib.hid (S5.out.new hb6 hR6); clear hR6 hb6 S5 hC5 hd5)
    | (go_at_call 19; refine (redraftlaw02_num.calls 0 0 _ (num_f 0)).mono ?_; rintro e w7 ⟨rfl, hd7⟩; have S7 := Lib.hid (S6.out.below (drawn_b hd7)); clear S6 hd7)
    | (go_at_call 19; refine (redraftlaw02_num.calls 0 0 _ (num_f 0)).mono ?_; rintro e w8 ⟨rfl, hd8⟩; have S8 := Lib.hid (S7.out.below (drawn_b hd8)); clear S7 hd8)
    | (go_at_call 20; refine (redraftlaw02_awake.calls ka true _ HK.out).mono ?_; rintro e w9 ⟨rfl, hb9⟩; have S9 := Lib.hid (S8.out.below hb9); clear S8 hb9))
  have gA := fun {W n o fs A c} (h : Base w W n o fs) (hm : (A, c, a ++ tail3) ∈ fs) => (show a.length + 3 ≤ c ∧ Kd.C k36 W A (a.length + 3) (a ++ tail3) by have := h.get hm GG.out.2.2.1; rwa [HEA.out] at this)
  have gB := fun {W n o fs A c} (h : Base w W n o fs) (hm : (A, c, b ++ tail3) ∈ fs) => (show b.length + 3 ≤ c ∧ Kd.C k36 W A (b.length + 3) (b ++ tail3) by have := h.get hm GG.out.2.2.2; rwa [HEB.out] at this)
  clear y1
  go_upto_region 9 with (first
    | (go_at_call 43; refine (fy0 _ D3 d3 (S9.out.get (by simp) GG.out.1)).mono ?_; clear fy0; rintro e w10 ⟨gA1, dA, rfl, hR10, hb10⟩; have S10 := Lib.hid (S9.out.roomy hb10 hR10); clear hR10 hb10 S9)
    | (go_at_call 43; refine (fy1 _ D6 d6 (S10.out.get (by simp) GG.out.2.1)).mono ?_; clear fy1; rintro e w11 ⟨gB1, dB, rfl, hR11, hb11⟩; have S11 := Lib.hid (S10.out.roomy hb11 hR11); clear hR11 hb11 S10)
    | (go_at_call 17; refine (fk0 _ (some ⟨gA1, 0, none⟩) dA (gA S11.out (by simp))).mono ?_; clear fk0; rintro e w12 ⟨v12, rfl, hR12, hb12⟩; obtain ⟨D7, d7, hv12⟩ := Kd.R_slice hR12; rw [HEA.out] at hv12; subst hv12; have S12 := Lib.hid (S11.out.new hb12 (by rw [HEA.out]; exact hR12)); clear hR12 hb12 S11)
    | (go_at_call 17; refine (fk1 _ (some ⟨gB1, 0, none⟩) dB (gB S12.out (by simp))).mono ?_; clear fk1; rintro e w13 ⟨v13, rfl, hR13, hb13⟩; obtain ⟨D8, d8, hv13⟩ := Kd.R_slice hR13; rw [HEB.out] at hv13; subst hv13; have S13 := Lib.hid (S12.out.new hb13 (by rw [HEB.out]; exact hR13)); clear hR13 hb13 S12))
  have z3 : w13.cell? ⟨w.heap.size, 3, none⟩ = some (.int .i64 pa) := by have := S13.out.box; rw [← HO.out] at this; exact cell_of' this 3
  have z4 : w13.cell? ⟨w.heap.size, 4, none⟩ = some (.int .i64 nn) := by have := S13.out.box; rw [← HO.out] at this; exact cell_of' this 4
  go_upto_region 10 with (go_at_call 44; refine (fa0 _ (some ⟨gA1, 0, none⟩) dA (S13.out.get (by simp) GG.out.1)).mono ?_; clear fa0; rintro e w14 ⟨rfl, hb14⟩; have S14 := Lib.hid (S13.out.below hb14); clear S13 hb14 z3 z4)
  have z3 : w14.cell? ⟨w.heap.size, 3, none⟩ = some (.int .i64 pa) := by have := S14.out.box; rw [← HO.out] at this; exact cell_of' this 3
  have z4 : w14.cell? ⟨w.heap.size, 4, none⟩ = some (.int .i64 nn) := by have := S14.out.box; rw [← HO.out] at this; exact cell_of' this 4
  go_upto_region 11 with (go_at_call 44; refine (fa1 _ (some ⟨gA1, 0, none⟩) dA (S14.out.get (by simp) GG.out.1)).mono ?_; clear fa1; rintro e w15 ⟨rfl, hb15⟩; have S15 := Lib.hid (S14.out.below hb15); clear S14 hb15 z3 z4)
  have z3 : w15.cell? ⟨w.heap.size, 3, none⟩ = some (.int .i64 pa) := by have := S15.out.box; rw [← HO.out] at this; exact cell_of' this 3
  have z4 : w15.cell? ⟨w.heap.size, 4, none⟩ = some (.int .i64 nn) := by have := S15.out.box; rw [← HO.out] at this; exact cell_of' this 4
  have ht : True := trivial
  go_upto_region 14 with (first
    | (go_at_call 45; refine (fg _ (some ⟨gA1, 0, none⟩) (some ⟨gB1, 0, none⟩) dA dB (S15.out.get (by simp) GG.out.1) (S15.out.get (by simp) GG.out.2.1)).mono ?_; rintro e w16 ⟨gg, vs, rfl, hG16, hb16⟩; have S16 := Lib.hid (S15.out.grow.below hb16); have G16 := Lib.hid hG16; clear S15 hG16 hb16 z3 z4)
    | (go_at_call 25; clear ht; refine (fsA _ (gA S16.out (by simp)) (gA S16.out (by simp))).mono ?_; rintro e w17 ⟨rfl, hb17⟩; have S17 := Lib.hid (S16.out.below hb17); have G17 := Lib.hid (G16.out.below hb17); clear S16 G16 hb17)
    | (go_at_call 25; refine (fsB _ (gB S17.out (by simp)) (gB S17.out (by simp))).mono ?_; rintro e w18 ⟨rfl, hb18⟩; have S18 := Lib.hid (S17.out.below hb18); have G18 := Lib.hid (G17.out.below hb18); clear S17 G17 hb18))
  obtain ⟨i22, ki0, kz0, kz1, kz2⟩ := info22
  obtain ⟨i36, hi0, hz0, hz1, hz2⟩ := info36
  go_wp2_with fail
  go_loopw [14, 15] (fun v14 v15 wr => ∃ (m : Nat) (ws : List Value), m ≤ 7 ∧ v15 = .int .i64 (m : Int) ∧ Hid (WantAt w18 wr ls v14 ws m)) (fun _ v15 _ => 7 - (intOf v15).toNat)
  case atStart => exact ⟨0, [], by omega, rfl, WantAt.start w18 ls⟩
  case round =>
    obtain ⟨m, ws, hm, rfl, HW⟩ := hrel
    obtain ⟨pw, cw, hvw⟩ := row_form HW.out.row
    subst hvw
    have ib : (m : Int) ≤ 7 := by omega
    by_cases hc : m < 7
    · have d0 : decide ((m : Int) < 7) = true := decide_eq_true (by omega)
      obtain ⟨l, hl⟩ : ∃ l, ls[m]? = some l := ⟨_, List.getElem?_eq_getElem (by rw [HL7.out]; exact hc)⟩
      have hsl := HLs.out l (List.mem_of_getElem? hl)
      obtain ⟨A3, c3, hv3, x3, hc3, hC3⟩ := (G18.out.below HW.out.bel).at_ hl hsl
      have p0 : (0 ≤ (m : Int)) = True := eq_true (by omega)
      have p1 : ((m : Int) < 7) = True := eq_true (by omega)
      have hcp := redraftlaw02_copied.calls A3 c3 l l wr hC3 hc3 (copied_f hsl)
      have HL := Lib.hid hl
      have HM := Lib.hid hc
      clear hv3 hC3 hc3 hsl hl hc hm
      go_wp2_with (first
        | (at_builtin; refine wpList_append_lies _ rfl _ _ 64 rfl w18.heap.size 22 i22 (.slice none 0 0) 1 24 Try.underlying64 ki0 kz0 kz1 kz2 rfl (by decide) _ _ ws rfl (H19.out.alloc _) ⟨w19.heap.size, 0, none⟩ 1 1 [.slice D9 l.length d9] rfl rfl ?c1 ?c2 (by decide) ?c3 ?c4 ?c5 _ rfl ?_)
        | (go_at_call 17; refine hcp.mono ?_; clear hcp; rintro e w19 ⟨v19, rfl, hR19, hb19⟩; obtain ⟨D9, d9, hv19⟩ := Kd.R_slice hR19; subst hv19; have R19 := Lib.hid hR19; have B19 := Lib.hid hb19; have H19 := Lib.hid (row_move (W' := w19) HW.out.row (fun g hg => hb19.block g (row_at HW.out.row hg).2.1)); clear hR19 hb19 x3)
        | go_in)
      case c1 => exact new_cells36 rfl
      case c2 => intro u hu; simp at hu; subst hu; rfl
      case c3 => simp only [maxLen]; have := HM.out; omega
      case c4 => have := HM.out; omega
      case c5 => rw [World.size_alloc]; have := HW.out.bel.size; have := B19.out.size; omega
      intro g' cap' w20 hown2 hgrow hloc hglt
      have HW2 := Lib.hid (HW.out.step B19.out HL.out R19.out hown2 hgrow)
      clear hown2 hgrow hloc hglt
      go_wp2
      go_roundw
      case rel => exact ⟨m + 1, _, HM.out, by go_num, HW2⟩
      case measure => have := HM.out; simp [intOf]; omega
    · obtain rfl : m = 7 := by omega
      rw [show (((7 : Nat) : Int)) = 7 from rfl]
      have d0 : decide ((7 : Int) < 7) = false := rfl
      go_wp2_with fail
      have W2b := HW.out.bel
      have G2 := Lib.hid (G18.out.below W2b)
      have S2' := Lib.hid (S18.out.below W2b)
      have HWn := Lib.hid HW.out
      have G18n := Lib.hid G18.out.toPend
      clear W2b HW G18 S18
      generalize wr = W2 at *
      go_loopw [16, 17, 18] (fun v16 v17 v18 wx => ∃ (k : Nat) (us : List Value), k ≤ 7 ∧ v17 = .int .i64 (k : Int) ∧ Hid (MarksAt W2 wx w15.heap.size vs ls k v16 us)) (fun _ v17 _ _ => 7 - (intOf v17).toNat)
      case atStart => exact ⟨0, [], by omega, rfl, MarksAt.start G2.out.toPend⟩
      case round =>
        obtain ⟨k, us, hk, rfl, HM⟩ := hrel
        have kb : (k : Int) ≤ 7 := by omega
        by_cases hc : k < 7
        · have d0 : decide ((k : Int) < 7) = true := decide_eq_true (by omega)
          obtain ⟨l, hl⟩ : ∃ l, ls[k]? = some l := ⟨_, List.getElem?_eq_getElem (by rw [HL7.out]; exact hc)⟩
          have hsl : l.length < 8796093022208 := HLs.out l (List.mem_of_getElem? hl)
          obtain ⟨A3, c3, hv3, _, _, _⟩ := G2.out.at_ hl hsl
          have hrow := HM.out.todo k _ l (Nat.le_refl _) hv3 hl
          obtain ⟨hgg, hgl⟩ := HM.out.gg G2.out
          have hlA : ∀ g, (Value.slice A3 l.length c3).ownBlock = some g → g ≠ gg ∧ g < wr.heap.size := fun g hg => by
            obtain ⟨_, h2, cur, h3⟩ := row_at hrow hg
            exact ⟨fun e => (by rw [e, hgg] at h3; cases h3), h2⟩
          have hslb : (l.length : Int) < 8796093022208 := by omega
          have p0 : (0 ≤ (k : Int)) = True := eq_true (by omega)
          have p1 : ((k : Int) < 7) = True := eq_true (by omega)
          have hgv : ∀ W', Only (fun g => (Value.slice A3 l.length c3).ownBlock = some g ∨ wr.heap.size ≤ g) wr W' → W'.heap[gg]? = some (.cells vs.toArray 22 (0, 0)) ∧ W'.cell? ⟨gg, k, none⟩ = some (.slice A3 l.length c3) := fun W' ho => by
            have h1 : W'.heap[gg]? = some (.cells vs.toArray 22 (0, 0)) := (ho.block gg (by have := HM.out.only.size; omega) (fun e => by
              rcases e with e | e
              · exact (hlA gg e).1 rfl
              · have := HM.out.only.size; omega)).trans hgg
            exact ⟨h1, by rw [cell_of' h1]; simpa using hv3⟩
          have HGV := Lib.hid hgv
          have HC := Lib.hid hc
          have HL := Lib.hid hl
          have HV3 := Lib.hid hv3
          have HLA := Lib.hid hlA
          clear hgv hc hl hv3 hlA hgg hgl hsl hk
          go_wp2_with fail
          generalize wr = Wk at *
          go_loopw [18] (fun v18 wx => ∃ j : Nat, j ≤ l.length ∧ v18 = .int .i64 (j : Int) ∧ Hid (Only (fun g => (Value.slice A3 l.length c3).ownBlock = some g ∨ Wk.heap.size ≤ g) Wk wx) ∧ Hid (wx.ownsRow w15.heap.size 36 2 (.slice A3 l.length c3) l.length (cells36 (overS k l j)))) (fun v18 _ => l.length - (intOf v18).toNat)
          case atStart => exact ⟨0, by omega, rfl, Only.refl _ _, Lib.hid (by rw [overS_zero]; exact hrow)⟩
          case round =>
            obtain ⟨j, hj, rfl, HO, HR⟩ := hrel
            have jb : (j : Int) ≤ (l.length : Int) := by omega
            obtain ⟨hg1, x3⟩ := HGV.out wr HO.out
            have p2 : (0 ≤ (j : Int)) = True := eq_true (by omega)
            by_cases hjl : j < l.length
            · have d1 : decide (j < l.length) = true := decide_eq_true hjl
              have p3 : ((j : Int) < (l.length : Int)) = True := eq_true (by omega)
              obtain ⟨g3, hg3⟩ : ∃ g3, A3 = some ⟨g3, 0, none⟩ := by
                rcases HR.out.2 with ⟨hnil, h0⟩ | ⟨g, cap', cur, hv, _⟩
                · omega
                · injection hv with hv _ _
                  exact ⟨g, hv⟩
              subst hg3
              have hB : ∀ W', Below wr.heap.size wr W' → Only (fun g => (Value.slice (some ⟨g3, 0, none⟩) l.length c3).ownBlock = some g ∨ Wk.heap.size ≤ g) Wk W' ∧ W'.ownsRow w15.heap.size 36 2 (.slice (some ⟨g3, 0, none⟩) l.length c3) l.length (cells36 (overS k l j)) := fun W' hb => ⟨HO.out.trans (Only.of_below hb rfl), row_move HR.out (fun g hg => hb.block g (row_at HR.out hg).2.1)⟩
              have hmk := fun W' => marked_c k j (by omega) (by omega) W'
              have HJ := Lib.hid hjl
              have HBb := Lib.hid hB
              clear hB hjl hj hg1
              go_upto_region 26 with fail
              go_region_with (go_at_call 46; refine (hmk _).mono ?_; clear hmk; rintro e w21 ⟨rfl, hb21⟩; have hb := Lib.hid ((Below.refl wr.heap.size wr).drew.trans (hb21.mono (Nat.le_refl _))); obtain ⟨o21, r21⟩ := HBb.out w21 hb.out; have x21 := (HGV.out w21 o21).2; obtain ⟨⟨s0, k0⟩, k1, ⟨s1, k2⟩, k3, hrow2, ho2⟩ := row36_store r21 HJ.out (.int .i64 (mrk k j).f0) (.int .i64 (mrk k j).f1); have R2 := Lib.hid hrow2; have O2 := Lib.hid (o21.trans (ho2.mono (fun g hg => .inl (by rw [hg]; rfl)))); clear hb21 o21 r21 hrow2 ho2)
              all_goals
                go_wp2_with fail
                rw [overS_set k HJ.out] at R2
                go_roundw
                case rel => exact ⟨j + 1, HJ.out, by go_num, O2, R2⟩
                case measure => have := HJ.out; simp [intOf]; omega
            · obtain rfl : j = l.length := by omega
              have d1 : decide (l.length < l.length) = false := decide_eq_false hjl
              clear hjl hj hg1
              have hRl : Hid (wr.ownsRow w15.heap.size 36 2 (.slice A3 l.length c3) l.length (cells36 (mks k l.length))) := Lib.hid (by rw [← overS_all]; exact HR.out)
              clear HR
              go_upto_region 27 with fail
              obtain ⟨pL, cL, hvL⟩ := row_form HM.out.row
              subst hvL
              have hmk := fun W' => marked_c k l.length (by have := HC.out; omega) (by omega) W'
              have x3d : wr.drew.cell? ⟨gg, k, none⟩ = some (.slice A3 l.length c3) := x3
              have hB : ∀ W', Below wr.heap.size wr W' → W'.cell? ⟨gg, k, none⟩ = some (.slice A3 l.length c3) ∧ W'.ownsRow w15.heap.size 36 2 (.slice A3 l.length c3) l.length (cells36 (mks k l.length)) ∧ W'.ownsRow W2.heap.size 22 1 (.slice pL k cL) k us := fun W' hb => by
                have ho := HO.out.trans (Only.of_below hb rfl)
                refine ⟨(HGV.out W' ho).2, row_move hRl.out (fun g hg => hb.block g (row_at hRl.out hg).2.1), row_move HM.out.row (fun g hg => ho.block g (row_at HM.out.row hg).2.1 (fun e => ?_))⟩
                obtain ⟨h1, h2, cur, h3⟩ := row_at HM.out.row hg
                rcases e with e | e
                · have h4 := HM.out.todo k _ l (Nat.le_refl _) HV3.out HL.out
                  obtain ⟨_, _, cur', h5⟩ := row_at h4 e
                  rw [h3] at h5
                  cases h5
                · omega
              have HBb := Lib.hid hB
              have hU : ∀ (u : Value), u ∈ [Value.int .i64 (mrk k l.length).f0, Value.int .i64 (mrk k l.length).f1] → u.oneCell' = true := cells36_one [mrk k l.length]
              clear hB x3
              go_region_law (first
                | (go_simp; go_at_call 46; refine (hmk _).mono ?_; clear hmk; rintro e w5a ⟨rfl, hb5⟩; have hb := Lib.hid ((Below.refl wr.heap.size wr).drew.trans (hb5.mono (Nat.le_refl _))); obtain ⟨x5, r5, rL⟩ := HBb.out w5a hb.out; have x6 := (HBb.out (w5a.alloc (.cells #[.int .i64 (mrk k l.length).f0, .int .i64 (mrk k l.length).f1] 36)) (hb.out.alloc hb.out.size _)).1; have r6 := r5.alloc (.cells #[.int .i64 (mrk k l.length).f0, .int .i64 (mrk k l.length).f1] 36); have n6 := new_cells36 (W := w5a) (cs := #[.int .i64 (mrk k l.length).f0, .int .i64 (mrk k l.length).f1]) (t := 36) rfl; have N6 := Lib.hid n6; have RL := Lib.hid rL; have b6 : w15.heap.size ≤ (w5a.alloc (.cells #[.int .i64 (mrk k l.length).f0, .int .i64 (mrk k l.length).f1] 36)).heap.size := (by rw [World.size_alloc]; have h1 := G2.out.lo; have h2 := G2.out.row; have h3 := (Array.getElem?_eq_some_iff.1 h2).1; have h4 := HM.out.only.size; have h5 := HO.out.size; have h6 := hb.out.size; omega); have B6 := Lib.hid b6; clear n6 rL r5 hb5 b6)
                | (refine step_append_elder _ rfl (.tmp 140) (.tmp 148) 22 rfl w15.heap.size 36 i36 (.agg #[.int .i64 0, .int .i64 0]) 2 16 Try.underlying22 hi0 hz0 hz1 hz2 rfl (by decide) (.slice A3 l.length c3) l.length (cells36 (mks k l.length)) ?q1 ?q2 ⟨w5a.heap.size, 0, none⟩ 1 1 (cells36 [mrk k l.length]) ?q3 rfl ?q4 ?q5 ?q6 ?q7 ?q8 ?_; (case q1 => rfl); (case q2 => exact r6); (case q3 => rfl); (case q4 => exact N6.out); (case q5 => exact hU); (case q6 => unfold maxLen; omega); (case q7 => omega); (case q8 => exact B6.out); intro v' w2a h2 hg2 hl2 he2; obtain ⟨p2, c2', hv2⟩ := row_form h2; subst hv2; have rA := Lib.hid r6; have rL2 := RL.out.alloc (.cells #[.int .i64 (mrk k l.length).f0, .int .i64 (mrk k l.length).f1] 36); have rL3 : w2a.ownsRow W2.heap.size 22 1 (.slice pL k cL) k us := row_move rL2 (fun g hg => hg2.block g (row_at rL2 hg).2.1 (fun e => by
                    obtain ⟨_, _, cur, h3⟩ := row_at rL2 hg
                    obtain ⟨_, _, cur', h4⟩ := row_at r6 e.symm
                    rw [h3] at h4
                    cases h4)); have rL4 := rL3.alloc (.cells #[.slice p2 (l.length + 1) c2'] 22); have n7 := new_cells36 (W := w2a) (cs := #[.slice p2 (l.length + 1) c2']) (t := 22) rfl; have N7 := Lib.hid n7; have H2 := Lib.hid h2; have HG2 := Lib.hid hg2; have HL2 := Lib.hid hl2; have HE2 := Lib.hid he2; have B7 := Lib.hid (show W2.heap.size ≤ (w2a.alloc (.cells #[.slice p2 (l.length + 1) c2'] 22)).heap.size by rw [World.size_alloc]; have h1 := hg2.size; have h4 := HM.out.only.size; have h5 := HO.out.size; have h6 := hb.out.size; rw [World.size_alloc] at h1; omega); have hU2 : ∀ u ∈ [Value.slice p2 (l.length + 1) c2'], u.oneCell' = true := (by intro u hu; rw [List.mem_singleton.1 hu]; rfl); clear r6 rL2 rL3 h2 hg2 hl2 he2 n7)
                | (refine step_append_elder _ rfl (.tmp 136) (.tmp 150) 64 rfl W2.heap.size 22 i22 (.slice none 0 0) 1 24 Try.underlying64 ki0 kz0 kz1 kz2 rfl (by decide) (.slice pL k cL) k us ?q1 ?q2 ⟨w2a.heap.size, 0, none⟩ 1 1 [Value.slice p2 (l.length + 1) c2'] ?q3 rfl ?q4 ?q5 ?q6 ?q7 ?q8 ?_; (case q1 => rfl); (case q2 => exact rL4); (case q3 => rfl); (case q4 => exact N7.out); (case q5 => exact hU2); (case q6 => unfold maxLen; have := HC.out; omega); (case q7 => have := HC.out; omega); (case q8 => exact B7.out); intro v4 w4a h4 hg4 hl4 he4; obtain ⟨p4, c4', hv4⟩ := row_form h4; subst hv4; have H4 := Lib.hid h4; have HG4 := Lib.hid hg4; clear rL4 h4 hg4 hl4 he4))
              all_goals
                have HM2 := Lib.hid (MarksAt.step (wB := w2a.alloc (.cells #[.slice p2 (l.length + 1) c2'] 22)) G2.out.toPend HM.out HV3.out HL.out HO.out hRl.out (hb.out.alloc hb.out.size _) H2.out HG2.out HL2.out HE2.out ((Below.refl _ w2a).alloc (Nat.le_refl _) _) H4.out HG4.out)
                go_wp2_with fail
                go_roundw
                case rel => exact ⟨k + 1, _, HC.out, by go_num, HM2⟩
                case measure => have := HC.out; simp [intOf]; omega
        · obtain rfl : k = 7 := by omega
          obtain ⟨pL, cL, hvL⟩ := row_form HM.out.row
          subst hvL
          obtain ⟨gl, hgl⟩ := row_some HM.out.row (by decide)
          subst hgl
          rw [show (((7 : Nat) : Int)) = 7 from rfl]
          have d0 : decide ((7 : Int) < 7) = false := rfl
          have HALL := Lib.hid (fun (k : Nat) (hk : k < 7) (l : List S36) (hl : ls[k]? = some l) => HM.out.all G2.out hk hl)
          clear hk hc kb
          generalize wr = W3 at *
          go_wp2_with fail
          go_loopw [19, 20] (fun v19 v20 wx => ∃ k : Nat, k ≤ 7 ∧ v19 = .int .i64 (k : Int) ∧ Hid (Below W3.heap.size W3 wx)) (fun v19 _ _ => 7 - (intOf v19).toNat)
          case atStart => exact ⟨0, by omega, rfl, Below.refl _ _⟩
          case round =>
            obtain ⟨k, hk, rfl, HB3⟩ := hrel
            have kb : (k : Int) ≤ 7 := by omega
            by_cases hc : k < 7
            · have d0 : decide ((k : Int) < 7) = true := decide_eq_true (by omega)
              obtain ⟨l, hl⟩ : ∃ l, ls[k]? = some l := ⟨_, List.getElem?_eq_getElem (by rw [HL7.out]; exact hc)⟩
              have hsl : l.length < 8796093022208 := HLs.out l (List.mem_of_getElem? hl)
              obtain ⟨A3, c3, p3, e3, hall⟩ := HALL.out k hc l hl
              have HAL := Lib.hid hall
              have HC := Lib.hid hc
              have hslb : (l.length : Int) < 8796093022208 := by omega
              have p0 : (0 ≤ (k : Int)) = True := eq_true (by omega)
              have p1 : ((k : Int) < 7) = True := eq_true (by omega)
              clear hall hc hl hsl hk
              generalize wr = Wk at *
              go_wp2_with fail
              go_loopw [20] (fun v20 wx => ∃ j : Nat, j ≤ l.length + 1 ∧ v20 = .int .i64 (j : Int) ∧ Hid (Below W3.heap.size W3 wx)) (fun v20 _ => l.length + 1 - (intOf v20).toNat)
              case atStart => exact ⟨0, by omega, rfl, HB3⟩
              case round =>
                obtain ⟨j, hj, rfl, HBj⟩ := hrel
                have jb : (j : Int) ≤ (l.length : Int) + 1 := by omega
                obtain ⟨x1, x2, r1, r2⟩ := HAL.out wr HBj.out
                by_cases hjl : j < l.length + 1
                · have d1 : decide ((j : Int) < (l.length : Int) + 1) = true := decide_eq_true (by omega)
                  have p2 : (0 ≤ (j : Int)) = True := eq_true (by omega)
                  have p3' : ((j : Int) < (l.length : Int) + 1) = True := eq_true (by omega)
                  obtain ⟨g2, hg2, y1, y2⟩ := r2.mark hjl
                  subst hg2
                  have hF : ∀ W', Below wr.heap.size wr W' → Below W3.heap.size W3 W' ∧ W'.cell? ⟨gg, k, none⟩ = some (.slice A3 l.length c3) ∧ W'.cell? ⟨gl, k, none⟩ = some (.slice (some ⟨g2, 0, none⟩) (l.length + 1) e3) ∧ (W'.cell? ⟨g2, j * 2, none⟩ = some (.int .i64 (mrk k j).f0) ∧ W'.cell? ⟨g2, j * 2 + 1, none⟩ = some (.int .i64 (mrk k j).f1)) ∧ RgAt W' (.slice A3 l.length c3) (mks k l.length) (fun _ => True) := fun W' hb => by
                    have hb' := HBj.out.trans (hb.mono HBj.out.size)
                    obtain ⟨z1, z2, z3, z4⟩ := HAL.out W' hb'
                    obtain ⟨g', hg', z5, z6⟩ := z4.mark hjl
                    injection hg' with hg'
                    injection hg' with hg'
                    subst hg'
                    exact ⟨hb', z1, z2, ⟨z5, z6⟩, z3⟩
                  have HFF := Lib.hid hF
                  have hmk := fun W' => marked_c k j (by have := HC.out; omega) (by omega) W'
                  have hmk2 := fun W' => marked_c k j (by have := HC.out; omega) (by omega) W'
                  obtain ⟨m0, hm0⟩ : ∃ m, (mrk k j).f0 = m := ⟨_, rfl⟩
                  obtain ⟨m1, hm1⟩ : ∃ m, (mrk k j).f1 = m := ⟨_, rfl⟩
                  rw [hm0, hm1] at hmk hmk2
                  rw [hm0] at y1
                  rw [hm1] at y2
                  have HM0 := Lib.hid hm0
                  have HM1 := Lib.hid hm1
                  have HJ := Lib.hid hjl
                  clear hF hm0 hm1 r2 hj hjl
                  by_cases hjn : j < l.length
                  · have d2 : decide (j < l.length) = true := decide_eq_true hjn
                    have d2' : decide ((j : Int) < (l.length : Int)) = true := decide_eq_true (by omega)
                    have p4 : ((j : Int) < (l.length : Int)) = True := eq_true (by omega)
                    obtain ⟨g3, hg3, y3, y4⟩ := r1.mark hjn
                    subst hg3
                    have hF2 : ∀ W', Below wr.heap.size wr W' → W'.cell? ⟨g3, j * 2, none⟩ = some (.int .i64 m0) ∧ W'.cell? ⟨g3, j * 2 + 1, none⟩ = some (.int .i64 m1) ∧ W'.cell? ⟨g2, j * 2, none⟩ = some (.int .i64 m0) ∧ W'.cell? ⟨g2, j * 2 + 1, none⟩ = some (.int .i64 m1) := fun W' hb => by
                      obtain ⟨_, _, _, ⟨z1, z2⟩, z3⟩ := HFF.out W' hb
                      obtain ⟨g', hg', z5, z6⟩ := z3.mark hjn
                      injection hg' with hg'
                      injection hg' with hg'
                      subst hg'
                      rw [← HM0.out, ← HM1.out]
                      exact ⟨z5, z6, z1, z2⟩
                    have HF2 := Lib.hid hF2
                    clear hF2 r1 y3 y4 hjn
                    go_upto_region 34 with fail
                    obtain ⟨o4, o5, o6, o7⟩ := HF2.out wr (Below.refl _ _)
                    obtain ⟨_, o1, o2, _, _⟩ := HFF.out wr (Below.refl _ _)
                    have q1 : wr.drew.cell? ⟨gg, k, none⟩ = some (.slice (some ⟨g3, 0, none⟩) l.length c3) := o1
                    have q2 : wr.drew.cell? ⟨gl, k, none⟩ = some (.slice (some ⟨g2, 0, none⟩) (l.length + 1) e3) := o2
                    have q4 : wr.drew.cell? ⟨g3, j * 2, none⟩ = some (.int .i64 m0) := o4
                    have q5 : wr.drew.cell? ⟨g3, j * 2 + 1, none⟩ = some (.int .i64 m1) := o5
                    have q6 : wr.drew.cell? ⟨g2, j * 2, none⟩ = some (.int .i64 m0) := o6
                    have q7 : wr.drew.cell? ⟨g2, j * 2 + 1, none⟩ = some (.int .i64 m1) := o7
                    clear o1 o2 o4 o5 o6 o7 y1 y2 x1 x2
                    go_region_held3 (fun W' => W'.cell? ⟨gg, k, none⟩ = some (.slice (some ⟨g3, 0, none⟩) l.length c3) ∧ W'.cell? ⟨gl, k, none⟩ = some (.slice (some ⟨g2, 0, none⟩) (l.length + 1) e3) ∧ W'.cell? ⟨g3, j * 2, none⟩ = some (.int .i64 m0) ∧ W'.cell? ⟨g3, j * 2 + 1, none⟩ = some (.int .i64 m1) ∧ W'.cell? ⟨g2, j * 2, none⟩ = some (.int .i64 m0) ∧ W'.cell? ⟨g2, j * 2 + 1, none⟩ = some (.int .i64 m1))
                      (first | with_reducible exact ⟨q1, q2, q4, q5, q6, q7⟩ | with_reducible exact ⟨v1, v2, v4, v5, v6, v7⟩ | with_reducible exact ⟨z1, z2, z4, z5, z6, z7⟩)
                      (first
                      | (go_at_call 46; refine (hmk _).mono ?_; clear hmk; rintro e w5a ⟨rfl, hb5⟩; have hb := Lib.hid ((Below.refl wr.heap.size wr).drew.trans (hb5.mono (Nat.le_refl _))); obtain ⟨z0, z1, z2, _, _⟩ := HFF.out w5a hb.out; obtain ⟨z4, z5, z6, z7⟩ := HF2.out w5a hb.out; clear hb5)
                      | (go_at_call 46; refine (hmk2 _).mono ?_; clear hmk2; rintro e w5b ⟨rfl, hb5⟩; have hb2 := Lib.hid (hb.out.trans (hb5.mono hb.out.size)); obtain ⟨v0, v1, v2, _, _⟩ := HFF.out w5b hb2.out; obtain ⟨v4, v5, v6, v7⟩ := HF2.out w5b hb2.out; clear hb5))
                    all_goals
                      go_wp2_with fail
                      go_roundw
                      case rel => exact ⟨j + 1, HJ.out, by go_num, Lib.hid v0⟩
                      case measure => have := HJ.out; simp [intOf]; omega
                  · obtain rfl : j = l.length := by have := HJ.out; omega
                    have d2 : decide (l.length < l.length) = false := decide_eq_false hjn
                    have hF2 : ∀ W', Below wr.heap.size wr W' → W'.cell? ⟨g2, l.length * 2, none⟩ = some (.int .i64 m0) ∧ W'.cell? ⟨g2, l.length * 2 + 1, none⟩ = some (.int .i64 m1) := fun W' hb => by
                      obtain ⟨_, _, _, ⟨z1, z2⟩, _⟩ := HFF.out W' hb
                      rw [← HM0.out, ← HM1.out]
                      exact ⟨z1, z2⟩
                    have HF2 := Lib.hid hF2
                    clear hF2 r1 hjn
                    go_upto_region 34 with fail
                    obtain ⟨o6, o7⟩ := HF2.out wr (Below.refl _ _)
                    obtain ⟨_, o1, o2, _, _⟩ := HFF.out wr (Below.refl _ _)
                    have q1 : wr.drew.cell? ⟨gg, k, none⟩ = some (.slice A3 l.length c3) := o1
                    have q2 : wr.drew.cell? ⟨gl, k, none⟩ = some (.slice (some ⟨g2, 0, none⟩) (l.length + 1) e3) := o2
                    have q6 : wr.drew.cell? ⟨g2, l.length * 2, none⟩ = some (.int .i64 m0) := o6
                    have q7 : wr.drew.cell? ⟨g2, l.length * 2 + 1, none⟩ = some (.int .i64 m1) := o7
                    clear o1 o2 o6 o7 y1 y2 x1 x2
                    refine wp_region_held_drew (S := fun W' => W'.cell? ⟨gg, k, none⟩ = some (.slice A3 l.length c3) ∧ W'.cell? ⟨gl, k, none⟩ = some (.slice (some ⟨g2, 0, none⟩) (l.length + 1) e3) ∧ W'.cell? ⟨g2, l.length * 2, none⟩ = some (.int .i64 m0) ∧ W'.cell? ⟨g2, l.length * 2 + 1, none⟩ = some (.int .i64 m1)) (by kernel_rfl) ⟨q1, q2, q6, q7⟩ (fun hHeld => ?_)
                    refine' wpAnyH_take (i := 0) (oi := _) (v := _) (by simp only [List.getElem?_toArray, List.getElem?_cons_succ, List.getElem?_cons_zero]; exact rfl) (by kernel_rfl) (by kernel_rfl) (by kernel_rfl) (by exact fun _ _ _ h => h) (Or.inl ⟨by kernel_rfl, ?hyY0⟩) (by assumption) ?hrR0
                    case hyY0 => (intro w hSw; (try dsimp only at hSw); go_simp; try with_reducible rfl)
                    try simp only [Act.put, List.setIfInBounds_toArray, List.set_cons_zero, List.set_cons_succ]
                    refine' wpAnyH_take (i := 1) (oi := _) (v := _) (by simp only [List.getElem?_toArray, List.getElem?_cons_succ, List.getElem?_cons_zero]; exact rfl) (by kernel_rfl) (by kernel_rfl) (by kernel_rfl) (by exact fun _ _ _ h => h) (Or.inl ⟨by kernel_rfl, ?hyY1⟩) (by assumption) ?hrR1
                    case hyY1 => (intro w hSw; (try dsimp only at hSw); go_simp; try with_reducible rfl)
                    try simp only [Act.put, List.setIfInBounds_toArray, List.set_cons_zero, List.set_cons_succ]
                    refine' wpAnyH_take (i := 2) (oi := _) (v := _) (by simp only [List.getElem?_toArray, List.getElem?_cons_succ, List.getElem?_cons_zero]; exact rfl) (by kernel_rfl) (by kernel_rfl) (by kernel_rfl) (by exact fun _ _ _ h => h) (Or.inl ⟨by kernel_rfl, ?hyY2⟩) (by assumption) ?hrR2
                    case hyY2 => (intro w hSw; (try dsimp only at hSw); go_simp; try with_reducible rfl)
                    try simp only [Act.put, List.setIfInBounds_toArray, List.set_cons_zero, List.set_cons_succ]
                    refine' wpAnyH_take (i := 3) (oi := _) (v := _) (by simp only [List.getElem?_toArray, List.getElem?_cons_succ, List.getElem?_cons_zero]; exact rfl) (by kernel_rfl) (by kernel_rfl) (by kernel_rfl) (by exact fun _ _ _ h => h) (Or.inl ⟨by kernel_rfl, ?hyY3⟩) (by assumption) ?hrR3
                    case hyY3 => (intro w hSw; (try dsimp only at hSw); go_simp; try with_reducible rfl)
                    try simp only [Act.put, List.setIfInBounds_toArray, List.set_cons_zero, List.set_cons_succ]
                    refine' wpAnyH_take (i := 4) (oi := _) (v := _) (by simp only [List.getElem?_toArray, List.getElem?_cons_succ, List.getElem?_cons_zero]; exact rfl) (by kernel_rfl) (by kernel_rfl) (by kernel_rfl) (by exact fun _ _ _ h => h) (Or.inl ⟨by kernel_rfl, ?hyY4⟩) (by assumption) ?hrR4
                    case hyY4 => (intro w hSw; (try dsimp only at hSw); go_simp; try with_reducible rfl)
                    try simp only [Act.put, List.setIfInBounds_toArray, List.set_cons_zero, List.set_cons_succ]
                    refine' wpAnyH_take (i := 5) (oi := _) (v := _) (by simp only [List.getElem?_toArray, List.getElem?_cons_succ, List.getElem?_cons_zero]; exact rfl) (by kernel_rfl) (by kernel_rfl) (by kernel_rfl) (by exact fun _ _ _ h => h) (Or.inl ⟨by kernel_rfl, ?hyY5⟩) (by assumption) ?hrR5
                    case hyY5 => (intro w hSw; (try dsimp only at hSw); go_simp; try with_reducible rfl)
                    try simp only [Act.put, List.setIfInBounds_toArray, List.set_cons_zero, List.set_cons_succ]
                    refine' wpAnyH_take (i := 6) (oi := _) (v := _) (by simp only [List.getElem?_toArray, List.getElem?_cons_succ, List.getElem?_cons_zero]; exact rfl) (by kernel_rfl) (by kernel_rfl) (by kernel_rfl) (by exact fun _ _ _ h => h) (Or.inl ⟨by kernel_rfl, ?hyY6⟩) (by assumption) ?hrR6
                    case hyY6 => (intro w hSw; (try dsimp only at hSw); go_simp; try with_reducible rfl)
                    try simp only [Act.put, List.setIfInBounds_toArray, List.set_cons_zero, List.set_cons_succ]
                    refine' wpAnyH_take (i := 7) (oi := _) (v := _) (by simp only [List.getElem?_toArray, List.getElem?_cons_succ, List.getElem?_cons_zero]; exact rfl) (by kernel_rfl) (by kernel_rfl) (by kernel_rfl) (by exact fun _ _ _ h => h) (Or.inl ⟨by kernel_rfl, ?hyY7⟩) (by assumption) ?hrR7
                    case hyY7 => (intro w hSw; (try dsimp only at hSw); go_simp; try with_reducible rfl)
                    try simp only [Act.put, List.setIfInBounds_toArray, List.set_cons_zero, List.set_cons_succ]
                    refine' wpAnyH_take (i := 8) (oi := _) (v := _) (by simp only [List.getElem?_toArray, List.getElem?_cons_succ, List.getElem?_cons_zero]; exact rfl) (by kernel_rfl) (by kernel_rfl) (by kernel_rfl) (by exact fun _ _ _ h => h) (Or.inl ⟨by kernel_rfl, ?hyY8⟩) (by assumption) ?hrR8
                    case hyY8 => (intro w hSw; (try dsimp only at hSw); go_simp; try with_reducible rfl)
                    try simp only [Act.put, List.setIfInBounds_toArray, List.set_cons_zero, List.set_cons_succ]
                    refine wpAnyH_ready (rs := [9]) (by kernel_rfl) (by simp) ?_
                    refine AllReadyH.cons rfl (fun K hK => ?_) AllReadyH.nil
                    go_simp
                    go_at_call 46
                    refine (hmk _).mono ?_
                    clear hmk
                    rintro e w5a ⟨rfl, hb5⟩
                    have hb := Lib.hid ((Below.refl wr.heap.size wr).drew.trans (hb5.mono (Nat.le_refl _)))
                    obtain ⟨z0, z1, z2, _, _⟩ := HFF.out w5a hb.out
                    obtain ⟨z6, z7⟩ := HF2.out w5a hb.out
                    clear hb5 hHeld
                    refine hK.out _ _ ⟨z1, z2, z6, z7⟩ (fun hHeld => ?_)
                    clear hK K
                    try simp only [Act.put, List.setIfInBounds_toArray, List.set_cons_zero, List.set_cons_succ]
                    refine' wpAnyH_take (i := 10) (oi := _) (v := _) (by simp only [List.getElem?_toArray, List.getElem?_cons_succ, List.getElem?_cons_zero]; exact rfl) (by kernel_rfl) (by kernel_rfl) (by kernel_rfl) (by exact fun _ _ _ h => h) (Or.inl ⟨by kernel_rfl, ?hyY10⟩) (by assumption) ?hrR10
                    case hyY10 => (intro w hSw; (try dsimp only at hSw); go_simp; try with_reducible rfl)
                    try simp only [Act.put, List.setIfInBounds_toArray, List.set_cons_zero, List.set_cons_succ]
                    refine' wpAnyH_take (i := 11) (oi := _) (v := _) (by simp only [List.getElem?_toArray, List.getElem?_cons_succ, List.getElem?_cons_zero]; exact rfl) (by kernel_rfl) (by kernel_rfl) (by kernel_rfl) (by exact fun _ _ _ h => h) (Or.inl ⟨by kernel_rfl, ?hyY11⟩) (by assumption) ?hrR11
                    case hyY11 => (intro w hSw; (try dsimp only at hSw); go_simp; try with_reducible rfl)
                    try simp only [Act.put, List.setIfInBounds_toArray, List.set_cons_zero, List.set_cons_succ]
                    refine' wpAnyH_take (i := 12) (oi := _) (v := _) (by simp only [List.getElem?_toArray, List.getElem?_cons_succ, List.getElem?_cons_zero]; exact rfl) (by kernel_rfl) (by kernel_rfl) (by kernel_rfl) (by exact fun _ _ _ h => h) (Or.inl ⟨by kernel_rfl, ?hyY12⟩) (by assumption) ?hrR12
                    case hyY12 => (intro w hSw; (try dsimp only at hSw); go_simp; try with_reducible rfl)
                    try simp only [Act.put, List.setIfInBounds_toArray, List.set_cons_zero, List.set_cons_succ]
                    refine' wpAnyH_take (i := 13) (oi := _) (v := _) (by simp only [List.getElem?_toArray, List.getElem?_cons_succ, List.getElem?_cons_zero]; exact rfl) (by kernel_rfl) (by kernel_rfl) (by kernel_rfl) (by exact fun _ _ _ h => h) (Or.inl ⟨by kernel_rfl, ?hyY13⟩) (by assumption) ?hrR13
                    case hyY13 => (intro w hSw; (try dsimp only at hSw); go_simp; try with_reducible rfl)
                    try simp only [Act.put, List.setIfInBounds_toArray, List.set_cons_zero, List.set_cons_succ]
                    refine' wpAnyH_take (i := 14) (oi := _) (v := _) (by simp only [List.getElem?_toArray, List.getElem?_cons_succ, List.getElem?_cons_zero]; exact rfl) (by kernel_rfl) (by kernel_rfl) (by kernel_rfl) (by exact fun _ _ _ h => h) (Or.inl ⟨by kernel_rfl, ?hyY14⟩) (by assumption) ?hrR14
                    case hyY14 => (intro w hSw; (try dsimp only at hSw); go_simp; try with_reducible rfl)
                    try simp only [Act.put, List.setIfInBounds_toArray, List.set_cons_zero, List.set_cons_succ]
                    refine' wpAnyH_take (i := 15) (oi := _) (v := _) (by simp only [List.getElem?_toArray, List.getElem?_cons_succ, List.getElem?_cons_zero]; exact rfl) (by kernel_rfl) (by kernel_rfl) (by kernel_rfl) (by exact fun _ _ _ h => h) (Or.inl ⟨by kernel_rfl, ?hyY15⟩) (by assumption) ?hrR15
                    case hyY15 => (intro w hSw; (try dsimp only at hSw); go_simp; try with_reducible rfl)
                    try simp only [Act.put, List.setIfInBounds_toArray, List.set_cons_zero, List.set_cons_succ]
                    refine' wpAnyH_take (i := 16) (oi := _) (v := _) (by simp only [List.getElem?_toArray, List.getElem?_cons_succ, List.getElem?_cons_zero]; exact rfl) (by kernel_rfl) (by kernel_rfl) (by kernel_rfl) (by exact fun _ _ _ h => h) (Or.inl ⟨by kernel_rfl, ?hyY16⟩) (by assumption) ?hrR16
                    case hyY16 => (intro w hSw; (try dsimp only at hSw); go_simp; try with_reducible rfl)
                    try simp only [Act.put, List.setIfInBounds_toArray, List.set_cons_zero, List.set_cons_succ]
                    refine' wpAnyH_take (i := 17) (oi := _) (v := _) (by simp only [List.getElem?_toArray, List.getElem?_cons_succ, List.getElem?_cons_zero]; exact rfl) (by kernel_rfl) (by kernel_rfl) (by kernel_rfl) (by exact fun _ _ _ h => h) (Or.inl ⟨by kernel_rfl, ?hyY17⟩) (by assumption) ?hrR17
                    case hyY17 => (intro w hSw; (try dsimp only at hSw); go_simp; try with_reducible rfl)
                    try simp only [Act.put, List.setIfInBounds_toArray, List.set_cons_zero, List.set_cons_succ]
                    refine' wpAnyH_take (i := 18) (oi := _) (v := _) (by simp only [List.getElem?_toArray, List.getElem?_cons_succ, List.getElem?_cons_zero]; exact rfl) (by kernel_rfl) (by kernel_rfl) (by kernel_rfl) (by exact fun _ _ _ h => h) (Or.inl ⟨by kernel_rfl, ?hyY18⟩) (by assumption) ?hrR18
                    case hyY18 => (intro w hSw; (try dsimp only at hSw); go_simp; try with_reducible rfl)
                    try simp only [Act.put, List.setIfInBounds_toArray, List.set_cons_zero, List.set_cons_succ]
                    refine' wpAnyH_take (i := 19) (oi := _) (v := _) (by simp only [List.getElem?_toArray, List.getElem?_cons_succ, List.getElem?_cons_zero]; exact rfl) (by kernel_rfl) (by kernel_rfl) (by kernel_rfl) (by exact fun _ _ _ h => h) (Or.inl ⟨by kernel_rfl, ?hyY19⟩) (by assumption) ?hrR19
                    case hyY19 => (intro w hSw; (try dsimp only at hSw); go_simp; try with_reducible rfl)
                    try simp only [Act.put, List.setIfInBounds_toArray, List.set_cons_zero, List.set_cons_succ]
                    refine' wpAnyH_take (i := 20) (oi := _) (v := undef) (by simp only [List.getElem?_toArray, List.getElem?_cons_succ, List.getElem?_cons_zero]; exact rfl) (by kernel_rfl) (by kernel_rfl) (by kernel_rfl) (by exact fun _ _ _ h => h) (Or.inr ⟨by kernel_rfl, rfl⟩) (by assumption) ?hrR20
                    try simp only [Act.put, List.setIfInBounds_toArray, List.set_cons_zero, List.set_cons_succ]
                    refine' wpAnyH_take (i := 21) (oi := _) (v := undef) (by simp only [List.getElem?_toArray, List.getElem?_cons_succ, List.getElem?_cons_zero]; exact rfl) (by kernel_rfl) (by kernel_rfl) (by kernel_rfl) (by exact fun _ _ _ h => h) (Or.inr ⟨by kernel_rfl, rfl⟩) (by assumption) ?hrR21
                    try simp only [Act.put, List.setIfInBounds_toArray, List.set_cons_zero, List.set_cons_succ]
                    refine' wpAnyH_take (i := 22) (oi := _) (v := undef) (by simp only [List.getElem?_toArray, List.getElem?_cons_succ, List.getElem?_cons_zero]; exact rfl) (by kernel_rfl) (by kernel_rfl) (by kernel_rfl) (by exact fun _ _ _ h => h) (Or.inr ⟨by kernel_rfl, rfl⟩) (by assumption) ?hrR22
                    try simp only [Act.put, List.setIfInBounds_toArray, List.set_cons_zero, List.set_cons_succ]
                    refine' wpAnyH_take (i := 23) (oi := _) (v := undef) (by simp only [List.getElem?_toArray, List.getElem?_cons_succ, List.getElem?_cons_zero]; exact rfl) (by kernel_rfl) (by kernel_rfl) (by kernel_rfl) (by exact fun _ _ _ h => h) (Or.inr ⟨by kernel_rfl, rfl⟩) (by assumption) ?hrR23
                    try simp only [Act.put, List.setIfInBounds_toArray, List.set_cons_zero, List.set_cons_succ]
                    refine' wpAnyH_take (i := 24) (oi := _) (v := undef) (by simp only [List.getElem?_toArray, List.getElem?_cons_succ, List.getElem?_cons_zero]; exact rfl) (by kernel_rfl) (by kernel_rfl) (by kernel_rfl) (by exact fun _ _ _ h => h) (Or.inr ⟨by kernel_rfl, rfl⟩) (by assumption) ?hrR24
                    try simp only [Act.put, List.setIfInBounds_toArray, List.set_cons_zero, List.set_cons_succ]
                    refine' wpAnyH_take (i := 25) (oi := _) (v := undef) (by simp only [List.getElem?_toArray, List.getElem?_cons_succ, List.getElem?_cons_zero]; exact rfl) (by kernel_rfl) (by kernel_rfl) (by kernel_rfl) (by exact fun _ _ _ h => h) (Or.inr ⟨by kernel_rfl, rfl⟩) (by assumption) ?hrR25
                    try simp only [Act.put, List.setIfInBounds_toArray, List.set_cons_zero, List.set_cons_succ]
                    refine' wpAnyH_take (i := 26) (oi := _) (v := undef) (by simp only [List.getElem?_toArray, List.getElem?_cons_succ, List.getElem?_cons_zero]; exact rfl) (by kernel_rfl) (by kernel_rfl) (by kernel_rfl) (by exact fun _ _ _ h => h) (Or.inr ⟨by kernel_rfl, rfl⟩) (by assumption) ?hrR26
                    try simp only [Act.put, List.setIfInBounds_toArray, List.set_cons_zero, List.set_cons_succ]
                    refine' wpAnyH_take (i := 27) (oi := _) (v := undef) (by simp only [List.getElem?_toArray, List.getElem?_cons_succ, List.getElem?_cons_zero]; exact rfl) (by kernel_rfl) (by kernel_rfl) (by kernel_rfl) (by exact fun _ _ _ h => h) (Or.inr ⟨by kernel_rfl, rfl⟩) (by assumption) ?hrR27
                    try simp only [Act.put, List.setIfInBounds_toArray, List.set_cons_zero, List.set_cons_succ]
                    refine' wpAnyH_take (i := 28) (oi := _) (v := undef) (by simp only [List.getElem?_toArray, List.getElem?_cons_succ, List.getElem?_cons_zero]; exact rfl) (by kernel_rfl) (by kernel_rfl) (by kernel_rfl) (by exact fun _ _ _ h => h) (Or.inr ⟨by kernel_rfl, rfl⟩) (by assumption) ?hrR28
                    try simp only [Act.put, List.setIfInBounds_toArray, List.set_cons_zero, List.set_cons_succ]
                    refine' wpAnyH_take (i := 29) (oi := _) (v := undef) (by simp only [List.getElem?_toArray, List.getElem?_cons_succ, List.getElem?_cons_zero]; exact rfl) (by kernel_rfl) (by kernel_rfl) (by kernel_rfl) (by exact fun _ _ _ h => h) (Or.inr ⟨by kernel_rfl, rfl⟩) (by assumption) ?hrR29
                    try simp only [Act.put, List.setIfInBounds_toArray, List.set_cons_zero, List.set_cons_succ]
                    refine' wpAnyH_take (i := 30) (oi := _) (v := undef) (by simp only [List.getElem?_toArray, List.getElem?_cons_succ, List.getElem?_cons_zero]; exact rfl) (by kernel_rfl) (by kernel_rfl) (by kernel_rfl) (by exact fun _ _ _ h => h) (Or.inr ⟨by kernel_rfl, rfl⟩) (by assumption) ?hrR30
                    try simp only [Act.put, List.setIfInBounds_toArray, List.set_cons_zero, List.set_cons_succ]
                    refine' wpAnyH_take (i := 31) (oi := _) (v := _) (by simp only [List.getElem?_toArray, List.getElem?_cons_succ, List.getElem?_cons_zero]; exact rfl) (by kernel_rfl) (by kernel_rfl) (by kernel_rfl) (by exact fun _ _ _ h => h) (Or.inl ⟨by kernel_rfl, ?hyY31⟩) (by assumption) ?hrR31
                    case hyY31 => (intro w hSw; (try dsimp only at hSw); go_simp; try with_reducible rfl)
                    try simp only [Act.put, List.setIfInBounds_toArray, List.set_cons_zero, List.set_cons_succ]
                    refine' wpAnyH_take (i := 32) (oi := _) (v := _) (by simp only [List.getElem?_toArray, List.getElem?_cons_succ, List.getElem?_cons_zero]; exact rfl) (by kernel_rfl) (by kernel_rfl) (by kernel_rfl) (by exact fun _ _ _ h => h) (Or.inl ⟨by kernel_rfl, ?hyY32⟩) (by assumption) ?hrR32
                    case hyY32 => (intro w hSw; (try dsimp only at hSw); go_simp; try with_reducible rfl)
                    try simp only [Act.put, List.setIfInBounds_toArray, List.set_cons_zero, List.set_cons_succ]
                    refine wpAnyH_done (by kernel_rfl) ?_ _
                    go_wp2_with fail
                    go_roundw
                    case rel => exact ⟨l.length + 1, Nat.le_refl _, by go_num, Lib.hid z0⟩
                    case measure => simp [intOf] <;> omega
                · obtain rfl : j = l.length + 1 := by omega
                  have e1 : (((l.length + 1 : Nat) : Int)) = (l.length : Int) + 1 := by omega
                  rw [e1]
                  have d1 : decide ((l.length : Int) + 1 < (l.length : Int) + 1) = false := decide_eq_false (by omega)
                  clear r1 r2 hjl hj jb e1
                  go_wp2_with fail
                  go_roundw
                  case rel => exact ⟨k + 1, HC.out, by go_num, HBj⟩
                  case measure => have := HC.out; simp [intOf]; omega
            · obtain rfl : k = 7 := by omega
              rw [show (((7 : Nat) : Int)) = 7 from rfl]
              have d0 : decide ((7 : Int) < 7) = false := rfl
              clear hk hc kb
              have hK : ∀ g, ((∃ u ∈ vs, u.ownBlock = some g) ∨ W2.heap.size ≤ g) → w15.heap.size ≤ g := fun g hg => by
                rcases hg with ⟨u, hu, hg⟩ | hg
                · exact (G2.out.toPend.lt hu hg).1
                · exact Nat.le_trans S2'.out.le hg
              have S4 := Lib.hid ((S2'.out.only HM.out.only hK).below HB3.out)
              have O4 := Lib.hid (HM.out.only.trans (Only.of_below HB3.out rfl))
              obtain ⟨gw, hgw⟩ := row_some HWn.out.row (by decide)
              subst hgw
              clear hK HALL HM HB3
              generalize wr = W4 at *
              have z3 : ∀ W', Base w W' w15.heap.size O _ → W'.cell? ⟨w.heap.size, 3, none⟩ = some (.int .i64 pa) ∧ W'.cell? ⟨w.heap.size, 4, none⟩ = some (.int .i64 nn) := fun W' (h : Base w W' w15.heap.size O [(D8, d8, b ++ tail3), (D7, d7, a ++ tail3), (some ⟨gB1, 0, none⟩, dB, b ++ tail3), (some ⟨gB1, 0, none⟩, dB, b), (some ⟨gA1, 0, none⟩, dA, a ++ tail3), (some ⟨gA1, 0, none⟩, dA, a), (D6, d6, b), (D3, d3, a)]) => by have := h.box; rw [← HO.out] at this; exact ⟨cell_of' this 3, cell_of' this 4⟩
              have ht : True := trivial
              go_upto_region 38 with (first
                | (go_at_call 25; clear ht; refine (fsA _ (gA S4.out (by simp)) (gA S4.out (by simp))).mono ?_; rintro e w25 ⟨rfl, hb25⟩; have S25 := Lib.hid (S4.out.below hb25); have O25 := Lib.hid (O4.out.trans (Only.of_below hb25 rfl)); clear S4 O4 hb25)
                | (go_at_call 25; refine (fsB _ (gB S25.out (by simp)) (gB S25.out (by simp))).mono ?_; rintro e w26 ⟨rfl, hb26⟩; have S26 := Lib.hid (S25.out.below hb26); have O26 := Lib.hid (O25.out.trans (Only.of_below hb26 rfl)); clear S25 O25 hb26))
              obtain ⟨x3, x4⟩ := z3 w26 S26.out
              go_upto_region 39 with (go_at_call 45; refine (fg _ (some ⟨gA1, 0, none⟩) (some ⟨gB1, 0, none⟩) dA dB (S26.out.get (by simp) GG.out.1) (S26.out.get (by simp) GG.out.2.1)).mono ?_; rintro e w27 ⟨gg2, vs2, rfl, hG27, hb27⟩; have S27 := Lib.hid (S26.out.below hb27); have O27 := Lib.hid (O26.out.trans (Only.of_below hb27 rfl)); have G27 := Lib.hid hG27; clear S26 O26 hG27 hb27 x3 x4)
              have HWG := Lib.hid (fun (W' : World) (hb : Below w27.heap.size w27 W') (k : Nat) (hk : k < 7) (l : List S36) (hl : ls[k]? = some l) (hs : Short l) => HWn.out.get (O27.out.trans (Only.of_below hb rfl)) (fun g h1 h2 h3 => by
                rcases h3 with ⟨u, hu, hg⟩ | h3
                · have h4 := (G18n.out.lt hu hg).2.1
                  omega
                · omega) hk hl hs)
              go_wp2_with fail
              go_loopw [22] (fun v22 wx => ∃ k : Nat, k ≤ 7 ∧ v22 = .int .i64 (k : Int) ∧ Hid (Below w27.heap.size w27 wx)) (fun v22 _ => 7 - (intOf v22).toNat)
              case atStart => exact ⟨0, by omega, rfl, Below.refl _ _⟩
              case round =>
                obtain ⟨k, hk, rfl, HBk⟩ := hrel
                have kb : (k : Int) ≤ 7 := by omega
                by_cases hc : k < 7
                · have d0 : decide ((k : Int) < 7) = true := decide_eq_true (by omega)
                  obtain ⟨l, hl⟩ : ∃ l, ls[k]? = some l := ⟨_, List.getElem?_eq_getElem (by rw [HL7.out]; exact hc)⟩
                  have hsl := HLs.out l (List.mem_of_getElem? hl)
                  obtain ⟨A3, c3, _, x3, hc3, hC3⟩ := (G27.out.below HBk.out).at_ hl hsl
                  obtain ⟨A4, c4, x4, hc4, hC4⟩ := HWG.out wr HBk.out k hc l hl hsl
                  have p0 : (0 ≤ (k : Int)) = True := eq_true (by omega)
                  have p1 : ((k : Int) < 7) = True := eq_true (by omega)
                  have hsm := same_true hsl wr.drew (A := A3) (A' := A4) (c := c3) (c' := c4) ⟨hc3, Kd.C_drew hC3⟩ ⟨hc4, Kd.C_drew hC4⟩
                  have HC := Lib.hid hc
                  clear hc hl hsl hc3 hC3 hc4 hC4 hk
                  go_upto_region 42 with fail
                  go_region_with (go_at_call 25; refine hsm.mono ?_; clear hsm; rintro e w28 ⟨rfl, hb28⟩; have hb := Lib.hid (HBk.out.trans (((Below.refl wr.heap.size wr).drew.trans (hb28.mono (Nat.le_refl _))).mono HBk.out.size)); clear hb28)
                  all_goals
                    go_wp2_with fail
                    go_roundw
                    case rel => exact ⟨k + 1, HC.out, by go_num, hb⟩
                    case measure => have := HC.out; simp [intOf]; omega
                · obtain rfl : k = 7 := by omega
                  rw [show (((7 : Nat) : Int)) = 7 from rfl]
                  have d0 : decide ((7 : Int) < 7) = false := rfl
                  obtain ⟨A4, c4, x4, hc4, hC4⟩ := HWG.out wr HBk.out 0 (by decide) a HL0.out (HLs.out a (List.mem_of_getElem? HL0.out))
                  have S28 := S27.out.below HBk.out
                  have hsm := fsa wr (A := A4) (c := c4) ⟨hc4, hC4⟩ (S28.get (A := D3) (c := d3) (by simp) GG.out.1)
                  have HBl := Lib.hid S28.bel
                  clear hk hc kb hc4 hC4 S28
                  go_wp2_with (go_at_call 25; refine hsm.mono ?_; rintro e w29 ⟨rfl, hb29⟩; have HB29 := Lib.hid (HBl.out.trans (hb29.mono HBl.out.size)); clear hb29)
                  go_ret
                  exact ⟨rfl, HB29.out⟩
end Go.Proofs.Ytmidiifgdloojaa.SpanEach
end
section
namespace Go.Proofs.Ytmidiifgdloojaa.SpanReads
open Go.RowKit Go.Proofs.YtmidiifgdloojaaR Go.Proofs.YtmidiifgdloojaaW.PrintWords Go.Proofs.Ytmidiifgdloojaa.Pr
abbrev SIn : Type := List S36 × List S36 × List Int × Int × Int
abbrev kIn : Kd SIn := Kd.pair (Kd.slice 36 k36) (Kd.pair (Kd.slice 36 k36) (Kd.pair (Kd.slice 3 (Kd.int .i64)) (Kd.pair (Kd.int .i64) (Kd.int .i64))))
theorem readsInts : Reads Try.prog 23 (Kd.slice 3 (Kd.int .i64)) (fun l => l.length * 8 ≤ 140737488351232 ∧ ∀ x ∈ l, (Lit.int .i64 x).wf = true) := reads_slice (by kernel_rfl) (by kernel_rfl) (by kernel_rfl) reads3
abbrev WfIn (x : SIn) : Prop := WfL x.1 ∧ WfL x.2.1 ∧ (x.2.2.1.length * 8 ≤ 140737488351232 ∧ ∀ y ∈ x.2.2.1, (Lit.int .i64 y).wf = true) ∧ (Lit.int .i64 x.2.2.2.1).wf = true ∧ (Lit.int .i64 x.2.2.2.2).wf = true
theorem reads25 : Reads Try.prog 25 (Kd.iso kIn (fun x : SIn => x)) WfIn := by
  have h4 : ReadsL Try.prog 4 [{ name := "N", type := 3, offset := 4, embedded := false, tag := "", pkgPath := "", byteOffset := 80 }] (Kd.int .i64) _ := readsL_one reads3 rfl (by kernel_rfl)
  have h3 : ReadsL Try.prog 3 [{ name := "At", type := 3, offset := 3, embedded := false, tag := "", pkgPath := "", byteOffset := 72 }, _] (Kd.pair (Kd.int .i64) (Kd.int .i64)) _ := readsL_cons reads3 rfl (by kernel_rfl) h4
  have h2 : ReadsL Try.prog 2 [{ name := "Places", type := 23, offset := 2, embedded := false, tag := "", pkgPath := "", byteOffset := 48 }, _, _] (Kd.pair (Kd.slice 3 (Kd.int .i64)) (Kd.pair (Kd.int .i64) (Kd.int .i64))) _ := readsL_cons readsInts rfl (by kernel_rfl) h3
  have h1 : ReadsL Try.prog 1 [{ name := "Others", type := 22, offset := 1, embedded := false, tag := "", pkgPath := "", byteOffset := 24 }, _, _, _] (Kd.pair (Kd.slice 36 k36) (Kd.pair (Kd.slice 3 (Kd.int .i64)) (Kd.pair (Kd.int .i64) (Kd.int .i64)))) _ := readsL_cons reads22 rfl (by kernel_rfl) h2
  have h0 : ReadsL Try.prog 0 [{ name := "Some", type := 22, offset := 0, embedded := false, tag := "", pkgPath := "", byteOffset := 0 }, _, _, _, _] kIn _ := readsL_cons reads22 rfl (by kernel_rfl) h1
  exact reads_struct (fun y => y) (fun _ => rfl) Try.underlying25 (by kernel_rfl) h0
theorem agg_of_cells {v a b c d e : Value} (h : v.cells.toList = [a, b, c, d, e]) : v = .agg #[a, b, c, d, e] := by
  cases v <;> simp [Value.cells] at h
  rename_i arr
  cases arr
  simp_all
theorem open25 {w : World} {x : SIn} {v : Value} (h : (Kd.iso kIn (fun x : SIn => x)).K w x v.cells.toList) : ∃ A0 c0 A1 c1 A2 c2, v = .agg #[.slice A0 x.1.length c0, .slice A1 x.2.1.length c1, .slice A2 x.2.2.1.length c2, .int .i64 x.2.2.2.1, .int .i64 x.2.2.2.2] ∧
    Kd.C k36 w A0 x.1.length x.1 ∧ x.1.length ≤ c0 ∧ Kd.C k36 w A1 x.2.1.length x.2.1 ∧ x.2.1.length ≤ c1 ∧ Kd.C (Kd.int .i64) w A2 x.2.2.1.length x.2.2.1 ∧ x.2.2.1.length ≤ c2 := by
  obtain ⟨_, _, hv, ⟨A0, c0, rfl, h1, h2⟩, _, _, rfl, ⟨A1, c1, rfl, h3, h4⟩, _, _, rfl, ⟨A2, c2, rfl, h5, h6⟩, _, _, rfl, rfl, rfl⟩ := h
  exact ⟨A0, c0, A1, c1, A2, c2, agg_of_cells hv, h2, h1, h4, h3, h6, h5⟩
end Go.Proofs.Ytmidiifgdloojaa.SpanReads
end
