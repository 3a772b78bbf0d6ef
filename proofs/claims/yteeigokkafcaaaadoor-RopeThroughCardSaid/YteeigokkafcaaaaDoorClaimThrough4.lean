/- Proved: bump then insert is insert then bump of the carried list; for all inputs. -/
import Derived.Test.YteeigokkafcaaaaDoorClaimThrough3
section
namespace Go.Proofs.YteeigokkafcaaaaDoor.Pr
open Go.RowKit Go.Proofs.YteeigokkafcaaaaDoorW.PrintWords Go.Proofs.YteeigokkafcaaaaDoorW.PrintLast Go.Proofs.YteeigokkafcaaaaDoorW.PrintMore
attribute [local go_sem] max2_int min2_int max_two min_two max_three min_three max_four min_four
set_option linter.unusedVariables false
set_option linter.unusedSimpArgs false
mutual
def redraftlaw03_parts.l0 : Nat → List (S133) → Int → List (S133) → Int → Option ((List (S133)))
 | 0, _, _, _, _ => none
 | k + 1, x0, x1, x5, x6 => if x6 < (x0.length : Int) then (redraftlaw03_parts.j1 k x0 x1 x5 x6 (decide (x6 < 24))) else (redraftlaw03_parts.j1 k x0 x1 x5 x6 false)
def redraftlaw03_parts.j1 : Nat → List (S133) → Int → List (S133) → Int → Bool → Option ((List (S133)))
 | 0, _, _, _, _, _ => none
 | k + 1, x0, x1, x5, x6, x15 => if x15 = true then (if 0 ≤ x6 then (if x6 < (x0.length : Int) then ((redraftlaw03_rest.f ((rd_T133 x0 x6).f0) (wrap64 (x1 + 1))).bind fun t312 => ((redraftlaw03_rest.f ((rd_T133 x0 x6).f1) (wrap64 ((wrap64 (x1 - t312)) + 1))).bind fun t314 => (if x5.length < 8796093022208 then (redraftlaw03_parts.l0 k x0 x1 (x5 ++ [(⟨t312, wrap64 (t312 + t314)⟩ : S133)]) (wrap64 (x6 + 1))) else (none)))) else (none)) else (none)) else (some x5)
end
def redraftlaw03_parts.f (k : Nat) (l0 : List (S133)) (a1 : Int) : Option ((List (S133))) := redraftlaw03_parts.l0 k l0 a1 ([] : List (S133)) 0
theorem redraftlaw03_parts.mono_l : ∀ k, (∀ y0 y1 y2 y3, LeO (redraftlaw03_parts.l0 k y0 y1 y2 y3) (redraftlaw03_parts.l0 (k + 1) y0 y1 y2 y3)) ∧ (∀ y0 y1 y2 y3 y4, LeO (redraftlaw03_parts.j1 k y0 y1 y2 y3 y4) (redraftlaw03_parts.j1 (k + 1) y0 y1 y2 y3 y4))
 | 0 => ⟨fun _ _ _ _ r h => by simp [redraftlaw03_parts.l0] at h, fun _ _ _ _ _ r h => by simp [redraftlaw03_parts.j1] at h⟩
 | k + 1 => by
  obtain ⟨ih0, ih1⟩ := redraftlaw03_parts.mono_l k
  refine ⟨?_, ?_⟩
  ·intro y0 y1 y2 y3
   unfold redraftlaw03_parts.l0
   repeat' first
   | (with_reducible exact ih0 _ _ _ _)
   | (with_reducible exact ih1 _ _ _ _ _)
   | (with_reducible exact LeO.refl _)
   | (with_reducible exact LeO.none _)
   | (with_reducible refine LeO.ite ?_ ?_)
   | (with_reducible refine LeO.bind ?_ (fun _ => ?_))
   | exact ih0 _ _ _ _
   | exact ih1 _ _ _ _ _
   | exact LeO.none _
   | refine LeO.ite ?_ ?_
   | refine LeO.bind ?_ (fun _ => ?_)
  ·intro y0 y1 y2 y3 y4
   unfold redraftlaw03_parts.j1
   repeat' first
   | (with_reducible exact ih0 _ _ _ _)
   | (with_reducible exact ih1 _ _ _ _ _)
   | (with_reducible exact LeO.refl _)
   | (with_reducible exact LeO.none _)
   | (with_reducible refine LeO.ite ?_ ?_)
   | (with_reducible refine LeO.bind ?_ (fun _ => ?_))
   | exact ih0 _ _ _ _
   | exact ih1 _ _ _ _ _
   | exact LeO.none _
   | refine LeO.ite ?_ ?_
   | refine LeO.bind ?_ (fun _ => ?_)
theorem redraftlaw03_parts.mono : ∀ a0 a1 k, LeO (redraftlaw03_parts.f k a0 a1) (redraftlaw03_parts.f (k + 1) a0 a1) := by
 intro a0 a1 k
 obtain ⟨ih0, ih1⟩ := redraftlaw03_parts.mono_l k
 unfold redraftlaw03_parts.f
 repeat' first
   | (with_reducible exact ih0 _ _ _ _)
   | (with_reducible exact ih1 _ _ _ _ _)
   | (with_reducible exact LeO.refl _)
   | (with_reducible exact LeO.none _)
   | (with_reducible refine LeO.ite ?_ ?_)
   | (with_reducible refine LeO.bind ?_ (fun _ => ?_))
   | exact ih0 _ _ _ _
   | exact ih1 _ _ _ _ _
   | exact LeO.none _
   | refine LeO.ite ?_ ?_
   | refine LeO.bind ?_ (fun _ => ?_)
set_option maxHeartbeats 8000000 in
set_option maxRecDepth 100000 in
theorem redraftlaw03_parts.calls (k : Nat) (A0 : Option Addr) (c0 : Nat) (l0 : List (S133)) (a1 : Int) (r : List (S133)) (w : World) (hr0 : Kd.C k133 w A0 l0.length l0) (hc0 : l0.length ≤ c0) (h : redraftlaw03_parts.f k l0 a1 = some r) :
  Calls Tryd.prog 47 #[.slice A0 l0.length c0, .int .i64 a1] w fun e w' => ∃ v0_ : Value, e = .returned (v0_) ∧ Kd.R k133 133 w' w.heap.size (fun _ => True) v0_ r ∧ Below w.heap.size w w' := by
 have hu133 := Tryd.underlying133
 have HR0 := Aside0.mk hr0
 have HC0 := Aside0.mk hc0
 clear hr0 hc0
 have HB := Aside0.mk (Below.refl w.heap.size w)
 have H : (redraftlaw03_parts.l0 k l0 a1 ([] : List (S133)) 0) = some r := h
 clear h
 have H' := Aside0.mk H
 clear H
 go_enter Tryd.func47, Tryd.ntmps47
 go_wp2
 go_loopg [5, 6] k (fun kq v5 v6 w' => ∃ (x5_1 : List (S133)) (x6_1 : Int), v6 = .int .i64 x6_1 ∧ Aside0 (redraftlaw03_parts.l0 kq l0 a1 x5_1 x6_1 = some r) ∧ Aside0 (kq ≤ k) ∧ Aside0 (Kd.R k133 133 w' w.heap.size (fun _ => True) v5 x5_1) ∧ Aside0 (Below w.heap.size w w'))
 case atStart => exact ⟨(([] : List (S133))), (0), (by first | rfl | (simp; done) | (simp [*]; done)), H', ⟨Nat.le_refl _⟩, ⟨by first | exact Kd.R_nil _ _ _ _ _ | exact Kd.N_nil _ _ _ _ _ | exact Kd.V_nil _ _ _ _ _ | exact Kd.Q_nil _ _ _ _ _ | exact Kd.S_nil _ _ _ _ _⟩, ⟨by repeat (first | (with_reducible first | exact HB.out | apply below_alloc | apply pw_below_drewN | apply below_drew1) | exact HB.out)⟩⟩
 case round =>
  clear H'
  try clear p2
  obtain ⟨x5_1, x6_1, rfl, HA, HK1, HO_5, HB⟩ := hrel
  cases gk with
  | zero => exact absurd HA.out (by simp [redraftlaw03_parts.l0])
  | succ k1 =>
   have H := HA.out
   clear HA
   simp only [redraftlaw03_parts.l0] at H
   have HC3 := Aside0.mk H
   clear H
   go_upto_region 3 with (fail)
   go_cut [15] (fun v15 wc => ∃ (kq : Nat) (x15_2 : Bool), v15 = .bool x15_2 ∧ Aside0 (redraftlaw03_parts.j1 kq l0 a1 x5_1 x6_1 x15_2 = some r) ∧ Aside0 (kq ≤ k1) ∧ Aside0 (Kd.R k133 133 wc w.heap.size (fun _ => True) u5 x5_1) ∧ Aside0 (Below w.heap.size w wc))
   case first =>
    have H := HC3.out
    clear HC3
    by_cases c4 : x6_1 < (l0.length : Int)
    ·rw [if_pos c4] at H
     have c4b0 : decide (x6_1 < (l0.length : Int)) = true := decide_eq_true c4
     clear c4
     (first | rw [c4b0] | (simp only [i64_w, i32_w]; rw [c4b0]) | skip)
     have H' := Aside0.mk H
     clear H
     go_wp2
     go_meet
     case rel => exact ⟨_, (decide (x6_1 < 24)), (by first | rfl | (simp; done) | (simp [*]; done)), H', ⟨by have := HK1.out; first | omega | exact Nat.le_refl _⟩, ⟨by (with_reducible repeat (first | apply Kd.R_alloc | apply Kd.R_drewN | apply Kd.R_drew)); exact HO_5.out⟩, ⟨by repeat (first | (with_reducible first | exact HB.out | apply below_alloc | apply pw_below_drewN | apply below_drew1) | exact HB.out)⟩⟩
    ·rw [if_neg c4] at H
     have c4b0 : decide (x6_1 < (l0.length : Int)) = false := decide_eq_false c4
     clear c4
     (first | rw [c4b0] | (simp only [i64_w, i32_w]; rw [c4b0]) | skip)
     have H' := Aside0.mk H
     clear H
     go_wp2
     go_meet
     case rel => exact ⟨_, (false), (by first | rfl | (simp; done) | (simp [*]; done)), H', ⟨by have := HK1.out; first | omega | exact Nat.le_refl _⟩, ⟨by (with_reducible repeat (first | apply Kd.R_alloc | apply Kd.R_drewN | apply Kd.R_drew)); exact HO_5.out⟩, ⟨by repeat (first | (with_reducible first | exact HB.out | apply below_alloc | apply pw_below_drewN | apply below_drew1) | exact HB.out)⟩⟩
   case rest =>
    clear HC3
    try clear p2
    try clear c4
    try clear c4b0
    try clear p2
    obtain ⟨kq, x15_2, rfl, HA, HJ2, HO_5, HB⟩ := hcut
    cases kq with
    | zero => exact absurd HA.out (by simp [redraftlaw03_parts.j1])
    | succ kj2 =>
     have H := HA.out
     clear HA
     simp only [redraftlaw03_parts.j1] at H
     by_cases c5 : x15_2 = true
     ·subst c5
      have H1 : (if 0 ≤ x6_1 then (if x6_1 < (l0.length : Int) then ((redraftlaw03_rest.f ((rd_T133 l0 x6_1).f0) (wrap64 (a1 + 1))).bind fun t312 => ((redraftlaw03_rest.f ((rd_T133 l0 x6_1).f1) (wrap64 ((wrap64 (a1 - t312)) + 1))).bind fun t314 => (if x5_1.length < 8796093022208 then (redraftlaw03_parts.l0 kj2 l0 a1 (x5_1 ++ [(⟨t312, wrap64 (t312 + t314)⟩ : S133)]) (wrap64 (x6_1 + 1))) else (none)))) else (none)) else (none)) = some r := by rw [if_pos rfl] at H; exact H
      clear H
      have H := H1
      clear H1
      by_cases c6 : 0 ≤ x6_1
      ·rw [if_pos c6] at H
       have c6b0 : decide (0 ≤ x6_1) = true := decide_eq_true c6
       clear c6
       by_cases c7 : x6_1 < (l0.length : Int)
       ·rw [if_pos c7] at H
        have c7b0 : decide (x6_1 < (l0.length : Int)) = true := decide_eq_true c7
        clear c7
        replace H := Option.bind_eq_some_iff.mp H
        obtain ⟨t312, A80, H⟩ := H
        replace H : ((redraftlaw03_rest.f ((rd_T133 l0 x6_1).f1) (wrap64 ((wrap64 (a1 - t312)) + 1))).bind fun t314 => (if x5_1.length < 8796093022208 then (redraftlaw03_parts.l0 kj2 l0 a1 (x5_1 ++ [(⟨t312, wrap64 (t312 + t314)⟩ : S133)]) (wrap64 (x6_1 + 1))) else (none))) = some r := H
        have A8 := Aside0.mk A80
        clear A80
        replace H := Option.bind_eq_some_iff.mp H
        obtain ⟨t314, A90, H⟩ := H
        replace H : (if x5_1.length < 8796093022208 then (redraftlaw03_parts.l0 kj2 l0 a1 (x5_1 ++ [(⟨t312, wrap64 (t312 + t314)⟩ : S133)]) (wrap64 (x6_1 + 1))) else (none)) = some r := H
        have A9 := Aside0.mk A90
        clear A90
        by_cases c10 : x5_1.length < 8796093022208
        ·rw [if_pos c10] at H
         have LMc10 := Aside0.mk c10
         clear c10
         obtain ⟨y315, hy315⟩ : ∃ y_ : List (S133), y_ = (x5_1 ++ [(⟨t312, wrap64 (t312 + t314)⟩ : S133)]) := ⟨_, rfl⟩
         replace H : (redraftlaw03_parts.l0 kj2 l0 a1 y315 (wrap64 (x6_1 + 1))) = some r := by first | (rw [hy315]; with_reducible exact H) | (have H2_ := (Option.bind_some _ _).symm.trans H; rw [hy315]; with_reducible exact H2_) | (have H2_ := (Option.bind_some _ _).symm.trans H; with_reducible exact H2_) | with_reducible exact H | (rw [hy315]; exact H) | exact H
         have Ny315 := Aside0.mk hy315
         clear hy315
         have H' := Aside0.mk H
         clear H
         have p311 : 0 ≤ (x6_1 : Int) := of_decide_eq_true (by first | (with_reducible assumption) | assumption)
         have q311 : x6_1 < (l0.length : Int) := of_decide_eq_true (by first | (with_reducible assumption) | assumption)
         obtain ⟨ad311, e311, hx311_0, hx311_1⟩ := at_T133 HR0.out x6_1 p311 q311
         cases e311
         replace hx311_0 := (HB.out.cell (World.block_lt_of_cell? w _ hx311_0)).trans hx311_0
         replace hx311_1 := (HB.out.cell (World.block_lt_of_cell? w _ hx311_1)).trans hx311_1
         replace p311 := eq_true p311
         replace q311 := eq_true q311
         go_wp2_with (first | ((with_reducible refine gate_callee (f := 28) rfl ?_); refine goesL_ (some 25) rfl rfl Tryd.func28 (by kernel_rfl) rfl #[.int .i64 ((rd_T133 l0 x6_1).f0), .int .i64 (wrap64 (a1 + 1))] rfl (by (try simp only [List.map_toArray, List.map_cons, List.map_nil]); first | done | rfl | (simp only [List.length_drop, List.length_take]; rfl)) ?_; (with_reducible refine (redraftlaw03_rest.calls ((rd_T133 l0 x6_1).f0) (wrap64 (a1 + 1)) t312 _ A8.out).mono ?_); rintro e w' ⟨rfl, ⟨nd, rfl⟩⟩; refine ⟨_, rfl, ?_⟩; have p313 : 0 ≤ (x6_1 : Int) := of_decide_eq_true (by first | (with_reducible assumption) | assumption); have q313 : x6_1 < (l0.length : Int) := of_decide_eq_true (by first | (with_reducible assumption) | assumption); obtain ⟨ad313, e313, hx313_0, hx313_1⟩ := at_T133 HR0.out x6_1 p313 q313; obtain rfl : ad311 = ad313 := (by injection e313); replace hx313_0 := (HB.out.cell (World.block_lt_of_cell? w _ hx313_0)).trans hx313_0; replace hx313_1 := (HB.out.cell (World.block_lt_of_cell? w _ hx313_1)).trans hx313_1; replace p313 := eq_true p313; replace q313 := eq_true q313) | ((with_reducible refine gate_callee (f := 28) rfl ?_); refine goesL_ (some 38) rfl rfl Tryd.func28 (by kernel_rfl) rfl #[.int .i64 ((rd_T133 l0 x6_1).f1), .int .i64 (wrap64 ((wrap64 (a1 - t312)) + 1))] rfl (by (try simp only [List.map_toArray, List.map_cons, List.map_nil]); first | done | rfl | (simp only [List.length_drop, List.length_take]; rfl)) ?_; (with_reducible refine (redraftlaw03_rest.calls ((rd_T133 l0 x6_1).f1) (wrap64 ((wrap64 (a1 - t312)) + 1)) t314 _ A9.out).mono ?_); rintro e w' ⟨rfl, ⟨nd, rfl⟩⟩; refine ⟨_, rfl, ?_⟩) | ((with_reducible refine gate_builtin (b := .append) (xs := #[.tmp 26, .tmp 41]) rfl ?_); at_builtin; refine Kd.R_append k133 (w0 := w) w.heap.size rfl (.tmp 26) (.tmp 41) 61 133 (.agg #[(.int .i64 0), (.int .i64 0)]) 16 rfl Tryd.underlying61 info133 rfl (by decide) (by omega) u5 x5_1 (⟨t312, wrap64 (t312 + t314)⟩ : S133) [.int .i64 t312, .int .i64 (wrap64 (t312 + t314))] (fun _ => True) (fun _ => False) rfl rfl ?aP (fun _ hk => hk.elim) ?aF ?aO ?aB ?aS ?aL ?_; (case aP => exact k133_mkM _ _ _ (⟨t312, wrap64 (t312 + t314)⟩ : S133)); (case aB => exact (by repeat (first | (with_reducible first | exact HB.out | apply below_alloc | apply pw_below_drewN | apply below_drew1) | exact HB.out))); (case aF => exact (fun _ _ => trivial)); (case aO => exact (by (with_reducible repeat (first | apply Kd.R_alloc | apply Kd.R_drewN | apply Kd.R_drew)); exact HO_5.out)); (case aS => exact (below_size (by repeat (first | (with_reducible first | exact HB.out | apply below_alloc | apply pw_below_drewN | apply below_drew1) | exact HB.out)))); (case aL => have := LMc10.out; omega); intro v316 w11 ho hb hg hat; rw [← Ny315.out] at ho; have n0_ := Aside0.mk (hb); have n1_ := Aside0.mk (ho); clear HB; clear HO_5; have HB := n0_; have HO317 := n1_; clear n0_ n1_; clear ho hb hg hat))
         go_roundg kj2
         case measure => have := HK1.out; have := HJ2.out; omega
         case rel => exact ⟨(y315), (wrap64 (x6_1 + 1)), (by first | rfl | (simp; done) | (simp [*]; done)), H', ⟨by have := HK1.out; have := HJ2.out; omega⟩, ⟨by (with_reducible repeat (first | apply Kd.R_alloc | apply Kd.R_drewN | apply Kd.R_drew)); exact HO317.out⟩, ⟨by repeat (first | (with_reducible first | exact HB.out | apply below_alloc | apply pw_below_drewN | apply below_drew1) | exact HB.out)⟩⟩
        ·rw [if_neg c10] at H
         exact absurd H (by simp)
       ·rw [if_neg c7] at H
        exact absurd H (by simp)
      ·rw [if_neg c6] at H
       exact absurd H (by simp)
     ·replace c5 := Bool.eq_false_iff.mpr c5
      subst c5
      have H1 : (some x5_1) = some r := by rw [if_neg (show ¬ (false = true) by decide)] at H; exact H
      clear H
      have H := H1
      clear H1
      obtain rfl := Option.some.inj H
      go_wp2
      go_ret
      exact ⟨_, by first | rfl | (simp [errW_none, errW_some] <;> rfl) | (simp [*, errW_none, errW_some] <;> rfl), by (with_reducible repeat (first | apply Kd.R_alloc | apply Kd.R_drewN | apply Kd.R_drew)); exact HO_5.out, by repeat (first | (with_reducible first | exact HB.out | apply below_alloc | apply pw_below_drewN | apply below_drew1) | exact HB.out)⟩
end Go.Proofs.YteeigokkafcaaaaDoor.Pr
end
section
namespace Go.Proofs.YteeigokkafcaaaaDoorRope
open Go.RowKit Go.Proofs.YteeigokkafcaaaaDoorW.PrintWords Go.Proofs.YteeigokkafcaaaaDoorW.PrintMore Go.Proofs.YteeigokkafcaaaaDoor.Pr
open Go.Proofs.YteeigokkafcaaaaDoor.SpanMath (mem Nrm nrm_ext throughS throughS_spec)
open Go.Proofs.YteeigokkafcaaaaDoor
set_option linter.unusedSimpArgs false
set_option linter.unusedVariables false
def toN (l : List S133) : List (Nat × Nat) := l.map fun r => (r.f0.toNat, r.f1.toNat)
theorem toN_len (l : List S133) : (toN l).length = l.length := by simp [toN]
theorem toN_s {l : List S133} (h : ∀ r ∈ l, 0 ≤ r.f0 ∧ 0 ≤ r.f1) : sRng (toN l) = l := by
  unfold sRng toN
  rw [List.map_map]
  conv => rhs; rw [← List.map_id l]
  apply List.map_congr_left
  intro r hr
  obtain ⟨h1, h2⟩ := h r hr
  obtain ⟨a, b⟩ := r
  simp only [Function.comp, id]
  congr 1
  · exact Int.toNat_of_nonneg h1
  · exact Int.toNat_of_nonneg h2
structure In (l : List S133) (n : Nat) : Prop where
  good : SpanFns.Good l
  top : ∀ r ∈ l, r.f1 ≤ n
theorem In.nn {l : List S133} {n : Nat} (h : In l n) : ∀ r ∈ l, 0 ≤ r.f0 ∧ 0 ≤ r.f1 := fun r hr => by
  have := h.good.small r hr
  omega
theorem In.s {l : List S133} {n : Nat} (h : In l n) : sRng (toN l) = l := toN_s h.nn
theorem In.one {l : List S133} {n : Nat} (h : In l n) : ∀ r ∈ toN l, r.1 < r.2 ∧ r.2 ≤ n := by
  intro r hr
  obtain ⟨x, hx, rfl⟩ := List.mem_map.1 hr
  have h1 := h.good.small x hx
  have h2 := h.top x hx
  dsimp only
  omega
theorem In.two {l : List S133} {n : Nat} (h : In l n) : (toN l).Pairwise (fun a b => a.2 < b.1) := by
  unfold toN
  rw [List.pairwise_map]
  refine List.Pairwise.imp_of_mem ?_ h.good.nrm.1
  intro a b ha hb hab
  have h1 := h.good.small a ha
  have h2 := h.good.small b hb
  dsimp only
  omega
theorem In.norm {l : List S133} {n : Nat} (h : In l n) : Norm (toN l) n :=
  ⟨h.one, fun i hi => List.pairwise_iff_getElem.1 h.two i (i + 1) (by omega) hi (Nat.lt_succ_self _), by rw [toN_len]; exact h.good.1⟩
theorem In.cnt {l : List S133} {n : Nat} (h : In l n) (q : Nat) : (mem l (q : Int) ∧ cnt (toN l) q = 1) ∨ (¬ mem l (q : Int) ∧ cnt (toN l) q = 0) := by
  have hc := cnt_flat (toN l) (fun r hr => (h.one r hr).1) h.two q
  have hm : q ∈ flat (toN l) ↔ mem l (q : Int) := by
    constructor
    · intro hq
      obtain ⟨r, hr, hq⟩ := List.mem_flatMap.1 hq
      obtain ⟨x, hx, rfl⟩ := List.mem_map.1 hr
      have h1 := h.good.small x hx
      rw [List.mem_range'_1] at hq
      dsimp only at hq
      exact ⟨x, hx, by omega, by omega⟩
    · rintro ⟨x, hx, h2, h3⟩
      have h1 := h.good.small x hx
      refine List.mem_flatMap.2 ⟨(x.f0.toNat, x.f1.toNat), List.mem_map.2 ⟨x, hx, rfl⟩, ?_⟩
      rw [List.mem_range'_1]
      dsimp only
      omega
  by_cases c : q ∈ flat (toN l)
  · rw [if_pos c] at hc
    exact .inl ⟨hm.1 c, hc⟩
  · rw [if_neg c] at hc
    exact .inr ⟨fun h => c (hm.2 h), hc⟩
theorem in_of {l : List S133} {n : Nat} (hn : n ≤ 1048576) (hl : l.length ≤ 32768) (hN : Nrm l) (h : ∀ q, mem l q → 0 ≤ q ∧ q < n) : In l n := by
  have hg := SpanFns.good_of hl hN (fun q hq => by have := h q hq; omega)
  refine ⟨hg, fun r hr => ?_⟩
  have h1 := hg.small r hr
  have := h (r.f1 - 1) ⟨r, hr, by omega, by omega⟩
  omega
theorem In.mem_bd {l : List S133} {n : Nat} (h : In l n) {q : Int} (hq : mem l q) : 0 ≤ q ∧ q < n := by
  obtain ⟨r, hr, h1, h2⟩ := hq
  have := h.good.small r hr
  have := h.top r hr
  omega
structure PartsOk (n : Nat) (r : List S133) : Prop where
  len : r.length ≤ 24
  one : ∀ x ∈ r, 0 ≤ x.f0 ∧ x.f0 ≤ x.f1 ∧ x.f1 ≤ n
theorem parts_l0 {l : List S133} {n : Nat} (hn : n ≤ 1048576) : ∀ (d i : Nat) (acc : List S133), i + d = 24 → acc.length = i → (∀ x ∈ acc, 0 ≤ x.f0 ∧ x.f0 ≤ x.f1 ∧ x.f1 ≤ n) → ∃ r, redraftlaw03_parts.l0 (2 * d + 2) l (n : Int) acc (i : Int) = some r ∧ PartsOk n r := by
  intro d
  induction d with
  | zero =>
    intro i acc hi ha hacc
    refine ⟨acc, ?_, by omega, hacc⟩
    have e : decide ((i : Int) < 24) = false := decide_eq_false (by omega)
    rw [redraftlaw03_parts.l0, e, ite_self, redraftlaw03_parts.j1, if_neg (by decide)]
  | succ d ih =>
    intro i acc hi ha hacc
    by_cases c : (i : Int) < (l.length : Int)
    · have e : decide ((i : Int) < 24) = true := decide_eq_true (by omega)
      have w1 : wrap64 ((n : Int) + 1) = (n : Int) + 1 := w64 (by omega) (by omega)
      obtain ⟨x, hx⟩ : ∃ x, x = (rd_T133 l (i : Int)).f0 := ⟨_, rfl⟩
      obtain ⟨y, hy⟩ : ∃ y, y = (rd_T133 l (i : Int)).f1 := ⟨_, rfl⟩
      have m1 := Int.emod_nonneg x (show ((n : Int) + 1) ≠ 0 by omega)
      have m2 := Int.emod_lt_of_pos x (show (0 : Int) < (n : Int) + 1 by omega)
      obtain ⟨lo, hlo⟩ : ∃ lo, lo = x % ((n : Int) + 1) := ⟨_, rfl⟩
      rw [← hlo] at m1 m2
      have w2 : wrap64 ((n : Int) - lo) = (n : Int) - lo := w64 (by omega) (by omega)
      have w3 : wrap64 ((n : Int) - lo + 1) = (n : Int) - lo + 1 := w64 (by omega) (by omega)
      have m3 := Int.emod_nonneg y (show ((n : Int) - lo + 1) ≠ 0 by omega)
      have m4 := Int.emod_lt_of_pos y (show (0 : Int) < (n : Int) - lo + 1 by omega)
      obtain ⟨g, hg⟩ : ∃ g, g = y % ((n : Int) - lo + 1) := ⟨_, rfl⟩
      rw [← hg] at m3 m4
      have w4 : wrap64 (lo + g) = lo + g := w64 (by omega) (by omega)
      have r1 : redraftlaw03_rest.f x ((n : Int) + 1) = some lo := by rw [hlo]; exact rest_is (by omega) (by omega)
      have r2 : redraftlaw03_rest.f y ((n : Int) - lo + 1) = some g := by rw [hg]; exact rest_is (by omega) (by omega)
      have hacc' : ∀ z ∈ acc ++ [(⟨lo, lo + g⟩ : S133)], 0 ≤ z.f0 ∧ z.f0 ≤ z.f1 ∧ z.f1 ≤ n := by
        intro z hz
        rcases List.mem_append.1 hz with hz | hz
        · exact hacc z hz
        · rw [List.mem_singleton.1 hz]
          dsimp only
          omega
      obtain ⟨r, hr, hp⟩ := ih (i + 1) (acc ++ [⟨lo, lo + g⟩]) (by omega) (by simp [ha]) hacc'
      refine ⟨r, ?_, hp⟩
      have hal : acc.length < 8796093022208 := by omega
      have w5 : wrap64 ((i : Int) + 1) = ((i + 1 : Nat) : Int) := inc64 (by omega)
      rw [show 2 * (d + 1) + 2 = (2 * d + 2) + 1 + 1 by omega, redraftlaw03_parts.l0, if_pos c, e, redraftlaw03_parts.j1, if_pos rfl, if_pos (Int.natCast_nonneg i), if_pos c, ← hx, ← hy, w1, r1, Option.bind_some, w2, w3, r2, Option.bind_some, if_pos hal, w4, w5]
      exact hr
    · refine ⟨acc, ?_, by omega, hacc⟩
      rw [show 2 * (d + 1) + 2 = (2 * d + 2) + 1 + 1 by omega, redraftlaw03_parts.l0, if_neg c, redraftlaw03_parts.j1, if_neg (by decide)]
theorem parts_is (l : List S133) {n : Nat} (hn : n ≤ 1048576) : ∃ k r, redraftlaw03_parts.f k l (n : Int) = some r ∧ PartsOk n r := by
  obtain ⟨r, h1, h2⟩ := parts_l0 (l := l) hn 24 0 [] rfl rfl (by simp)
  exact ⟨_, r, h1, h2⟩
theorem make_in {r : List S133} {n : Nat} (hn : n ≤ 1048576) (h : PartsOk n r) : span_Make.f r = some (SpanFns.ofParts r, 0) ∧ In (SpanFns.ofParts r) n ∧ (SpanFns.ofParts r).length ≤ 24 := by
  have hl : r.length ≤ 32768 := by have := h.len; omega
  have hp : ∀ x ∈ r, SpanFns.Part x := fun x hx => by have := h.one x hx; exact ⟨by omega, by omega, by omega⟩
  have hs := SpanFns.ofParts_spec r
  have hle := SpanFns.ofParts_len r
  refine ⟨by rw [SpanFns.Make_f, SpanFns.makeA_good hl hp], in_of hn (by omega) hs.1 (fun q hq => ?_), by have := h.len; omega⟩
  obtain ⟨x, hx, h1, h2⟩ := (hs.2 q).1 hq
  have := h.one x hx
  omega
section
variable {a b : List S133} {n : Nat}
theorem through_in {k m : Nat} (hn : n + m ≤ 1048576) (ha : In a n) (la : a.length ≤ 24) (hk : k ≤ n) : (∃ f, span_Through.f f a (k : Int) (m : Int) = some (throughS (k : Int) (m : Int) a, 0)) ∧ In (throughS (k : Int) (m : Int) a) (n + m) := by
  have hs := throughS_spec (c := (k : Int)) (n := (m : Int)) (Int.natCast_nonneg m) ha.good.nrm
  have hl := (SpanFns.through_len (c := (k : Int)) (n := (m : Int)) (Int.natCast_nonneg m) ha.good.nrm).1
  obtain ⟨K, hK⟩ := SpanFns.Through_ev ha.good.short (k : Int) (m : Int)
  have hgr : SpanFns.grows a (k : Int) (m : Int) = false := by
    rcases hq : SpanFns.grows a (k : Int) (m : Int) with _ | _
    · rfl
    · obtain ⟨r, hr, h1, h2⟩ := (SpanFns.grows_iff ha.good.nrm _ _).1 hq
      have := ha.top r hr
      omega
  refine ⟨⟨K, ?_⟩, in_of (by omega) (by omega) hs.1 (fun q hq => ?_)⟩
  · have hK' := hK K (Nat.le_refl _)
    dsimp only at hK'
    rw [hK']
    unfold SpanFns.throughA
    rw [if_pos (SpanFns.checkS_good.2 ha.good), if_neg (by omega), hgr, if_neg (by decide), SpanFns.few_ok (by omega)]
  · rcases (hs.2 q).1 hq with ⟨h1, h2⟩ | ⟨h1, h2⟩
    · have := ha.mem_bd h2; omega
    · have := ha.mem_bd h2; omega
theorem through_cnt {k m : Nat} (ha : In a n) (hb : In (throughS (k : Int) (m : Int) a) (n + m)) (q : Nat) : cnt (toN (throughS (k : Int) (m : Int) a)) q = if q < k then cnt (toN a) q else if q < k + m then 0 else cnt (toN a) (q - m) := by
  have h1 := (throughS_spec (c := (k : Int)) (n := (m : Int)) (Int.natCast_nonneg m) ha.good.nrm).2 (q : Int)
  by_cases c1 : q < k
  · rw [if_pos c1]
    have e : mem (throughS (k : Int) (m : Int) a) (q : Int) ↔ mem a (q : Int) := by
      rw [h1]
      constructor
      · rintro (h | h)
        · exact h.2
        · omega
      · intro h; exact .inl ⟨by omega, h⟩
    rcases ha.cnt q with ⟨m1, c1⟩ | ⟨m1, c1⟩ <;> rcases hb.cnt q with ⟨m3, c3⟩ | ⟨m3, c3⟩ <;> simp_all
  · rw [if_neg c1]
    by_cases c2 : q < k + m
    · rw [if_pos c2]
      have e : ¬ mem (throughS (k : Int) (m : Int) a) (q : Int) := by
        rw [h1]
        rintro (h | h) <;> omega
      rcases hb.cnt q with ⟨m3, c3⟩ | ⟨m3, c3⟩
      · exact absurd m3 e
      · exact c3
    · rw [if_neg c2]
      have e : mem (throughS (k : Int) (m : Int) a) (q : Int) ↔ mem a ((q - m : Nat) : Int) := by
        rw [h1, show ((q - m : Nat) : Int) = (q : Int) - (m : Int) by omega]
        constructor
        · rintro (h | h)
          · omega
          · exact h.2
        · intro h; exact .inr ⟨by omega, h⟩
      rcases ha.cnt (q - m) with ⟨m1, c1⟩ | ⟨m1, c1⟩ <;> rcases hb.cnt q with ⟨m3, c3⟩ | ⟨m3, c3⟩ <;> simp_all
end
theorem insC_get {cs : List (Int × Int)} {k : Nat} {s : List Int} {h : Int} (hk : k ≤ cs.length) (q : Nat) : (insC cs k s h)[q]? = if q < k then cs[q]? else if q < k + s.length then s[q - k]?.map (fun c => (c, h)) else cs[q - s.length]? := by
  have l1 : (cs.take k).length = k := by rw [List.length_take]; omega
  unfold insC
  by_cases c1 : q < k
  · rw [if_pos c1, List.append_assoc, List.getElem?_append_left (by omega), List.getElem?_take_of_lt c1]
  · rw [if_neg c1]
    by_cases c2 : q < k + s.length
    · rw [if_pos c2, List.append_assoc, List.getElem?_append_right (by omega), l1, List.getElem?_append_left (by rw [List.length_map]; omega), List.getElem?_map]
    · rw [if_neg c2, List.getElem?_append_right (by rw [List.length_append, List.length_map]; omega), List.length_append, List.length_map, l1, List.getElem?_drop, show k + (q - (k + s.length)) = q - s.length by omega]
theorem bump_ins {cs : List (Int × Int)} {A B : List (Nat × Nat)} {k : Nat} {s : List Int} {h : Int} (hk : k ≤ cs.length) (hA : ∀ r ∈ A, r.1 ≤ r.2 ∧ r.2 ≤ cs.length) (hB : ∀ r ∈ B, r.1 ≤ r.2 ∧ r.2 ≤ cs.length + s.length)
    (hc : ∀ q, cnt B q = if q < k then cnt A q else if q < k + s.length then 0 else cnt A (q - s.length)) : bumpC (insC cs k s h) B 1 = insC (bumpC cs A 1) k s h := by
  have hl := bumpC_len2 (b := 1) hA
  apply List.ext_getElem?
  intro q
  rw [bumpC_get B _ (by rw [insC_len]; exact hB), insC_get hk, insC_get (by rw [hl]; exact hk), hc]
  by_cases c1 : q < k
  · rw [if_pos c1, if_pos c1, if_pos c1, bumpC_get A _ hA]
  · rw [if_neg c1, if_neg c1, if_neg c1]
    by_cases c2 : q < k + s.length
    · rw [if_pos c2, if_pos c2, if_pos c2]
      cases s[q - k]? <;> simp
    · rw [if_neg c2, if_neg c2, if_neg c2, bumpC_get A _ hA]
theorem parts_c {x : List S133} {n : Nat} {r : List S133} (hr : ∃ k, redraftlaw03_parts.f k x (n : Int) = some r) {W : World} {A : Option Addr} {c : Nat} (hA : Kd.C k133 W A x.length x) (hc : x.length ≤ c) :
    Calls Tryd.prog 47 #[.slice A x.length c, .int .i64 (n : Int)] W fun e w' => ∃ A' c', e = .returned (.slice A' r.length c') ∧ Kd.C k133 w' A' r.length r ∧ r.length ≤ c' ∧ Below W.heap.size W w' := by
  obtain ⟨k, hk⟩ := hr
  refine (redraftlaw03_parts.calls k A c x (n : Int) r W hA hc hk).mono ?_
  rintro e w' ⟨v, he, hR, hb⟩
  obtain ⟨A', c', rfl⟩ := Kd.R_slice hR
  have h1 := (Kd.R_reads' hR).2
  exact ⟨A', c', he, h1.2, h1.1, hb⟩
theorem make_c {r l : List S133} (h : span_Make.f r = some (l, 0)) {W : World} {A : Option Addr} {c : Nat} (hA : Kd.C k133 W A r.length r) (hc : r.length ≤ c) :
    Calls Tryd.prog 46 #[.slice A r.length c] W fun e w' => ∃ A' c', e = .returned (.tuple #[.slice A' l.length c', .int .i64 0]) ∧ Kd.R k133 133 w' W.heap.size (fun _ => True) (.slice A' l.length c') l ∧ Below W.heap.size W w' := by
  refine (span_Make.calls A c r l 0 W hA hc h).mono ?_
  rintro e w' ⟨v, he, hR, hb⟩
  obtain ⟨A', c', rfl⟩ := Kd.R_slice hR
  exact ⟨A', c', he, hR, hb⟩
theorem through_c {a l : List S133} {k m : Nat} (h : ∃ f, span_Through.f f a (k : Int) (m : Int) = some (l, 0)) {W : World} {A : Option Addr} {c base : Nat} {ok : Nat → Prop} (hA : Kd.R k133 133 W base ok (.slice A a.length c) a) :
    Calls Tryd.prog 51 #[.slice A a.length c, .int .i64 (k : Int), .int .i64 (m : Int)] W fun e w' => ∃ A' c', e = .returned (.tuple #[.slice A' l.length c', .int .i64 0]) ∧ Kd.R k133 133 w' W.heap.size (fun _ => True) (.slice A' l.length c') l ∧ Below W.heap.size W w' := by
  obtain ⟨f, hf⟩ := h
  have h1 := (Kd.R_reads' hA).2
  refine (span_Through.calls f A c a (k : Int) (m : Int) l 0 W h1.2 h1.1 hf).mono ?_
  rintro e w' ⟨v, he, hR, hb⟩
  obtain ⟨A', c', rfl⟩ := Kd.R_slice hR
  exact ⟨A', c', he, hR, hb⟩
theorem In.rd {l : List S133} {n : Nat} (h : In l n) {W : World} {A : Option Addr} {c base : Nat} {ok : Nat → Prop} (hR : Kd.R k133 133 W base ok (.slice A l.length c) l) : Kd.C k133 W A l.length (sRng (toN l)) ∧ l.length ≤ c := by
  have h1 := (Kd.R_reads' hR).2
  rw [h.s]
  exact ⟨h1.2, h1.1⟩
theorem bumped_c {cs : List (Int × Int)} {l : List (Nat × Nat)} (hN : Norm l cs.length) (hn : cs.length ≤ 1048576) (hok : BumpOk cs l 1) {W : World} {A B : Option Addr} {c d : Nat} (hA : Kd.C k36 W A cs.length (sCells cs)) (hc : cs.length ≤ c) (hB : Kd.C k133 W B l.length (sRng l)) (hd : l.length ≤ d) :
    Calls Tryd.prog 50 #[.slice A cs.length c, .slice B l.length d, .int .i64 1] W fun e w' => ∃ A' c', e = .returned (.slice A' (bumpC cs l 1).length c') ∧ Kd.R k36 36 w' W.heap.size (fun _ => True) (.slice A' (bumpC cs l 1).length c') (sCells (bumpC cs l 1)) ∧ Below W.heap.size W w' := by
  obtain ⟨kb, hkb⟩ := bumped_is hN hn hok
  rw [← sCells_len cs] at hA hc ⊢
  rw [← sRng_len l] at hB hd ⊢
  refine (redraftlaw03_bumped.calls kb A c (sCells cs) B d (sRng l) 1 (sCells (bumpC cs l 1)) W hA hc hB hd hkb).mono ?_
  rintro e w' ⟨v, he, hR, hb⟩
  obtain ⟨A', c', hv⟩ := Kd.R_slice hR
  rw [sCells_len] at hv
  subst hv
  exact ⟨A', c', he, hR, hb⟩
end Go.Proofs.YteeigokkafcaaaaDoorRope
end
section
namespace Go.Proofs.YteeigokkafcaaaaDoorRope
open Go.RowKit Go.Proofs.YteeigokkafcaaaaDoorW.PrintWords Go.Proofs.YteeigokkafcaaaaDoorW.PrintMore Go.Proofs.YteeigokkafcaaaaDoor.Pr
set_option linter.unusedSimpArgs false
set_option linter.unusedVariables false
def BoxAt (W : World) (b : Nat) : Prop := ∃ p, W.heap[b]? = some (.cells #[.pointer p] 108 (0, 0))
theorem RopeHas.box {W : World} {b : Nat} {cs : List (Int × Int)} (h : RopeHas W b cs) : BoxAt W b := by
  obtain ⟨K, t, h, _⟩ := h
  obtain ⟨p, hv, _⟩ := h.blk
  exact ⟨p, hv⟩
theorem cell_box {W : World} {b : Nat} (hb : BoxAt W b) {ad : Addr} {k : IntKind} {x : Int} (h : W.cell? ad = some (.int k x)) : ad.block ≠ b := by
  obtain ⟨p, hb⟩ := hb
  intro e
  rw [World.cell?, e, hb] at h
  dsimp only at h
  split at h
  · cases h
  · rcases hq : ad.off with _ | q
    · rw [hq] at h; simp at h
    · rw [hq] at h; simp at h
theorem runes_box {W : World} {A : Option Addr} {rs : List Int} (h : RunesAt W A rs) (hne : rs ≠ []) {b : Nat} (hb : BoxAt W b) : ∀ ad, A = some ad → ad.block ≠ b := by
  intro ad e
  have hz : 0 < rs.length := List.length_pos_iff.2 hne
  obtain ⟨ad', e', hc⟩ := Kd.at_int h 0 (Int.le_refl _) (by omega)
  rw [e] at e'
  injection e' with e'
  subst e'
  exact cell_box hb hc
theorem Rep.away {K : Nat → Prop} {W : World} {b : Nat} (hb : BoxAt W b) {t : Tree} : ∀ {v : Value} {a : Int}, Rep K W t v → t.Good a → Rep (fun k => K k ∧ k ≠ b) W t v := by
  induction t with
  | nil => intro v a h _; exact h
  | node l rs hid r plus ihl ihr =>
    rintro v a ⟨g, vl, vr, A, c, rfl, hh, hg, hc, hr, hA, h1, h2⟩ ⟨g1, g2, g3, g4, g5, g6, g7, g8, g9⟩
    refine ⟨g, vl, vr, A, c, rfl, hh, ⟨hg, ?_⟩, hc, hr, fun ad e => ⟨hA ad e, runes_box hr g1 hb ad e⟩, ihl h1 g8, ihr h2 g9⟩
    rintro rfl
    obtain ⟨p, hb⟩ := hb
    rw [hb] at hh
    injection hh with hh
    injection hh with _ hh _
    exact absurd hh (by decide)
theorem RopeHas.beside {W W' : World} {b d : Nat} {cs : List (Int × Int)} (h : RopeHas W b cs) (hd : BoxAt W d) (hne : b ≠ d) (hg : W.grownBy W' (some d)) : RopeHas W' b cs := by
  obtain ⟨K, t, ⟨⟨v, hv, ht⟩, hn⟩, hc⟩ := h
  refine ⟨fun k => K k ∧ k ≠ d, t, ⟨⟨v, (hg.block b (new_lt hv) (fun e => hne (by injection e))).trans hv, ?_⟩, fun hk => hn hk.1⟩, hc⟩
  exact ⟨(ht.rep.away hd ht.good).move (fun k hk hl => hg.block k hl (fun e => hk.2 (by injection e))), ht.good⟩
end Go.Proofs.YteeigokkafcaaaaDoorRope
end
section
namespace Go.Proofs.YteeigokkafcaaaaDoorRope
open Go.RowKit Go.Proofs.YteeigokkafcaaaaDoorW.PrintWords Go.Proofs.YteeigokkafcaaaaDoorW.PrintMore Go.Proofs.YteeigokkafcaaaaDoor.Pr
set_option linter.unusedSimpArgs false
set_option linter.unusedVariables false
structure Few (l : List (List Int × Int)) : Prop where
  one : ∀ x ∈ l, x.1 ≠ []
  two : ∀ i (h : i + 1 < l.length), l[i + 1].2 ≠ l[i].2
theorem Few.nil : Few [] := ⟨by simp, by simp⟩
theorem Few.single {x : List Int × Int} (h : x.1 ≠ []) : Few [x] := ⟨by simpa using h, by simp⟩
theorem GoodRuns.few {l : List (List Int × Int)} (h : GoodRuns l) : Few l := ⟨fun x hx => (h.one x hx).1, h.two⟩
theorem Few.tail {x : List Int × Int} {l : List (List Int × Int)} (h : Few (x :: l)) : Few l := by
  refine ⟨fun y hy => h.one y (List.mem_cons_of_mem _ hy), fun i hi => ?_⟩
  have := h.two (i + 1) (by simpa using hi)
  simpa using this
theorem Few.snoc {o : List (List Int × Int)} {a : List Int} {h : Int} {rs : List Int} {h' : Int} (hf : Few (o ++ [(a, h)])) (hr : rs ≠ []) (hne : h' ≠ h) : Few (o ++ [(a, h)] ++ [(rs, h')]) := by
  refine ⟨fun x hx => ?_, fun i hi => ?_⟩
  · rcases List.mem_append.1 hx with hx | hx
    · exact hf.one x hx
    · rw [List.mem_singleton.1 hx]; exact hr
  · have hl : (o ++ [(a, h)]).length = o.length + 1 := by simp
    have hi' := hi
    rw [List.length_append, hl] at hi'
    simp only [List.length_cons, List.length_nil] at hi'
    have hlast : ∀ hj : o.length < (o ++ [(a, h)]).length, (o ++ [(a, h)])[o.length].2 = h := by simp
    obtain ⟨L, hL⟩ : ∃ L, L = o ++ [(a, h)] := ⟨_, rfl⟩
    rw [← hL] at hl hlast hf
    simp only [← hL]
    by_cases c : i + 1 < o.length + 1
    · rw [List.getElem_append_left (by omega), List.getElem_append_left (by omega)]
      exact hf.two i (by omega)
    · obtain rfl : i = o.length := by omega
      rw [List.getElem_append_right (by omega), List.getElem_append_left (by omega), hlast (by omega)]
      simpa [hl] using hne
theorem Few.grow {o : List (List Int × Int)} {a : List Int} {h : Int} (b : List Int) (hf : Few (o ++ [(a, h)])) : Few (o ++ [(a ++ b, h)]) := by
  refine ⟨fun x hx => ?_, fun i hi => ?_⟩
  · rcases List.mem_append.1 hx with hx | hx
    · exact hf.one x (List.mem_append_left _ hx)
    · rw [List.mem_singleton.1 hx]
      have := hf.one (a, h) (by simp)
      intro e
      exact this (List.append_eq_nil_iff.1 e).1
  · have key : ∀ (j : Nat) (hj : j < (o ++ [(a ++ b, h)]).length) (hj' : j < (o ++ [(a, h)]).length), (o ++ [(a ++ b, h)])[j].2 = (o ++ [(a, h)])[j].2 := by
      intro j hj hj'
      by_cases c : j < o.length
      · rw [List.getElem_append_left c, List.getElem_append_left c]
      · have : j = o.length := by simp at hj; omega
        subst this
        simp
    have hi' : i + 1 < (o ++ [(a, h)]).length := by simpa using hi
    rw [key _ _ hi', key _ _ (by omega)]
    exact hf.two i hi'
theorem rcells_cons (x : List Int × Int) (l : List (List Int × Int)) : rcells (x :: l) = x.1.map (fun c => (c, x.2)) ++ rcells l := by simp [rcells]
theorem few_head {x : List Int × Int} {l : List (List Int × Int)} (h : Few (x :: l)) : (rcells (x :: l)).takeWhile (fun c => c.2 == x.2) = x.1.map (fun c => (c, x.2)) := by
  rw [rcells_cons]
  have h1 : ∀ (a : List Int) (s : List (Int × Int)), (a.map (fun c => (c, x.2)) ++ s).takeWhile (fun c => c.2 == x.2) = a.map (fun c => (c, x.2)) ++ s.takeWhile (fun c => c.2 == x.2) := by
    intro a s
    induction a with
    | nil => rfl
    | cons r t ih => simp [List.takeWhile, ih]
  rw [h1]
  cases l with
  | nil => simp [rcells]
  | cons y t =>
    have hy := h.one y (by simp)
    have h2 := h.two 0 (by simp)
    obtain ⟨a, k⟩ := y
    cases a with
    | nil => exact absurd rfl hy
    | cons r a =>
      have hk : (k == x.2) = false := beq_eq_false_iff_ne.mpr (by simpa using h2)
      simp [rcells, List.takeWhile, hk]
theorem few_uniq : ∀ (l l' : List (List Int × Int)), Few l → Few l' → rcells l = rcells l' → l = l'
  | [], [], _, _, _ => rfl
  | [], y :: t, _, h', e => by
    have h1 := List.length_pos_iff.2 (h'.one y (by simp))
    rw [rcells_cons] at e
    have e' := congrArg List.length e
    rw [List.length_append, List.length_map] at e'
    simp only [rcells, List.flatMap_nil, List.length_nil] at e'
    omega
  | x :: t, [], h, _, e => by
    have h1 := List.length_pos_iff.2 (h.one x (by simp))
    rw [rcells_cons] at e
    have e' := congrArg List.length e
    rw [List.length_append, List.length_map] at e'
    simp only [rcells, List.flatMap_nil, List.length_nil] at e'
    omega
  | x :: t, y :: s, h, h', e => by
    have hx := h.one x (by simp)
    have hy := h'.one y (by simp)
    have hk : x.2 = y.2 := by
      obtain ⟨a, k⟩ := x
      obtain ⟨b, j⟩ := y
      cases a with
      | nil => exact absurd rfl hx
      | cons r a =>
        cases b with
        | nil => exact absurd rfl hy
        | cons q b =>
          rw [rcells_cons, rcells_cons] at e
          simp only [List.map_cons, List.cons_append] at e
          injection e with e _
          injection e
    have h1 := few_head h
    have h2 := few_head h'
    rw [e, hk, h2, ← hk] at h1
    have h3 : y.1 = x.1 := by
      have := congrArg (List.map Prod.fst) h1
      simpa [List.map_map, Function.comp_def] using this
    have hxy : x = y := Prod.ext h3.symm hk
    subst hxy
    rw [rcells_cons, rcells_cons, List.append_cancel_left_eq] at e
    rw [few_uniq t s h.tail h'.tail e]
def allR (o : List (List Int × Int)) (acc : List Int) (h : Int) : List (List Int × Int) := if acc = [] then o else o ++ [(acc, h)]
theorem allR_nil (o : List (List Int × Int)) (h : Int) : allR o [] h = o := rfl
structure RunsQ (C : List (Int × Int)) (q : Nat) (o : List (List Int × Int)) (acc : List Int) (h : Int) : Prop where
  few : Few (allR o acc h)
  cells : rcells (allR o acc h) = C.take q
  fresh : acc = [] → o = []
theorem RunsQ.zero (C : List (Int × Int)) : RunsQ C 0 [] [] 0 := ⟨Few.nil, rfl, fun _ => rfl⟩
theorem RunsQ.same {C : List (Int × Int)} {q : Nat} {o : List (List Int × Int)} {acc rs : List Int} {h : Int} (H : RunsQ C q o acc h) (hr : rs ≠ []) (hc : C.take (q + rs.length) = C.take q ++ rs.map (fun c => (c, h))) : RunsQ C (q + rs.length) o (acc ++ rs) h := by
  have hne : acc ++ rs ≠ [] := fun e => hr (List.append_eq_nil_iff.1 e).2
  by_cases c : acc = []
  · subst c
    have := H.fresh rfl
    subst this
    have h0 := H.cells
    refine ⟨?_, ?_, fun e => absurd e hne⟩
    · simp only [allR, List.nil_append, if_neg hr]; exact Few.single hr
    · rw [hc, ← h0]; simp [allR, rcells, hr]
  · have h1 := H.few
    have h2 := H.cells
    rw [allR, if_neg c] at h1 h2
    refine ⟨?_, ?_, fun e => absurd e hne⟩
    · rw [allR, if_neg hne]; exact h1.grow rs
    · rw [hc, ← h2, allR, if_neg hne]; simp [rcells]
theorem RunsQ.other {C : List (Int × Int)} {q : Nat} {o : List (List Int × Int)} {acc rs : List Int} {h h' : Int} (H : RunsQ C q o acc h) (hr : rs ≠ []) (hne : h' ≠ h) (hc : C.take (q + rs.length) = C.take q ++ rs.map (fun c => (c, h'))) : RunsQ C (q + rs.length) (allR o acc h) rs h' := by
  refine ⟨?_, ?_, fun e => absurd e hr⟩
  · rw [allR, if_neg hr]
    by_cases c : acc = []
    · subst c
      have := H.fresh rfl
      subst this
      exact Few.single hr
    · have h1 := H.few
      rw [allR, if_neg c] at h1 ⊢
      exact h1.snoc hr hne
  · rw [allR, if_neg hr, hc, ← H.cells]; simp [rcells]
theorem RunsQ.hid {C : List (Int × Int)} {q : Nat} {o : List (List Int × Int)} {acc : List Int} {h : Int} (H : RunsQ C q o acc h) : (allR o acc h).length ≤ q := by
  have h1 : ∀ (l : List (List Int × Int)), (∀ x ∈ l, x.1 ≠ []) → l.length ≤ (rcells l).length := by
    intro l
    induction l with
    | nil => intro _; simp
    | cons x t ih =>
      intro hx
      have := ih (fun y hy => hx y (List.mem_cons_of_mem _ hy))
      have h0 := List.length_pos_iff.2 (hx x (by simp))
      rw [rcells_cons, List.length_append, List.length_map, List.length_cons]
      omega
  have := h1 _ H.few.one
  rw [H.cells, List.length_take] at this
  omega
theorem RunsQ.acc {C : List (Int × Int)} {q : Nat} {o : List (List Int × Int)} {acc : List Int} {h : Int} (H : RunsQ C q o acc h) : acc.length ≤ q := by
  by_cases c : acc = []
  · subst c; simp
  · have := congrArg List.length H.cells
    rw [allR, if_neg c, List.length_take] at this
    simp [rcells] at this
    omega
end Go.Proofs.YteeigokkafcaaaaDoorRope
end
section
namespace Go.Proofs.YteeigokkafcaaaaDoorRope
open Go.RowKit Go.Proofs.YteeigokkafcaaaaDoorW.PrintWords Go.Proofs.YteeigokkafcaaaaDoorW.PrintMore Go.Proofs.YteeigokkafcaaaaDoor.Pr
set_option linter.unusedSimpArgs false
set_option linter.unusedVariables false
theorem Bld.row {B b : Nat} {acc : List Int} {W W' : World} (h : Bld B b acc W) {row : Option Nat} (hg : W.grownBy W' row) (hr : ∀ k, row = some k → ∃ c t, W.heap[k]? = some (Obj.cells c t (0, 0)) ∧ t ≠ 118 ∧ t ≠ 5) : Bld B b acc W' := by
  refine h.imp ?_ ?_ <;>
    · rintro ⟨hB, v', hv, hown, hne⟩
      refine ⟨hB, v', (hg.block b (new_lt hv) (fun e => ?_)).trans hv, hown.kept hg ?_, hne⟩
      · obtain ⟨c, t, hc, h1, _⟩ := hr b e.symm
        rw [hv] at hc
        injection hc with hc
        injection hc with _ hc _
        exact h1 hc.symm
      · rcases hvo : v'.ownBlock with _ | k
        · exact .inl rfl
        · refine .inr (fun e => ?_)
          obtain ⟨c, t, hc, _, h2⟩ := hr k e.symm
          obtain ⟨c', fz, hc'⟩ := Lib.ownsRowF_kind hown k hvo
          rw [hc] at hc'
          injection hc' with hc'
          injection hc' with _ hc' _
          exact h2 hc'
set_option maxRecDepth 100000 in
set_option maxHeartbeats 4000000 in
theorem reset_calls {B b : Nat} {acc : List Int} {W : World} (h : Bld B b acc W) : Calls Tryd.prog 64 #[.pointer (some ⟨b, 0, none⟩)] W fun e w' => e = .returned (.tuple #[]) ∧ Bld B b [] w' ∧ KpB B b W w' := by
  have hB := h.at.1
  have h' : ∃ p v, W.heap[b]? = some (.cells #[p, v] 118 (0, 0)) := by
    rcases h with ⟨_, v, hv, _⟩ | ⟨_, v, hv, _⟩ <;> exact ⟨_, v, hv⟩
  obtain ⟨p, v, hv⟩ := h'
  have y0 : W.cell? ⟨b, 0, none⟩ = some p := by simp [World.cell?, hv]
  have f0 : W.frozen? ⟨b, 0, none⟩ = false := by simp [World.frozen?, hv]
  have hv1 : (W.setCell ⟨b, 0, none⟩ (.pointer none)).heap[b]? = some (.cells #[.pointer none, v] 118 (0, 0)) := by simp [World.setCell, Array.getElem?_modify, hv]
  have y1 : (W.setCell ⟨b, 0, none⟩ (.pointer none)).cell? ⟨b, 1, none⟩ = some v := by simp [World.cell?, hv1]
  have f1 : (W.setCell ⟨b, 0, none⟩ (.pointer none)).frozen? ⟨b, 1, none⟩ = false := by simp [World.frozen?, hv1]
  have hv2 : ((W.setCell ⟨b, 0, none⟩ (.pointer none)).setCell ⟨b, 1, none⟩ (.slice none 0 0)).heap[b]? = some (.cells #[.pointer none, .slice none 0 0] 118 (0, 0)) := by
    simp [World.setCell, Array.getElem?_modify, hv]
  go_enter Tryd.func64, Tryd.ntmps64
  go_wp2
  go_end0
  refine ⟨rfl, .inl ⟨hB, _, hv2, ⟨by simp [utf, Lib.byteCells], .inl ⟨rfl, by simp [utf, Lib.byteCells]⟩⟩, by simp [Value.ownBlock]⟩, ⟨?_, ?_⟩⟩
  · exact ((Below.refl B W).setCell (p := ⟨b, 0, none⟩) hB _).setCell (p := ⟨b, 1, none⟩) hB _
  · exact Lib.OthersKept.setCell (Lib.OthersKept.setCell (Lib.OthersKept.refl 5 (some b) W) ⟨b, 0, none⟩ rfl _) ⟨b, 1, none⟩ rfl _
structure RunsS (B OUT b HID END : Nat) (w : World) (o : List (List Int × Int)) (acc : List Int) (hid : Int) (W : World) : Prop where
  out : ∃ v, W.heap[OUT]? = some (.cells #[v] 23 (0, 0)) ∧ Kd.R k58 58 W B (fun k => B ≤ k) v (sRuns o)
  bld : Bld B b acc W
  hc : W.heap[HID]? = some (.cells #[.int .i64 hid] 3 (0, 0))
  ec : W.heap[END]? = some (.cells #[.func (.func 61) #[] #[.pointer (some ⟨b, 0, none⟩), .pointer (some ⟨OUT, 0, none⟩), .pointer (some ⟨HID, 0, none⟩)]] 1 (0, 0))
  bel : Below B w W
  lo : B ≤ OUT
  lh : B ≤ HID
section
variable {B OUT b HID END : Nat} {w W W' : World} {o : List (List Int × Int)} {acc acc' : List Int} {hid : Int}
theorem RunsS.below (h : RunsS B OUT b HID END w o acc hid W) (hB : B ≤ W.heap.size) (hb : Below W.heap.size W W') : RunsS B OUT b HID END w o acc hid W' := by
  obtain ⟨v, hv, hR⟩ := h.out
  exact ⟨⟨v, (hb.block _ (new_lt hv)).trans hv, Kd.R_below hR hb⟩, h.bld.below hb, (hb.block _ (new_lt h.hc)).trans h.hc, (hb.block _ (new_lt h.ec)).trans h.ec, h.bel.trans (hb.mono hB), h.lo, h.lh⟩
theorem R58_kpb {ok : Nat → Prop} {base : Nat} {v : Value} (h : Kd.R k58 58 W base ok v (sRuns o)) (hk : KpB B b W W') (hb : ∃ c, W.heap[b]? = some (Obj.cells c 118 (0, 0))) : Kd.R k58 58 W' base ok v (sRuns o) := by
  refine Kd.R_mono (Kd.R_step (Kd.R_bound h) (fun k hk' hl => ?_)) (fun k hk => hk.1)
  obtain ⟨_, _, _, q, hq, cells, hc⟩ := hk'
  obtain rfl : q = 58 := by simpa using (show q ∈ [58] from hq)
  obtain ⟨c0, hb⟩ := hb
  rw [hc]
  exact hk.cells hc (by decide) (ty_ne hc hb (by decide))
theorem RunsS.kpb (h : RunsS B OUT b HID END w o acc hid W) (hk : KpB B b W W') (hb : Bld B b acc' W') : RunsS B OUT b HID END w o acc' hid W' := by
  obtain ⟨_, c0, hc0⟩ := h.bld.at
  obtain ⟨v, hv, hR⟩ := h.out
  exact ⟨⟨v, hk.cells hv (by decide) (ty_ne hv hc0 (by decide)), R58_kpb hR hk ⟨c0, hc0⟩⟩, hb, hk.cells h.hc (by decide) (ty_ne h.hc hc0 (by decide)), hk.cells h.ec (by decide) (ty_ne h.ec hc0 (by decide)), h.bel.trans hk.bl, h.lo, h.lh⟩
end
theorem R58_ne {ok : Nat → Prop} {W : World} {o : List (List Int × Int)} {base : Nat} {v : Value} (h : Kd.R k58 58 W base ok v (sRuns o)) {k : Nat} {c : Array Value} {t : Nat} (hk : W.heap[k]? = some (Obj.cells c t (0, 0))) (ht : t ≠ 58) : some k ≠ v.ownBlock := by
  intro e
  obtain ⟨cells, hc⟩ := Kd.N_typed (Kd.R_N h) k e.symm
  rw [hk] at hc
  injection hc with hc
  injection hc with _ hc _
  exact ht hc
theorem R58_typed {ok : Nat → Prop} {W : World} {o : List (List Int × Int)} {base : Nat} {v : Value} (h : Kd.R k58 58 W base ok v (sRuns o)) : ∀ k, v.ownBlock = some k → ∃ c t, W.heap[k]? = some (Obj.cells c t (0, 0)) ∧ t = 58 := fun k e => by
  obtain ⟨cells, hc⟩ := Kd.N_typed (Kd.R_N h) k e
  exact ⟨cells, 58, hc, rfl⟩
theorem RunsS.push {B OUT b HID END : Nat} {w W W4 : World} {o o' : List (List Int × Int)} {acc : List Int} {hid : Int} {v v4 : Value} (S : RunsS B OUT b HID END w o acc hid W) (hv : W.heap[OUT]? = some (.cells #[v] 23 (0, 0))) (hR : Kd.R k58 58 W B (fun k => B ≤ k) v (sRuns o)) (hR4 : Kd.R k58 58 W4 B (fun k => B ≤ k) v4 (sRuns o')) (hB : B ≤ W.heap.size) (hg : W.grownBy W4 v.ownBlock) :
    RunsS B OUT b HID END w o' acc hid (W4.setCell ⟨OUT, 0, none⟩ v4) ∧ KpW B W (W4.setCell ⟨OUT, 0, none⟩ v4) := by
  have hv4 := (hg.block _ (new_lt hv) (R58_ne hR hv (by decide))).trans hv
  have hB4 : Below B W W4 := ⟨hg.os, hg.tape, hg.output, hg.size, fun k hk => hg.block k (Nat.lt_of_lt_of_le hk hB) (fun e => by have h1 : B ≤ k := hR.1 k e.symm; omega)⟩
  have keep : ∀ (k : Nat) (c : Array Value) (t : Nat), W.heap[k]? = some (Obj.cells c t (0, 0)) → t ≠ 58 → t ≠ 23 → (W4.setCell ⟨OUT, 0, none⟩ v4).heap[k]? = some (Obj.cells c t (0, 0)) := by
    intro k c t hk h1 h2
    have h4 := (hg.block _ (new_lt hk) (R58_ne hR hk h1)).trans hk
    exact set_other h4 (ty_ne h4 hv4 h2)
  have hgs : W4.grownBy (W4.setCell ⟨OUT, 0, none⟩ v4) (some OUT) := ⟨rfl, rfl, rfl, by simp [World.setCell], fun i hi hne => Below.heap_setCell W4 ⟨OUT, 0, none⟩ v4 i (fun e => hne (by rw [show i = OUT from e]))⟩
  have hbl : Bld B b acc (W4.setCell ⟨OUT, 0, none⟩ v4) := by
    refine (S.bld.row hg (fun k e => ?_)).row hgs (fun k e => ?_)
    · obtain ⟨c, t, h1, h2⟩ := R58_typed hR k e
      exact ⟨c, t, h1, by rw [h2]; decide, by rw [h2]; decide⟩
    · injection e with e
      subst e
      exact ⟨_, 23, hv4, by decide, by decide⟩
  have hb' : Below B W (W4.setCell ⟨OUT, 0, none⟩ v4) := hB4.setCell (p := ⟨OUT, 0, none⟩) S.lo _
  refine ⟨⟨⟨v4, set1k hv4, ?_⟩, hbl, keep _ _ _ S.hc (by decide) (by decide), keep _ _ _ S.ec (by decide) (by decide), S.bel.trans hb', S.lo, S.lh⟩, ⟨hb', fun k c ty hty hk => keep k c ty hk (by rcases hty with rfl | rfl <;> decide) (by rcases hty with rfl | rfl <;> decide)⟩⟩
  refine Kd.R_mono (Kd.R_step (Kd.R_bound hR4) (fun k hk' hl => ?_)) (fun k hk => hk.1)
  obtain ⟨_, _, _, q, hq, cells, hc⟩ := hk'
  obtain rfl : q = 58 := by simpa using (show q ∈ [58] from hq)
  rw [hc]
  exact set_other hc (ty_ne hc hv4 (by decide))
theorem byteCells_utf_nil : (Lib.byteCells (utf [])).length = 0 := rfl
theorem byteCells_utf_pos {acc : List Int} (h : acc ≠ []) : 0 < (Lib.byteCells (utf acc)).length := by
  rw [Lib.byteCells_length]
  have := (utf_len acc).1
  have := List.length_pos_iff.2 h
  omega
set_option maxRecDepth 100000 in
set_option maxHeartbeats 16000000 in
theorem end_calls {B OUT b HID END : Nat} {w W : World} {o : List (List Int × Int)} {acc : List Int} {hid : Int} (S : RunsS B OUT b HID END w o acc hid W) (hB : B ≤ W.heap.size) (ho : o.length ≤ 1048576) (hacc : acc.length ≤ 1048576) :
    Calls Tryd.prog 61 #[.pointer (some ⟨b, 0, none⟩), .pointer (some ⟨OUT, 0, none⟩), .pointer (some ⟨HID, 0, none⟩)] W fun e w' => e = .returned (.tuple #[]) ∧ RunsS B OUT b HID END w (allR o acc hid) [] hid w' ∧ KpW B W w' := by
  obtain ⟨_, c0, hc0⟩ := S.bld.at
  by_cases hz : acc = []
  · subst hz
    rw [allR_nil]
    have hl := Tryd.Builder_Len_f B b _ W S.bld
    rw [byteCells_utf_nil] at hl
    go_enter Tryd.func61, Tryd.ntmps61
    go_wp2_with (first
      | (go_at_call 62; refine hl.mono ?_; rintro e w1 ⟨rfl, rfl⟩)
      | (go_at_call 64; refine (reset_calls S.bld).mono ?_; rintro e w2 ⟨rfl, hb2, k2⟩))
    go_end0
    exact ⟨rfl, S.kpb k2 hb2, k2.kpw hc0⟩
  · have hl := Tryd.Builder_Len_f B b _ W S.bld
    obtain ⟨n, hn⟩ : ∃ n, n = (Lib.byteCells (utf acc)).length := ⟨_, rfl⟩
    have hn0 := byteCells_utf_pos hz
    rw [← hn] at hl hn0
    have dn : decide (0 < n) = true := decide_eq_true hn0
    have hall : allR o acc hid = o ++ [(acc, hid)] := by rw [allR, if_neg hz]
    rw [hall]
    obtain ⟨v, hv, hR⟩ := S.out
    obtain ⟨A, c, rfl⟩ := Kd.R_slice hR
    have hlt := new_lt hv
    have hstr : ∀ W', Below W.heap.size W W' → Calls Tryd.prog 63 #[.pointer (some ⟨b, 0, none⟩)] W' fun e w' => e = .returned (.string (txt acc)) ∧ (Bld B b acc w' ∧ KpB B b W w') := fun W' hW => by
      refine (Tryd.Builder_String_any_k B b (utf acc) W' (S.bld.below hW) (Nat.le_trans hB hW.size)).mono ?_
      rintro e w' ⟨he, h1, h2, h3⟩
      exact ⟨he, h1, (KpB.of hW hB).trans ⟨h2, h3⟩⟩
    have HL : Hid (((sRuns o).length + 1) * 24 ≤ 140737488355328) := Lib.hid (by rw [show (sRuns o).length = o.length by simp [sRuns]]; omega)
    obtain ⟨y0, g0⟩ := cells1k hv
    obtain ⟨y1, _⟩ := cells1k S.hc
    have HSTR := Lib.hid hstr
    clear hn hn0 hz hall ho hacc hstr
    go_enter Tryd.func61, Tryd.ntmps61
    go_wp2_with (go_at_call 62; refine hl.mono ?_; rintro e w1 ⟨rfl, rfl⟩)
    go_region_law (first
      | (go_simp; go_at_call 63; refine (HSTR.out _ (by (repeat first | exact Below.refl _ _ | refine Below.drew ?_))).mono ?_; rintro e w3 ⟨rfl, hb3, k3⟩; have hv3 := k3.cells hv (by decide) (ty_ne hv hc0 (by decide)); have hh3 := k3.cells S.hc (by decide) (ty_ne S.hc hc0 (by decide)); have hz0 := cells1k hv3; have hz1 := cells1k hh3; obtain ⟨z0, zf⟩ := hz0; obtain ⟨z1, _⟩ := hz1; have q0 := pw_cell_below (below_alloc (Below.refl w3.heap.size w3) (.cells #[.string (txt acc), .int .i64 hid] 58)) z0; have hR3 := R58_kpb hR k3 ⟨_, hc0⟩)
      | (refine Kd.R_append_step k58 (w0 := w1) B (by rfl) (.tmp 5) (.tmp 9) 23 58 (.agg #[.string ByteArray.empty, .int .i64 0]) 24 rfl Tryd.underlying23 info58' rfl (by decide) (by decide) (.slice A (sRuns o).length c) (sRuns o) ⟨txt acc, hid⟩ [.string (txt acc), .int .i64 hid] (fun k => B ≤ k) (fun _ => False) rfl rfl (k58_mkM _ _ _ ⟨_, _⟩) (fun _ h => h.elim) (fun k hk => Nat.le_trans (Nat.le_trans hB k3.bl.size) hk) hR3 k3.bl (Nat.le_trans hB k3.bl.size) HL.out ?_; intro v4 w4 hR4 hB4 hg4 hat4; have hsl := Kd.R_slice hR4; obtain ⟨A4, c4, hvv⟩ := hsl; subst hvv; have hv4 := (hg4.block _ (new_lt hv3) (R58_ne hR3 hv3 (by decide))).trans hv3; have hx := cells1k hv4; obtain ⟨x0, x1⟩ := hx))
    all_goals
      have hR5 : Kd.R k58 58 w4 B (fun k => B ≤ k) (.slice A4 (sRuns o ++ [(⟨txt acc, hid⟩ : S58)]).length c4) (sRuns (o ++ [(acc, hid)])) := by rw [sRuns_snoc]; exact hR4
      obtain ⟨S5, k5⟩ := (S.kpb k3 hb3).push hv3 hR3 hR5 (Nat.le_trans hB k3.bl.size) hg4
      rw [List.length_append] at S5 k5
      obtain ⟨W5, hW5⟩ : ∃ W5, w4.setCell ⟨OUT, 0, none⟩ (.slice A4 ((sRuns o).length + [(⟨txt acc, hid⟩ : S58)].length) c4) = W5 := ⟨_, rfl⟩
      rw [hW5] at S5 k5
      have hW5' : w4.setCell ⟨OUT, 0, none⟩ (.slice A4 ((sRuns o).length + 1) c4) = W5 := hW5
      rw [hW5']
      clear hW5 hW5' hR4 hR5 hat4 hg4 hv4 x0 x1 q0 z0 zf z1 hR3 hh3 hv3 y0 g0 y1 hv hR HSTR hl
      simp only [Exit.then]
      go_at_K
      go_wp2_with (go_at_call 64; refine (reset_calls S5.bld).mono ?_; rintro e w6 ⟨rfl, hb6, k6⟩)
      go_end0
      obtain ⟨_, c1, hc1⟩ := S5.bld.at
      exact ⟨rfl, S5.kpb k6 hb6, (k3.kpw hc0).trans (k5.trans (k6.kpw hc1))⟩
end Go.Proofs.YteeigokkafcaaaaDoorRope
end
section
namespace Go.Proofs.YteeigokkafcaaaaDoorRope
open Go.RowKit Go.Proofs.YteeigokkafcaaaaDoorW.PrintWords Go.Proofs.YteeigokkafcaaaaDoorW.PrintMore Go.Proofs.YteeigokkafcaaaaDoor.Pr
set_option linter.unusedSimpArgs false
set_option linter.unusedVariables false
theorem RunsS.sethid {B OUT b HID END : Nat} {w W : World} {o : List (List Int × Int)} {acc : List Int} {hid : Int} (S : RunsS B OUT b HID END w o acc hid W) (h : Int) : RunsS B OUT b HID END w o acc h (W.setCell ⟨HID, 0, none⟩ (.int .i64 h)) ∧ KpW B W (W.setCell ⟨HID, 0, none⟩ (.int .i64 h)) := by
  obtain ⟨v, hv, hR⟩ := S.out
  have hk := KpW.set (v := .int .i64 h) S.lh S.hc
  refine ⟨⟨⟨v, set_other hv (ty_ne hv S.hc (by decide)), ?_⟩, S.bld.set _ S.hc, set1k S.hc, set_other S.ec (ty_ne S.ec S.hc (by decide)), S.bel.trans hk.b, S.lo, S.lh⟩, hk⟩
  refine Kd.R_mono (Kd.R_step (Kd.R_bound hR) (fun k hk' hl => ?_)) (fun k hk => hk.1)
  obtain ⟨_, _, _, q, hq, cells, hc⟩ := hk'
  obtain rfl : q = 58 := by simpa using (show q ∈ [58] from hq)
  rw [hc]
  exact set_other hc (ty_ne hc S.hc (by decide))
set_option maxRecDepth 100000 in
set_option maxHeartbeats 16000000 in
theorem runs2_same {B OUT b HID END : Nat} {w W : World} {o : List (List Int × Int)} {acc : List Int} {h : Int} (S : RunsS B OUT b HID END w o acc h W) (hB : B ≤ W.heap.size) (at_ : Int) {rs : List Int} {A : Option Addr} {c : Nat} (hr : RunesAt W A rs) (hA : ∀ ad, A = some ad → ad.block < B) (hrn : ∀ r ∈ rs, Rn r) (hal : acc.length + rs.length ≤ 1048576) :
    Calls Tryd.prog 66 #[.int .i64 at_, .agg #[.slice A rs.length c, .int .i64 h], .pointer (some ⟨HID, 0, none⟩), .pointer (some ⟨END, 0, none⟩), .pointer (some ⟨b, 0, none⟩)] W fun e w' => e = .returned (.bool true) ∧ RunsS B OUT b HID END w o (acc ++ rs) h w' ∧ KpW B W w' := by
  have HRN := Lib.hid hrn
  have HAL := Lib.hid hal
  have bl : (rs.length : Int) ≤ 1048576 := by omega
  obtain ⟨W1, hW1⟩ : ∃ W1, W.alloc (.cells #[.slice A rs.length c, .int .i64 h] 113) = W1 := ⟨_, rfl⟩
  have hb1 : Below W.heap.size W W1 := by rw [← hW1]; exact below_alloc (Below.refl _ W) _
  have z0 : W1.cell? ⟨W.heap.size, 0, none⟩ = some (.slice A rs.length c) := by rw [← hW1]; simp
  have z1 : W1.cell? ⟨W.heap.size, 1, none⟩ = some (.int .i64 h) := by rw [← hW1]; simp
  have S1 := S.below hB hb1
  have k1 := KpW.of hb1 hB
  have y1 := (cells1k S1.hc).1
  clear hrn hal
  go_enter Tryd.func66, Tryd.ntmps66
  go_wp2
  go_loopw [21] (fun i wr => ∃ k : Nat, k ≤ rs.length ∧ i = .int .i64 (k : Int) ∧ RunsS B OUT b HID END w o (acc ++ rs.take k) h wr ∧ KpW B W wr) (fun i _ => rs.length - (intOf i).toNat)
  case atStart => exact ⟨0, Nat.zero_le _, rfl, by simpa using S1, k1⟩
  case round =>
    obtain ⟨k, hkl, rfl, hI, hK⟩ := hrel
    by_cases hlt : k < rs.length
    · obtain ⟨ad, hAd, y0⟩ := Kd.at_int (hr.kept hA hK) (k : Int) (by omega) (by omega)
      subst hAd
      have e1 : rd rs (k : Int) = rs[k] := by
        show rs.getD (k : Int).toNat 0 = rs[k]
        rw [Int.toNat_natCast, List.getD_eq_getElem?_getD, List.getElem?_eq_getElem hlt]
        rfl
      rw [e1, Int.toNat_natCast] at y0
      have hR := HRN.out _ (List.getElem_mem hlt)
      have hbt := byte_take (acc := acc) hlt
      have hlen : (Lib.byteCells (utf (acc ++ rs.take k))).length + 4 ≤ 140737488355328 := by
        have := byte_len (acc ++ rs.take k)
        rw [List.length_append, List.length_take] at this
        have := HAL.out
        (try simp only [List.length_nil] at *)
        omega
      obtain ⟨r, hr'⟩ : ∃ r, r = rs[k] := ⟨_, rfl⟩
      rw [← hr'] at y0 hR hbt
      have HBT := Lib.hid hbt
      have hBw : B ≤ wr.heap.size := Nat.le_trans hB hK.b.size
      clear hbt hr' e1
      obtain ⟨r0, r1, r2⟩ := hR
      have r3 : -2147483648 ≤ r := by omega
      have r4 : r ≤ 2147483647 := by omega
      clear r0 r1 r2
      go_wp2_with (go_at_call 67; refine (Tryd.Builder_WriteRune_k B b _ r r3 r4 _ hI.bld hlen hBw).mono ?_; rintro e w2 ⟨rfl, h2, b2, k2⟩)
      go_roundw
      case rel =>
        obtain ⟨_, c9, hc9⟩ := hI.bld.at
        have h3 : Bld B b (acc ++ rs.take (k + 1)) w2 := by unfold Bld; rw [← HBT.out]; exact .inr h2
        exact ⟨k + 1, hlt, by go_num, hI.kpb ⟨b2, k2⟩ h3, hK.trans (KpB.kpw ⟨b2, k2⟩ hc9)⟩
      case measure => simp [intOf]; omega
    · obtain rfl : k = rs.length := by omega
      rw [List.take_length] at hI
      clear hlt hkl
      have d1 : decide (rs.length < rs.length) = false := decide_eq_false (Nat.lt_irrefl _)
      go_wp2
      go_ret
      exact ⟨rfl, hI, hK⟩
set_option maxRecDepth 100000 in
set_option maxHeartbeats 16000000 in
theorem runs2_other {B OUT b HID END : Nat} {w W : World} {o : List (List Int × Int)} {acc : List Int} {hid h : Int} (S : RunsS B OUT b HID END w o acc hid W) (hne : h ≠ hid) (hB : B ≤ W.heap.size) (at_ : Int) {rs : List Int} {A : Option Addr} {c : Nat} (hr : RunesAt W A rs) (hA : ∀ ad, A = some ad → ad.block < B) (hrn : ∀ r ∈ rs, Rn r) (ho : o.length ≤ 1048576) (hac : acc.length ≤ 1048576) (hal : rs.length ≤ 1048576) :
    Calls Tryd.prog 66 #[.int .i64 at_, .agg #[.slice A rs.length c, .int .i64 h], .pointer (some ⟨HID, 0, none⟩), .pointer (some ⟨END, 0, none⟩), .pointer (some ⟨b, 0, none⟩)] W fun e w' => e = .returned (.bool true) ∧ RunsS B OUT b HID END w (allR o acc hid) rs h w' ∧ KpW B W w' := by
  have HRN := Lib.hid hrn
  have HAL := Lib.hid hal
  have bl : (rs.length : Int) ≤ 1048576 := by omega
  have dn : (h == hid) = false := beq_eq_false_iff_ne.mpr hne
  obtain ⟨W1, hW1⟩ : ∃ W1, W.alloc (.cells #[.slice A rs.length c, .int .i64 h] 113) = W1 := ⟨_, rfl⟩
  have hb1 : Below W.heap.size W W1 := by rw [← hW1]; exact below_alloc (Below.refl _ W) _
  have hbx : W1.heap[W.heap.size]? = some (.cells #[.slice A rs.length c, .int .i64 h] 113 (0, 0)) := by rw [← hW1]; exact heap_new _ _
  have z0 : W1.cell? ⟨W.heap.size, 0, none⟩ = some (.slice A rs.length c) := by rw [← hW1]; simp
  have z1 : W1.cell? ⟨W.heap.size, 1, none⟩ = some (.int .i64 h) := by rw [← hW1]; simp
  have S1 := S.below hB hb1
  have hB1 := Nat.le_trans hB hb1.size
  have k1 := KpW.of hb1 hB
  have y1 := (cells1k S1.hc).1
  have y2 := (cells1k S1.ec).1
  have hend := end_calls S1 hB1 ho hac
  have HEND := Lib.hid hend
  clear hrn hal ho hac hend hne
  go_enter Tryd.func66, Tryd.ntmps66
  go_wp2_with (go_at_call 61; refine HEND.out.mono ?_; rintro e w3 ⟨rfl, S3, k3⟩; have hbx3 := k3.n _ _ _ (.inr rfl) hbx; have hz3 := cells2 hbx3; obtain ⟨u0, u1⟩ := hz3; have hy3 := cells1k S3.hc; obtain ⟨y3, f3⟩ := hy3; have h4 := S3.sethid h; obtain ⟨S4, k4⟩ := h4; have hbx4 := k4.n _ _ _ (.inr rfl) hbx3; have hz4 := cells2 hbx4; obtain ⟨t0, t1⟩ := hz4)
  have kA := k1.trans (k3.trans k4)
  go_loopw [21] (fun i wr => ∃ k : Nat, k ≤ rs.length ∧ i = .int .i64 (k : Int) ∧ RunsS B OUT b HID END w (allR o acc hid) (([] : List Int) ++ rs.take k) h wr ∧ KpW B W wr) (fun i _ => rs.length - (intOf i).toNat)
  case atStart => exact ⟨0, Nat.zero_le _, rfl, by simpa using S4, kA⟩
  case round =>
    obtain ⟨k, hkl, rfl, hI, hK⟩ := hrel
    by_cases hlt : k < rs.length
    · obtain ⟨ad, hAd, y0⟩ := Kd.at_int (hr.kept hA hK) (k : Int) (by omega) (by omega)
      subst hAd
      have e1 : rd rs (k : Int) = rs[k] := by
        show rs.getD (k : Int).toNat 0 = rs[k]
        rw [Int.toNat_natCast, List.getD_eq_getElem?_getD, List.getElem?_eq_getElem hlt]
        rfl
      rw [e1, Int.toNat_natCast] at y0
      have hR := HRN.out _ (List.getElem_mem hlt)
      have hbt := byte_take (acc := ([] : List Int)) hlt
      have hlen : (Lib.byteCells (utf (([] : List Int) ++ rs.take k))).length + 4 ≤ 140737488355328 := by
        have := byte_len (([] : List Int) ++ rs.take k)
        rw [List.length_append, List.length_take] at this
        have := HAL.out
        (try simp only [List.length_nil] at *)
        omega
      obtain ⟨r, hr'⟩ : ∃ r, r = rs[k] := ⟨_, rfl⟩
      rw [← hr'] at y0 hR hbt
      have HBT := Lib.hid hbt
      have hBw : B ≤ wr.heap.size := Nat.le_trans hB hK.b.size
      clear hbt hr' e1
      obtain ⟨r0, r1, r2⟩ := hR
      have r3 : -2147483648 ≤ r := by omega
      have r4 : r ≤ 2147483647 := by omega
      clear r0 r1 r2
      go_wp2_with (go_at_call 67; refine (Tryd.Builder_WriteRune_k B b _ r r3 r4 _ hI.bld hlen hBw).mono ?_; rintro e w2 ⟨rfl, h2, b2, k2⟩)
      go_roundw
      case rel =>
        obtain ⟨_, c9, hc9⟩ := hI.bld.at
        have h3 : Bld B b (([] : List Int) ++ rs.take (k + 1)) w2 := by unfold Bld; rw [← HBT.out]; exact .inr h2
        exact ⟨k + 1, hlt, by go_num, hI.kpb ⟨b2, k2⟩ h3, hK.trans (KpB.kpw ⟨b2, k2⟩ hc9)⟩
      case measure => simp [intOf]; omega
    · obtain rfl : k = rs.length := by omega
      rw [List.take_length] at hI
      clear hlt hkl
      have d1 : decide (rs.length < rs.length) = false := decide_eq_false (Nat.lt_irrefl _)
      go_wp2
      go_ret
      exact ⟨rfl, hI, hK⟩
end Go.Proofs.YteeigokkafcaaaaDoorRope
end
section
namespace Go.Proofs.YteeigokkafcaaaaDoorRope
open Go.RowKit Go.Proofs.YteeigokkafcaaaaDoorW.PrintWords Go.Proofs.YteeigokkafcaaaaDoorW.PrintMore Go.Proofs.YteeigokkafcaaaaDoor.Pr
set_option linter.unusedSimpArgs false
set_option linter.unusedVariables false
theorem run_store_fn {P : Program} {w : World} (a : Addr) (m : Mode) (f : Fn) {x1 : _} {x2 : _} : (store a (.func f x1 x2) m).run P w = stored P w a (.func f x1 x2) m := run_store P w a _ m rfl
attribute [local go_sem] run_store_fn
theorem At.take {C : List (Int × Int)} {q : Nat} {s : List (Int × Int)} (h : At C q s) : C.take (q + s.length) = C.take q ++ s := by
  obtain ⟨X, Y, rfl, rfl⟩ := h
  have e1 : List.take X.length (X ++ s ++ Y) = X := by rw [List.append_assoc, List.take_left]
  have e2 : List.take (X.length + s.length) (X ++ s ++ Y) = X ++ s := by
    rw [show X.length + s.length = (X ++ s).length by simp, List.take_left]
  rw [e1, e2]
def RunsJ (B OUT b HID END : Nat) (w : World) (C : List (Int × Int)) (q : Nat) (W : World) : Prop := ∃ o acc hid, RunsQ C q o acc hid ∧ q ≤ C.length ∧ RunsS B OUT b HID END w o acc hid W
theorem see66 {B OUT b HID END : Nat} {w : World} {C : List (Int × Int)} (hC : C.length ≤ 1048576) (hN : ∀ c ∈ C, Rn c.1) (at_ : Nat) (p : Pc) (W : World) (hj : RunsJ B OUT b HID END w C at_ W) (ha : At C at_ p.cells) (hr : RunesAt W p.A p.rs) (hA : ∀ ad, p.A = some ad → ad.block < B) (hne : p.rs ≠ []) (hB : B ≤ W.heap.size) :
    Calls Tryd.prog 66 #[.int .i64 (at_ : Int), .agg #[.slice p.A p.rs.length p.c, .int .i64 p.hid], .pointer (some ⟨HID, 0, none⟩), .pointer (some ⟨END, 0, none⟩), .pointer (some ⟨b, 0, none⟩)] W fun e w' => (e = .returned (.bool true) ∧ RunsJ B OUT b HID END w C (at_ + p.rs.length) w' ∧ KpW B W w') ∨ (e = .returned (.bool false) ∧ False) := by
  obtain ⟨o, acc, hid, hq, hqC, S⟩ := hj
  have hle := ha.le
  have htk := ha.take
  have hpl : p.cells.length = p.rs.length := by simp [Pc.cells]
  rw [hpl] at hle htk
  have hrn : ∀ r ∈ p.rs, Rn r := by
    intro r hr'
    have : (r, p.hid) ∈ C := by
      obtain ⟨X, Y, hXY, _⟩ := ha
      rw [hXY]
      simp only [List.mem_append]
      exact .inl (.inr (List.mem_map.2 ⟨r, hr', rfl⟩))
    exact hN _ this
  have h1 := hq.hid
  have h2 := hq.acc
  by_cases c : p.hid = hid
  · subst c
    refine (runs2_same S hB at_ hr hA hrn (by omega)).mono ?_
    rintro e w' ⟨he, S', k'⟩
    exact .inl ⟨he, ⟨_, _, _, hq.same hne htk, hle, S'⟩, k'⟩
  · have h3 : o.length ≤ (allR o acc hid).length := by
      unfold allR
      split <;> simp
    refine (runs2_other S c hB at_ hr hA hrn (by omega) (by omega) (by omega)).mono ?_
    rintro e w' ⟨he, S', k'⟩
    exact .inl ⟨he, ⟨_, _, _, hq.other hne c htk, hle, S'⟩, k'⟩
set_option maxRecDepth 100000 in
set_option maxHeartbeats 16000000 in
theorem runs_of {K0 : Nat → Prop} {W : World} {b0 : Nat} {t : Tree} (h : RopeAt K0 W b0 t) (hsz : t.cells.length ≤ 1048576) (hN : ∀ c ∈ t.cells, Rn c.1) :
    Calls Tryd.prog 23 #[.pointer (some ⟨b0, 0, none⟩)] W fun e w' => ∃ A c L, e = .returned (.slice A (sRuns L).length c) ∧ Kd.R k58 58 w' W.heap.size (fun k => W.heap.size ≤ k) (.slice A (sRuns L).length c) (sRuns L) ∧ Few L ∧ rcells L = t.cells ∧ Below W.heap.size W w' := by
  obtain ⟨p0, hv, hE, hn, hlt⟩ := h.blk
  have ht := hE.t _ List.mem_cons_self
  have ht2 := Rpo.of (ht.rep.bound ht.good)
  have ht3 : Rpo (fun k => k < W.heap.size) W t (.pointer p0) := ht2.mono (fun k hk => hk.2)
  have y00 : W.cell? ⟨b0, 0, none⟩ = some (.pointer p0) := by simp [World.cell?, hv]
  obtain ⟨fv, hfv⟩ : ∃ fv : Value, fv = .func (.func 61) #[] #[.pointer (some ⟨W.heap.size + 1, 0, none⟩), .pointer (some ⟨W.heap.size, 0, none⟩), .pointer (some ⟨W.heap.size + 1 + 1, 0, none⟩)] := ⟨_, rfl⟩
  obtain ⟨W5, hW5⟩ : ∃ W5, ((((W.alloc (.cells #[.slice none 0 0] 23)).alloc (.cells #[.pointer none, .slice none 0 0] 118)).alloc (.cells #[.int .i64 0] 3)).alloc (.cells #[.func (.func 61) #[] #[.pointer (some ⟨W.heap.size + 1, 0, none⟩), .pointer (some ⟨W.heap.size, 0, none⟩), .pointer (some ⟨W.heap.size + 1 + 1, 0, none⟩)]] 1)) = W5 := ⟨_, rfl⟩
  have hb5 : Below W.heap.size W W5 := by rw [← hW5]; exact below_alloc (below_alloc (below_alloc (below_alloc (Below.refl _ W) _) _) _) _
  have o1 : W5.heap[W.heap.size]? = some (Obj.cells #[.slice none 0 0] 23 (0, 0)) := by
    rw [← hW5]; exact ((below_alloc (below_alloc (below_alloc (Below.refl _ _) _) _) _).block _ (by simp)).trans (heap_new W _)
  have o2 : W5.heap[W.heap.size + 1]? = some (Obj.cells #[.pointer none, .slice none 0 0] 118 (0, 0)) := by
    rw [← hW5]
    have := heap_new (W.alloc (.cells #[.slice none 0 0] 23)) (.cells #[.pointer none, .slice none 0 0] 118)
    rw [World.size_alloc] at this
    exact ((below_alloc (below_alloc (Below.refl _ _) _) _).block _ (by simp)).trans this
  have o3 : W5.heap[W.heap.size + 1 + 1]? = some (Obj.cells #[.int .i64 0] 3 (0, 0)) := by
    rw [← hW5]
    have := heap_new ((W.alloc (.cells #[.slice none 0 0] 23)).alloc (.cells #[.pointer none, .slice none 0 0] 118)) (.cells #[.int .i64 0] 3)
    rw [World.size_alloc, World.size_alloc] at this
    exact ((below_alloc (Below.refl _ _) _).block _ (by simp)).trans this
  have o4 : W5.heap[W.heap.size + 1 + 1 + 1]? = some (Obj.cells #[.func (.func 61) #[] #[.pointer (some ⟨W.heap.size + 1, 0, none⟩), .pointer (some ⟨W.heap.size, 0, none⟩), .pointer (some ⟨W.heap.size + 1 + 1, 0, none⟩)]] 1 (0, 0)) := by
    rw [← hW5]
    have := heap_new (((W.alloc (.cells #[.slice none 0 0] 23)).alloc (.cells #[.pointer none, .slice none 0 0] 118)).alloc (.cells #[.int .i64 0] 3)) (.cells #[.func (.func 61) #[] #[.pointer (some ⟨W.heap.size + 1, 0, none⟩), .pointer (some ⟨W.heap.size, 0, none⟩), .pointer (some ⟨W.heap.size + 1 + 1, 0, none⟩)]] 1)
    rwa [World.size_alloc, World.size_alloc, World.size_alloc] at this
  have S5 : RunsS W.heap.size W.heap.size (W.heap.size + 1) (W.heap.size + 1 + 1) (W.heap.size + 1 + 1 + 1) W [] [] 0 W5 :=
    ⟨⟨_, o1, Kd.R_nil _ _ _ _ _⟩, .inl ⟨Nat.le_succ _, _, o2, ⟨rfl, .inl ⟨rfl, rfl⟩⟩, by simp [Value.ownBlock]⟩, o3, o4, hb5, Nat.le_refl _, by omega⟩
  have y5 := pw_cell_below hb5 y00
  have hwk := walk_66 (B := W.heap.size) (C := t.cells) (lo := 0) (J := RunsJ W.heap.size W.heap.size (W.heap.size + 1) (W.heap.size + 1 + 1) (W.heap.size + 1 + 1 + 1) W t.cells) (Jx := fun _ => False) (k0 := .pointer (some ⟨W.heap.size + 1 + 1, 0, none⟩)) (k1 := .pointer (some ⟨W.heap.size + 1 + 1 + 1, 0, none⟩)) (k2 := .pointer (some ⟨W.heap.size + 1, 0, none⟩)) hsz (Nat.zero_le _)
    (fun at_ p W' hj _ ha hr hA _ hne _ hB' => see66 hsz hN at_ p W' hj ha hr hA hne hB')
    (fun at_ n W' hj hn => by rw [show at_ + n = at_ by omega]; exact hj)
    (fun at_ W' W'' hj hb' => by obtain ⟨o, acc, hid, hq, hqC, S⟩ := hj; exact ⟨o, acc, hid, hq, hqC, S.below (Nat.le_trans S.bel.size (Nat.le_refl _)) hb'⟩)
    t.size t (.pointer p0) W5 0 (Nat.le_refl _) (ht3.below hb5) ht.good hb5.size (At.all _) ⟨[], [], 0, RunsQ.zero _, Nat.zero_le _, S5⟩
  rw [Nat.zero_add] at hwk
  replace hwk := hwk.mono (fun e w' h => h.elim id (fun h => h.2.elim))
  have HWK := Lib.hid hwk
  have HSZ := Lib.hid hsz
  clear hwk o1 o2 o3 o4 S5 hfv fv hsz
  go_enter Tryd.func23, Tryd.ntmps23
  go_wp2_with (first
    | (go_at_call 65; refine HWK.out.mono ?_; rintro e w6 ⟨rfl, hj6, k6⟩; obtain ⟨o, acc, hid, hq, _, S6⟩ := hj6; have y6 := (cells1k S6.ec).1; have hB6 := S6.bel.size; have h1 := hq.hid; have h2 := hq.acc; have h3 : o.length ≤ (allR o acc hid).length := (by unfold allR; split <;> simp); have hend := end_calls S6 hB6 (by have := HSZ.out; omega) (by have := HSZ.out; omega); have HEND := Lib.hid hend; clear h1 h2 h3 hend)
    | (go_at_call 61; refine HEND.out.mono ?_; rintro e w7 ⟨rfl, S7, k7⟩; have ho7 := S7.out; obtain ⟨v7, hv7, hR7⟩ := ho7; have hs7 := Kd.R_slice hR7; obtain ⟨A7, c7, hvv⟩ := hs7; subst hvv; have y7 := (cells1k hv7).1))
  go_ret
  refine ⟨A7, c7, allR o acc hid, rfl, hR7, hq.few, ?_, S7.bel⟩
  rw [hq.cells, List.take_length]
theorem rope_runs {W : World} {b : Nat} {cs : List (Int × Int)} (h : RopeHas W b cs) (hsz : cs.length ≤ 1048576) (hN : ∀ c ∈ cs, Rn c.1) : Calls Tryd.prog 23 #[.pointer (some ⟨b, 0, none⟩)] W fun e w' => ∃ A c L, e = .returned (.slice A L.length c) ∧ Kd.R k58 58 w' W.heap.size (fun k => W.heap.size ≤ k) (.slice A L.length c) (sRuns L) ∧ Few L ∧ rcells L = cs ∧ Below W.heap.size W w' := by
  obtain ⟨K, t, h, rfl⟩ := h
  refine (runs_of h hsz hN).mono ?_
  rintro e w' ⟨A, c, L, he, hR, hf, hc, hb⟩
  rw [show (sRuns L).length = L.length by simp [sRuns]] at he hR
  exact ⟨A, c, L, he, hR, hf, hc, hb⟩
end Go.Proofs.YteeigokkafcaaaaDoorRope
end
section
namespace Go.Proofs.YteeigokkafcaaaaDoorRope
open Go.RowKit Go.Proofs.YteeigokkafcaaaaDoorW.PrintWords Go.Proofs.YteeigokkafcaaaaDoorW.PrintMore Go.Proofs.YteeigokkafcaaaaDoor.Pr
set_option linter.unusedSimpArgs false
set_option linter.unusedVariables false
theorem inc64b {i : Nat} (h : i ≤ 2097152) : wrap64 ((i : Int) + 1) = ((i + 1 : Nat) : Int) := by rw [w64 (by omega) (by omega)]; omega
theorem eqRuns_l0 {l : List S58} (hl : l.length ≤ 1048576) : ∀ (d i : Nat), i + d = l.length → redraftlaw03_EqRuns.l0 (d + 1) l l (i : Int) = some true := by
  intro d
  induction d with
  | zero =>
    intro i hi
    have c1 : ¬ (i : Int) < (l.length : Int) := by omega
    rw [redraftlaw03_EqRuns.l0, if_neg c1]
  | succ d ih =>
    intro i hi
    have hih := ih (i + 1) (by omega)
    have c1 : (i : Int) < (l.length : Int) := by omega
    have b1 : i ≤ 2097152 := by omega
    rw [redraftlaw03_EqRuns.l0, if_pos c1, if_pos (Int.natCast_nonneg i), if_pos c1, if_neg (by simp), inc64b b1]
    exact hih
theorem eqRuns_calls {l : List S58} (hl : l.length ≤ 1048576) {w : World} {A B : Option Addr} {c d : Nat} (hA : Kd.C k58 w A l.length l) (hc : l.length ≤ c) (hB : Kd.C k58 w B l.length l) (hd : l.length ≤ d) : Calls Tryd.prog 35 #[.slice A l.length c, .slice B l.length d] w fun e w' => e = .returned (.bool true) ∧ Below w.heap.size w w' := by
  have h1 : redraftlaw03_EqRuns.f (l.length + 1) l l = some true := by
    unfold redraftlaw03_EqRuns.f
    rw [if_pos rfl]
    exact eqRuns_l0 hl l.length 0 (by omega)
  exact (redraftlaw03_EqRuns.calls _ A c l B d l true w hA hc hB hd h1).mono fun e w' ⟨he, hd⟩ => ⟨he, hd.below⟩
theorem sRuns_len (l : List (List Int × Int)) : (sRuns l).length = l.length := by simp [sRuns]
theorem eqRuns_c {l : List (List Int × Int)} (hl : l.length ≤ 1048576) {w : World} {A B : Option Addr} {c d : Nat} (hA : Kd.C k58 w A l.length (sRuns l)) (hc : l.length ≤ c) (hB : Kd.C k58 w B l.length (sRuns l)) (hd : l.length ≤ d) : Calls Tryd.prog 35 #[.slice A l.length c, .slice B l.length d] w fun e w' => e = .returned (.bool true) ∧ Below w.heap.size w w' := by
  have h := eqRuns_calls (l := sRuns l) (by rw [sRuns_len]; exact hl) (w := w) (A := A) (B := B) (c := c) (d := d) (by rw [sRuns_len]; exact hA) (by rw [sRuns_len]; exact hc) (by rw [sRuns_len]; exact hB) (by rw [sRuns_len]; exact hd)
  rwa [sRuns_len] at h
theorem rope_runs_is {W : World} {b : Nat} {cs : List (Int × Int)} {L : List (List Int × Int)} (h : RopeHas W b cs) (hsz : cs.length ≤ 1048576) (hN : ∀ c ∈ cs, Rn c.1) (hL : Few L) (hc : rcells L = cs) : Calls Tryd.prog 23 #[.pointer (some ⟨b, 0, none⟩)] W fun e w' => ∃ A c, e = .returned (.slice A L.length c) ∧ Kd.C k58 w' A L.length (sRuns L) ∧ L.length ≤ c ∧ Below W.heap.size W w' := by
  refine (rope_runs h hsz hN).mono ?_
  rintro e w' ⟨A, c, L', he, hR, hf, hc', hb⟩
  obtain rfl := few_uniq L' L hf hL (by rw [hc', hc])
  have h1 := (Kd.R_reads' hR).2
  rw [sRuns_len] at h1
  exact ⟨A, c, he, h1.2, h1.1, hb⟩
section
variable {S : Nat → Prop} {W W' : World} {A : Option Addr} {c : Nat} {l : List (Nat × Nat)}
end
section
variable {w W W' : World} {b : Nat} {A A' : Option Addr} {c c' : Nat} {cs cs' cs'' : List (Int × Int)} {l : List (Nat × Nat)}
end
end Go.Proofs.YteeigokkafcaaaaDoorRope
end
section
namespace Go.Proofs.YteeigokkafcaaaaDoorRope
open Go.RowKit Go.Proofs.YteeigokkafcaaaaDoorW.PrintWords Go.Proofs.YteeigokkafcaaaaDoorW.PrintMore Go.Proofs.YteeigokkafcaaaaDoor.Pr
set_option linter.unusedSimpArgs false
set_option linter.unusedVariables false
theorem nth0_here {cs : List (Int × Int)} {q : Nat} (h : q < cs.length) (h0 : cs[q].2 = 0) : nth0 cs (vis (cs.take q)) = q := by
  have e := nth0_append (cs.take q) (cs.drop q) (vis (cs.take q))
  rw [List.take_append_drop, if_neg (Nat.lt_irrefl _), Nat.sub_self, List.length_take, List.drop_eq_getElem_cons h, nth0, if_pos h0, if_pos rfl] at e
  rw [e]
  omega
set_option maxRecDepth 100000 in
set_option maxHeartbeats 32000000 in
theorem is_calls {w W : World} {b : Nat} {A : Option Addr} {c : Nat} {cs : List (Int × Int)} (S : Stand w W b A c cs cs) (hrn : ∀ x ∈ cs, Rn x.1) (hl : cs.length ≤ 20000) :
    Calls Tryd.prog 40 #[.pointer (some ⟨b, 0, none⟩), .slice A cs.length c] W fun e w' => e = .returned (.bool true) ∧ Below W.heap.size W w' := by
  obtain ⟨N, hN⟩ : ∃ N, N = cs.length := ⟨_, rfl⟩
  have bN : (N : Int) ≤ 20000 := by omega
  obtain ⟨V, hV⟩ : ∃ V, V = vis cs := ⟨_, rfl⟩
  have hVN : V ≤ N := by rw [hV, hN]; exact vis_le cs
  have C1 : ∀ W b, RopeHas W b cs → Calls Tryd.prog 19 #[.pointer (some ⟨b, 0, none⟩)] W fun e w' => e = .returned (.int .i64 (N : Int)) ∧ Below W.heap.size W w' := fun W b h => by rw [hN]; exact rope_total h
  have C2 : ∀ W b, RopeHas W b cs → Calls Tryd.prog 20 #[.pointer (some ⟨b, 0, none⟩)] W fun e w' => e = .returned (.int .i64 (V : Int)) ∧ Below W.heap.size W w' := fun W b h => by rw [hV]; exact rope_shown h
  have C3 : ∀ W b, RopeHas W b cs → Calls Tryd.prog 30 #[.pointer (some ⟨b, 0, none⟩)] W fun e w' => e = .returned (.string (txt (visR cs))) ∧ Below W.heap.size W w' := fun W b h => rope_text h (by omega) hrn
  have C4 : ∀ W A c, Kd.C k36 W A N (sCells cs) → Calls Tryd.prog 32 #[.slice A N c, .int .i64 0, .int .i64 (N : Int)] W fun e w' => e = .returned (.string (txt (visR cs))) ∧ Below W.heap.size W w' := fun W A c h => by rw [hN] at h ⊢; exact textS_calls (by omega) hrn h
  have C5 : ∀ W A c, Kd.C k36 W A N (sCells cs) → N ≤ c → Calls Tryd.prog 17 #[.slice A N c, .int .i64 (N : Int)] W fun e w' => e = .returned (.int .i64 (V : Int)) ∧ Below W.heap.size W w' := fun W A c h h2 => by
    rw [hN] at h h2 ⊢
    have := shownS_calls (Nat.le_refl _) (by omega) h h2
    rw [List.take_length, ← hV] at this
    exact this
  have C6 : ∀ W b (q : Nat) (h : q < cs.length), RopeHas W b cs → Calls Tryd.prog 34 #[.pointer (some ⟨b, 0, none⟩), .int .i64 (q : Int)] W fun e w' => e = .returned (.tuple #[.agg #[.int .i32 cs[q].1, .int .i64 cs[q].2], .int .i64 0]) ∧ Below W.heap.size W w' := fun W b q hq h => rope_cell h (by omega) hq
  have C7 : ∀ W b (q : Nat), q ≤ cs.length → RopeHas W b cs → Calls Tryd.prog 22 #[.pointer (some ⟨b, 0, none⟩), .int .i64 (q : Int)] W fun e w' => e = .returned (.tuple #[.int .i64 (vis (cs.take q) : Int), .int .i64 0]) ∧ Below W.heap.size W w' := fun W b q hq h => rope_before h (by omega) hq
  have C8 : ∀ W b, RopeHas W b cs → Calls Tryd.prog 34 #[.pointer (some ⟨b, 0, none⟩), .int .i64 (N : Int)] W fun e w' => e = .returned (.tuple #[.agg #[.int .i32 0, .int .i64 0], .int .i64 12]) ∧ Below W.heap.size W w' := fun W b h => rope_cell_no h (Nat.le_of_eq hN.symm)
  have C9 : ∀ W b, RopeHas W b cs → Calls Tryd.prog 21 #[.pointer (some ⟨b, 0, none⟩), .int .i64 (V : Int)] W fun e w' => e = .returned (.tuple #[.int .i64 (N : Int), .int .i64 0]) ∧ Below W.heap.size W w' := fun W b h => by
    have := rope_totalOf h (by omega) (p := V) (by omega)
    rw [hV, nth0_end, ← hN, ← hV] at this
    exact this
  have C10 : ∀ W b, RopeHas W b cs → Calls Tryd.prog 21 #[.pointer (some ⟨b, 0, none⟩), .int .i64 ((V : Int) + 1)] W fun e w' => e = .returned (.tuple #[.int .i64 0, .int .i64 12]) ∧ Below W.heap.size W w' := fun W b h => rope_totalOf_no h (by omega)
  have C11 : ∀ W b (q : Nat) (h : q < cs.length), cs[q].2 = 0 → RopeHas W b cs → Calls Tryd.prog 21 #[.pointer (some ⟨b, 0, none⟩), .int .i64 (vis (cs.take q) : Int)] W fun e w' => e = .returned (.tuple #[.int .i64 (q : Int), .int .i64 0]) ∧ Below W.heap.size W w' := fun W b q hq h0 h => by
    have := rope_totalOf h (by omega) (p := vis (cs.take q)) (vis_take_le cs q)
    rw [nth0_here hq h0] at this
    exact this
  replace C1 := Lib.hid C1
  replace C2 := Lib.hid C2
  replace C3 := Lib.hid C3
  replace C4 := Lib.hid C4
  replace C5 := Lib.hid C5
  replace C6 := Lib.hid C6
  replace C7 := Lib.hid C7
  replace C8 := Lib.hid C8
  replace C9 := Lib.hid C9
  replace C10 := Lib.hid C10
  replace C11 := Lib.hid C11
  obtain ⟨st, hst⟩ : ∃ st, st = txt (visR cs) := ⟨_, rfl⟩
  rw [← hst] at C3 C4
  have HN := Lib.hid hN
  have HV := Lib.hid hV
  rw [← hN]
  clear hst hN hV hrn hl
  go_enter Tryd.func40, Tryd.ntmps40
  go_wp2_with (first
    | (go_at_call 19; refine (C1.out W b S.rope).mono ?_; rintro e w1 ⟨rfl, hb1⟩; have S1 := S.step hb1)
    | (go_at_call 20; refine (C2.out w1 b S1.rope).mono ?_; rintro e w2 ⟨rfl, hb2⟩; have S2 := S1.step hb2)
    | (go_at_call 17; refine (C5.out w2 A c (by rw [HN.out]; exact S2.row.rd) (by rw [HN.out]; exact S2.row.cap)).mono ?_; rintro e w3 ⟨rfl, hb3⟩; have S3 := S2.step hb3)
    | (go_at_call 30; refine (C3.out w3 b S3.rope).mono ?_; rintro e w4 ⟨rfl, hb4⟩; have S4 := S3.step hb4)
    | (go_at_call 32; refine (C4.out w4 A c (by rw [HN.out]; exact S4.row.rd)).mono ?_; rintro e w5 ⟨rfl, hb5⟩; have S5 := S4.step hb5))
  have hB5 : Below W.heap.size W w5 := hb1.trans ((hb2.trans ((hb3.trans ((hb4.trans (hb5.mono hb4.size)).mono hb3.size)).mono hb2.size)).mono hb1.size)
  clear S S1 S2 S3 S4 hb1 hb2 hb3 hb4 hb5 C1 C2 C3 C4 C5
  go_loopw [5, 6] (fun v5 v6 wr => ∃ q : Nat, q ≤ N ∧ v6 = .int .i64 (q : Int) ∧ v5 = .int .i64 (vis (cs.take q) : Int) ∧ Stand w wr b A c cs cs ∧ Below W.heap.size W wr) (fun _ v6 _ => N - (intOf v6).toNat)
  case atStart => exact ⟨0, Nat.zero_le _, rfl, rfl, S5, hB5⟩
  case round =>
    clear S5 hB5
    obtain ⟨q, hq, rfl, rfl, Sr, hBr⟩ := hrel
    have qb : (q : Int) ≤ 20000 := by omega
    by_cases hlt : q < N
    · have hlt' : q < cs.length := by rw [← HN.out]; exact hlt
      obtain ⟨ad, hAd, x0, x1⟩ := row_cell Sr.row.rd hlt'
      have hsn := vis_snoc hlt'
      have hvl := vis_take_le cs q
      have D6 := fun (W : World) (h : RopeHas W b cs) => C6.out W b q hlt' h
      have D7 := fun (W : World) (h : RopeHas W b cs) => C7.out W b q (Nat.le_of_lt hlt') h
      have D11 := fun (h0 : cs[q].2 = 0) (W : World) (h : RopeHas W b cs) => C11.out W b q hlt' h0 h
      obtain ⟨v, hv⟩ : ∃ v, v = vis (cs.take q) := ⟨_, rfl⟩
      rw [← hv] at hsn hvl D7 D11 ⊢
      have vb : (v : Int) ≤ 20000 := by have := HV.out; omega
      have hcell : ∀ W', Below wr.heap.size wr W' → W'.cell? (ad.add (q * 2)) = some (.int .i32 cs[q].1) ∧ W'.cell? ⟨(ad.add (q * 2)).block, (ad.add (q * 2)).off + 1, none⟩ = some (.int .i64 cs[q].2) := fun W' h => ⟨pw_cell_below h x0, pw_cell_below h x1⟩
      obtain ⟨⟨r, h⟩, hrh⟩ : ∃ x, cs[q] = x := ⟨_, rfl⟩
      rw [hrh] at x0 x1 hsn D6 D11 hcell
      dsimp only at x0 x1 hsn D6 D11 hcell
      have HCE := Lib.hid hcell
      have HSN := Lib.hid hsn
      have HVV := Lib.hid hv
      have D6 := Lib.hid D6
      have D7 := Lib.hid D7
      have D11 := Lib.hid D11
      have c0 := x0
      have c1 := x1
      clear hcell hsn hvl hv hrh hlt' hq
      subst hAd
      go_wp2_with (first
        | (go_at_call 34; refine (D6.out wr Sr.rope).mono ?_; rintro e w2 ⟨rfl, hb2⟩; have S2 := Sr.step hb2; have S3 := S2.step (below_alloc (Below.refl _ w2) (.cells #[.int .i32 r, .int .i64 h] 36)); have hba := below_alloc (Below.refl w2.heap.size w2) (.cells #[.int .i32 r, .int .i64 h] 36); have hbx : (w2.alloc (.cells #[.int .i32 r, .int .i64 h] 36)).heap[w2.heap.size]? = some (Obj.cells #[.int .i32 r, .int .i64 h] 36 (0, 0)) := heap_new _ _)
        | (go_at_call 22; refine (D7.out _ S3.rope).mono ?_; rintro e w4 ⟨rfl, hb4⟩; have S4 := S3.step hb4))
      have hb24 : Below w2.heap.size w2 w4 := hba.trans (hb4.mono hba.size)
      have hbw : Below wr.heap.size wr w4 := hb2.trans (hb24.mono hb2.size)
      obtain ⟨z0, z1⟩ := cells2k ((hb4.block _ (new_lt hbx)).trans hbx)
      obtain ⟨y0, y1⟩ := HCE.out w4 hbw
      have t1 : (q : Int) < (N : Int) := by omega
      clear x0 x1 c0 c1 hbx hba hb2 hb4 S2 S3 Sr hb24
      have p0 : (0 ≤ (q : Int)) = True := eq_true (by omega)
      have p1 : ((q : Int) < (N : Int)) = True := eq_true t1
      by_cases h0 : h = 0
      · have D := D11.out h0
        have DD := Lib.hid D
        rw [if_pos h0] at HSN
        subst h0
        clear D
        go_quiet (fail)
        have S5 := S4.step (pw_below_drewN (Below.refl _ w4) nq)
        have hbw5 := pw_below_drewN hbw nq
        clear z0 z1
        have y0 : (w4.drewN nq).cell? _ = _ := y0
        have y1 : (w4.drewN nq).cell? _ = _ := y1
        have dq : (q == q) = true := beq_self_eq_true q
        go_wp2_with (go_at_call 21; refine (DD.out _ S5.rope).mono ?_; rintro e w6 ⟨rfl, hb6⟩; have S6 := S5.step hb6)
        go_roundw
        case rel => exact ⟨q + 1, hlt, by go_num, by rw [HSN.out]; go_num, S6, hBr.trans ((hbw5.trans (hb6.mono hbw5.size)).mono hBr.size)⟩
        case measure => simp [intOf]; omega
      · have d0 : (h == 0) = false := beq_eq_false_iff_ne.mpr h0
        rw [if_neg h0, Nat.add_zero] at HSN
        clear h0
        go_quiet (fail)
        have S5 := S4.step (pw_below_drewN (Below.refl _ w4) nq)
        have hbw5 := pw_below_drewN hbw nq
        clear z0 z1
        have y0 : (w4.drewN nq).cell? _ = _ := y0
        have y1 : (w4.drewN nq).cell? _ = _ := y1
        go_wp2
        go_roundw
        case rel => exact ⟨q + 1, hlt, by go_num, by rw [HSN.out, Nat.add_zero], S5, hBr.trans (hbw5.mono hBr.size)⟩
        case measure => simp [intOf]; omega
    · obtain rfl : q = N := by omega
      have hvv : vis (cs.take q) = V := by rw [HV.out, show q = cs.length from HN.out, List.take_length]
      have HVV := Lib.hid hvv
      rw [hvv]
      have vb : (V : Int) ≤ 20000 := by omega
      have d1 : decide (q < q) = false := decide_eq_false (Nat.lt_irrefl _)
      clear hvv hlt hq
      go_wp2_with (first
        | (go_at_call 21; refine (C9.out wr b Sr.rope).mono ?_; clear C9; rintro e w2 ⟨rfl, hb2⟩; have S2 := Sr.step hb2)
        | (go_at_call 21; refine (C10.out w2 b S2.rope).mono ?_; clear C10; rintro e w3 ⟨rfl, hb3⟩; have S3 := S2.step hb3)
        | (go_at_call 34; refine (C8.out w3 b S3.rope).mono ?_; clear C8; rintro e w4 ⟨rfl, hb4⟩))
      go_ret
      refine ⟨rfl, ?_⟩
      have hb24 := hb2.trans ((hb3.trans (hb4.mono hb3.size)).mono hb2.size)
      exact below_alloc (hBr.trans (hb24.mono hBr.size)) _
end Go.Proofs.YteeigokkafcaaaaDoorRope
end
section
namespace Go.Proofs.YteeigokkafcaaaaDoorRope
open Go.RowKit Go.Proofs.YteeigokkafcaaaaDoorW.PrintWords Go.Proofs.YteeigokkafcaaaaDoorW.PrintMore Go.Proofs.YteeigokkafcaaaaDoor.Pr
set_option linter.unusedSimpArgs false
set_option linter.unusedVariables false
theorem runsG_hid : ∀ (ps : List (Int × Int)) (i : Nat) (prev : Option Int), ∀ x ∈ runsG i prev ps, 0 ≤ x.2 ∧ x.2 ≤ 2
  | [], _, _, x, hx => by cases hx
  | p :: ps, i, prev, x, hx => by
    rcases List.mem_cons.1 hx with rfl | hx
    · have := hidOf_rng prev p.2
      exact ⟨this.1, by have := this.2; show hidOf prev p.2 ≤ _; omega⟩
    · exact runsG_hid ps _ _ x hx
theorem rcells_ok (ps : List (Int × Int)) : RowOk 2 (rcells (runsL ps)) := by
  refine ⟨rcells_rn ps, fun c hc => ?_⟩
  unfold rcells at hc
  obtain ⟨x, hx, hc⟩ := List.mem_flatMap.1 hc
  obtain ⟨r, hr, rfl⟩ := List.mem_map.1 hc
  exact runsG_hid _ _ _ x hx
end Go.Proofs.YteeigokkafcaaaaDoorRope
end
section
namespace Go.Proofs.YteeigokkafcaaaaDoorRope
open Go.RowKit Go.Proofs.YteeigokkafcaaaaDoorW.PrintWords Go.Proofs.YteeigokkafcaaaaDoorW.PrintMore Go.Proofs.YteeigokkafcaaaaDoor.Pr
set_option linter.unusedSimpArgs false
set_option linter.unusedVariables false
theorem Few.len {L : List (List Int × Int)} (h : Few L) : L.length ≤ (rcells L).length := by
  have h1 : ∀ (l : List (List Int × Int)), (∀ x ∈ l, x.1 ≠ []) → l.length ≤ (rcells l).length := by
    intro l
    induction l with
    | nil => intro _; simp
    | cons x t ih =>
      intro hx
      have := ih (fun y hy => hx y (List.mem_cons_of_mem _ hy))
      have h0 := List.length_pos_iff.2 (hx x (by simp))
      rw [rcells_cons, List.length_append, List.length_map, List.length_cons]
      omega
  exact h1 _ h.one
theorem RowOk.up {H H' : Int} {cs : List (Int × Int)} (h : RowOk H cs) (hh : H ≤ H') : RowOk H' cs := ⟨h.rn, fun c hc => by have := h.h c hc; omega⟩
section
variable {w W W' : World} {r c d : Nat} {A1 A2 A3 A' : Option Addr} {c1 c2 c3 c' : Nat} {m h m' s' : List (Int × Int)}
end
end Go.Proofs.YteeigokkafcaaaaDoorRope
end
section
namespace Go.Proofs.YteeigokkafcaaaaDoorRope
open Go.RowKit Go.Proofs.YteeigokkafcaaaaDoorW.PrintWords Go.Proofs.YteeigokkafcaaaaDoorW.PrintMore Go.Proofs.YteeigokkafcaaaaDoor.Pr
open Go.Proofs.YteeigokkafcaaaaDoor.SpanMath (throughS)
open Go.Proofs.YteeigokkafcaaaaDoor
set_option linter.unusedSimpArgs false
set_option linter.unusedVariables false
structure Duo (w W : World) (r s : Nat) (A : Option Addr) (c : Nat) (rw cr cs : List (Int × Int)) : Prop where
  bel : Below w.heap.size w W
  bars : BarsAt W
  row : Row (fun k => k = r ∨ k = s) W A c rw
  ro1 : RopeHas W r cr
  ro2 : RopeHas W s cs
  lr : w.heap.size ≤ r
  ls : w.heap.size ≤ s
  nr : r ≠ 0
  ns : s ≠ 0
  ne : r ≠ s
section
variable {w W W' : World} {r s : Nat} {A A' : Option Addr} {c c' : Nat} {rw cr cs rw' cr' : List (Int × Int)}
theorem Duo.step (D : Duo w W r s A c rw cr cs) (hb : Below W.heap.size W W') : Duo w W' r s A c rw cr cs :=
  ⟨D.bel.trans (hb.mono D.bel.size), D.bars.below hb, D.row.below hb, D.ro1.below hb, D.ro2.below hb, D.lr, D.ls, D.nr, D.ns, D.ne⟩
theorem Duo.put1 (D : Duo w W r s A c rw cr cs) (hg : W.grownBy W' (some r)) (hr : RopeHas W' r cr') : Duo w W' r s A c rw cr' cs :=
  ⟨below_grown D.bel hg D.lr D.bel.size, D.bars.grown hg D.nr, D.row.grown hg (.inl rfl), hr, D.ro2.beside D.ro1.box (fun e => D.ne e.symm) hg, D.lr, D.ls, D.nr, D.ns, D.ne⟩
theorem Duo.put2 (D : Duo w W r s A c rw cr cs) (hg : W.grownBy W' (some s)) (hr : RopeHas W' s cr') : Duo w W' r s A c rw cr cr' :=
  ⟨below_grown D.bel hg D.ls D.bel.size, D.bars.grown hg D.ns, D.row.grown hg (.inr rfl), D.ro1.beside D.ro2.box D.ne hg, hr, D.lr, D.ls, D.nr, D.ns, D.ne⟩
theorem Duo.row' (D : Duo w W r s A c rw cr cs) (hb : Below W.heap.size W W') {ok : Nat → Prop} (hr : Kd.R k36 36 W' W.heap.size ok (.slice A' rw'.length c') (sCells rw')) : Duo w W' r s A' c' rw' cr cs := by
  have h' := D.step hb
  refine ⟨h'.bel, h'.bars, ⟨W.heap.size, Kd.R_mono (Kd.R_bound hr) (fun k hk e => ?_)⟩, h'.ro1, h'.ro2, h'.lr, h'.ls, h'.nr, h'.ns, h'.ne⟩
  have h1 := D.ro1.lt
  have h2 := D.ro2.lt
  have := hk.2.1
  rcases e with e | e <;> omega
theorem Duo.stand (D : Duo w W r s A c cr cr cs) : Stand w W r A c cr cr := ⟨D.bel, D.bars, D.row.less (fun k hk => .inl hk), D.ro1, D.lr, D.nr⟩
end
theorem bumpOk_up {H : Int} {cs : List (Int × Int)} (h : RowOk H cs) (hH : H ≤ 1000) (l : List (Nat × Nat)) : BumpOk cs l 1 := by
  intro r hr c hc
  have := h.h c (List.mem_of_mem_take (List.mem_of_mem_drop hc))
  omega
end Go.Proofs.YteeigokkafcaaaaDoorRope
end
section
namespace Go.Proofs.YteeigokkafcaaaaDoorRope
open Go.RowKit Go.Proofs.YteeigokkafcaaaaDoorW.PrintWords Go.Proofs.YteeigokkafcaaaaDoorW.PrintMore Go.Proofs.YteeigokkafcaaaaDoor.Pr
open Go.Proofs.YteeigokkafcaaaaDoor.SpanMath (throughS)
open Go.Proofs.YteeigokkafcaaaaDoor
set_option linter.unusedSimpArgs false
set_option linter.unusedVariables false
set_option maxRecDepth 100000 in
set_option maxHeartbeats 64000000 in
theorem through_calls {ps : List (Int × Int)} {x : List S133} {w : World} {A B : Option Addr} {c bc : Nat} (at0 n0 : Int) (hA : Kd.C k97 w A ps.length ps) (hc : ps.length ≤ c) (hm : ps.length ≤ 140737488355328) (hX : Kd.C k133 w B x.length x) (hxc : x.length ≤ bc) (hw : BarsAt w) :
    Calls Tryd.prog 14 #[.slice A ps.length c, .slice B x.length bc, .int .i64 at0, .int .i64 n0] w fun e w' => e = .returned (.bool true) ∧ Below w.heap.size w w' := by
  have hok := rcells_ok ps
  have hcl := runsL_cells ps
  have hruns := fun (W : World) (h : Kd.C k97 W A ps.length ps) => runs_c h hc hm
  have hrow := fun (W : World) (A : Option Addr) (c : Nat) (h : Kd.C k58 W A (runsL ps).length (sRuns (runsL ps))) => row_c (c := c) h
  have hfrom := fun (W : World) (A : Option Addr) (c : Nat) (hw : BarsAt W) (h : Kd.C k58 W A (runsL ps).length (sRuns (runsL ps))) (hc : (runsL ps).length ≤ c) => from_c hw h hc
  obtain ⟨cs, hcs⟩ : ∃ cs, cs = rcells (runsL ps) := ⟨_, rfl⟩
  rw [← hcs] at hok hcl hrow hfrom
  obtain ⟨lr, hl⟩ : ∃ l, l = runsL ps := ⟨_, rfl⟩
  rw [← hl] at hruns hrow hfrom
  obtain ⟨N, hN⟩ : ∃ N, N = cs.length := ⟨_, rfl⟩
  have hNb : N ≤ 1048576 := by omega
  have bN : (N : Int) ≤ 1152 := by omega
  have m1 := Int.emod_nonneg at0 (show ((N : Int) + 1) ≠ 0 by omega)
  have m2 := Int.emod_lt_of_pos at0 (show (0 : Int) < (N : Int) + 1 by omega)
  obtain ⟨k, hk⟩ : ∃ k : Nat, at0 % ((N : Int) + 1) = (k : Int) := ⟨(at0 % ((N : Int) + 1)).toNat, by omega⟩
  have m3 := Int.emod_nonneg n0 (show (48 : Int) ≠ 0 by decide)
  have m4 := Int.emod_lt_of_pos n0 (show (0 : Int) < 48 by decide)
  obtain ⟨q, hq⟩ : ∃ q : Nat, n0 % 48 = (q : Int) := ⟨(n0 % 48).toNat, by omega⟩
  have hkN : k ≤ N := by omega
  have hq48 : q < 48 := by omega
  clear m1 m2 m3 m4
  obtain ⟨s, hs⟩ : ∃ s, s = wordsL (q + 1) n0 := ⟨_, rfl⟩
  have hsl : s.length = q + 1 := by rw [hs, wordsL_len]
  have hsL : Lets s := by rw [hs]; exact wordsL_lets _ _
  obtain ⟨kx, rx, hkx, px⟩ := parts_is x hNb
  obtain ⟨ma, ia, na⟩ := make_in hNb px
  obtain ⟨la, hla⟩ : ∃ l, l = SpanFns.ofParts rx := ⟨_, rfl⟩
  rw [← hla] at ma ia na
  obtain ⟨mt, it⟩ := through_in (k := k) (m := q + 1) (by omega) ia na hkN
  have hcn := through_cnt (k := k) (m := q + 1) ia it
  obtain ⟨lt, hlt⟩ : ∃ l, l = throughS (k : Int) ((q + 1 : Nat) : Int) la := ⟨_, rfl⟩
  rw [← hlt] at mt it hcn
  rw [hN] at ia it hkN
  have Na := ia.norm
  have Nt := it.norm
  have bd : ∀ {l : List (Nat × Nat)} {n : Nat}, Norm l n → ∀ r ∈ l, r.1 ≤ r.2 ∧ r.2 ≤ n := fun h r hr => ⟨Nat.le_of_lt (h.one r hr).1, (h.one r hr).2⟩
  obtain ⟨c1, hc1⟩ : ∃ x, x = bumpC cs (toN la) 1 := ⟨_, rfl⟩
  obtain ⟨c2, hc2⟩ : ∃ x, x = insC c1 k s 0 := ⟨_, rfl⟩
  obtain ⟨d1, hd1⟩ : ∃ x, x = insC cs k s 0 := ⟨_, rfl⟩
  have l1 : c1.length = cs.length := by rw [hc1, bumpC_len2 (bd Na)]
  have l2 : c2.length = cs.length + (q + 1) := by rw [hc2, insC_len, l1, hsl]
  have l3 : d1.length = cs.length + (q + 1) := by rw [hd1, insC_len, hsl]
  have e2 : bumpC d1 (toN lt) 1 = c2 := by
    rw [hc2, hc1, hd1]
    exact bump_ins hkN (bd Na) (by rw [hsl]; exact bd Nt) (by rw [hsl]; exact hcn)
  have k1 : RowOk 3 c1 := by rw [hc1]; exact (hok.bump Na (bumpOk_up hok (by decide) _) (by decide)).up (by decide)
  have k2 : RowOk 4 c2 := by rw [hc2]; exact (k1.ins hsL.rns ⟨by decide, by decide⟩).up (by decide)
  have k3 : RowOk 3 d1 := by rw [hd1]; exact (hok.ins hsL.rns ⟨by decide, by decide⟩).up (by decide)
  have hsne : s ≠ [] := fun e => by rw [e] at hsl; simp at hsl
  have F1 : ∀ W b A c, RopeHas W b cs → Kd.C k133 W A (toN la).length (sRng (toN la)) ∧ (toN la).length ≤ c → Calls Tryd.prog 39 #[.pointer (some ⟨b, 0, none⟩), .slice A (toN la).length c, .int .i64 1] W fun e w' => e = .returned (.int .i64 0) ∧ RopeHas w' b c1 ∧ W.grownBy w' (some b) := fun W b A c h hA => by rw [hc1]; exact rope_bump h (.inl rfl) Na (bumpOk_up hok (by decide) _) (by omega) hA.1 hA.2
  have F2 : ∀ W b, RopeHas W b c1 → BarsAt W → Calls Tryd.prog 33 #[.pointer (some ⟨b, 0, none⟩), .int .i64 (k : Int), .string (txt s), .int .i64 0] W fun e w' => e = .returned (.int .i64 0) ∧ RopeHas w' b c2 ∧ W.grownBy w' (some b) := fun W b h hw => by rw [hc2]; exact rope_insert h hw (by omega) hsL hsne (by decide) (by omega)
  have F3 : ∀ W b, RopeHas W b cs → BarsAt W → Calls Tryd.prog 33 #[.pointer (some ⟨b, 0, none⟩), .int .i64 (k : Int), .string (txt s), .int .i64 0] W fun e w' => e = .returned (.int .i64 0) ∧ RopeHas w' b d1 ∧ W.grownBy w' (some b) := fun W b h hw => by rw [hd1]; exact rope_insert h hw hkN hsL hsne (by decide) (by omega)
  have F4 : ∀ W b A c, RopeHas W b d1 → Kd.C k133 W A (toN lt).length (sRng (toN lt)) ∧ (toN lt).length ≤ c → Calls Tryd.prog 39 #[.pointer (some ⟨b, 0, none⟩), .slice A (toN lt).length c, .int .i64 1] W fun e w' => e = .returned (.int .i64 0) ∧ RopeHas w' b c2 ∧ W.grownBy w' (some b) := fun W b A c h hA => by rw [← e2]; exact rope_bump h (.inl rfl) (by rw [l3]; exact Nt) (bumpOk_up k3 (by decide) _) (by omega) hA.1 hA.2
  have G1 : ∀ W A c B d, Kd.C k36 W A cs.length (sCells cs) → cs.length ≤ c → Kd.C k133 W B (toN la).length (sRng (toN la)) ∧ (toN la).length ≤ d → Calls Tryd.prog 50 #[.slice A cs.length c, .slice B (toN la).length d, .int .i64 1] W fun e w' => ∃ A' c', e = .returned (.slice A' c1.length c') ∧ Kd.R k36 36 w' W.heap.size (fun _ => True) (.slice A' c1.length c') (sCells c1) ∧ Below W.heap.size W w' := fun W A c B d h h2 h3 => by rw [hc1]; exact bumped_c Na (by omega) (bumpOk_up hok (by decide) _) h h2 h3.1 h3.2
  have G2 : ∀ W A c, Kd.C k36 W A c1.length (sCells c1) → c1.length ≤ c → Calls Tryd.prog 52 #[.slice A c1.length c, .int .i64 (k : Int), .string (txt s), .int .i64 0] W fun e w' => ∃ A' c', e = .returned (.slice A' c2.length c') ∧ Kd.R k36 36 w' W.heap.size (fun b => W.heap.size ≤ b) (.slice A' c2.length c') (sCells c2) ∧ Below W.heap.size W w' := fun W A c h h2 => by rw [hc2]; exact put_calls (by omega) (by omega) hsL h h2
  have R1 : ∀ W, Calls Tryd.prog 28 #[.int .i64 at0, .int .i64 ((cs.length : Int) + 1)] W fun e w' => e = .returned (.int .i64 (k : Int)) ∧ Below W.heap.size W w' := fun W => by rw [← hN, ← hk]; exact rest_b (by omega) (by omega) W
  have R2 : ∀ W, Calls Tryd.prog 28 #[.int .i64 n0, .int .i64 48] W fun e w' => e = .returned (.int .i64 (q : Int)) ∧ Below W.heap.size W w' := fun W => by rw [← hq]; exact rest_b (by omega) (by omega) W
  have R4 : ∀ W, Calls Tryd.prog 29 #[.int .i64 (1 + (q : Int)), .int .i64 n0] W fun e w' => e = .returned (.string (txt s)) ∧ Below W.heap.size W w' := fun W => by
    rw [hs, show 1 + (q : Int) = ((q + 1 : Nat) : Int) by omega]
    exact (words_calls (q + 1) n0 (by omega) W).mono fun e w' ⟨he, hd⟩ => ⟨he, hd.below⟩
  have T1 : ∀ W A c, (∃ base ok, Kd.R k133 133 W base ok (.slice A la.length c) la) → Calls Tryd.prog 51 #[.slice A la.length c, .int .i64 (k : Int), .int .i64 (1 + (q : Int))] W fun e w' => ∃ A' c', e = .returned (.tuple #[.slice A' lt.length c', .int .i64 0]) ∧ Kd.R k133 133 w' W.heap.size (fun _ => True) (.slice A' lt.length c') lt ∧ Below W.heap.size W w' := fun W A c h => by
    obtain ⟨base, ok, h⟩ := h
    rw [show 1 + (q : Int) = ((q + 1 : Nat) : Int) by omega]
    exact through_c mt h
  rw [toN_len] at F1 F4 G1
  rw [hN] at hkx
  have HP1 := Lib.hid (fun (W : World) (A : Option Addr) (c : Nat) (hA : Kd.C k133 W A x.length x) (hc : x.length ≤ c) => parts_c ⟨kx, hkx⟩ hA hc)
  have HM1 := Lib.hid (fun (W : World) (A : Option Addr) (c : Nat) (hA : Kd.C k133 W A rx.length rx) (hc : rx.length ≤ c) => make_c ma hA hc)
  have IA := Lib.hid ia
  have IT := Lib.hid it
  obtain ⟨st, hst⟩ : ∃ st, st = txt s := ⟨_, rfl⟩
  rw [← hst] at F2 F3 G2 R4
  replace F1 := Lib.hid F1
  replace F2 := Lib.hid F2
  replace F3 := Lib.hid F3
  replace F4 := Lib.hid F4
  replace G1 := Lib.hid G1
  replace G2 := Lib.hid G2
  replace R1 := Lib.hid R1
  replace R2 := Lib.hid R2
  replace R4 := Lib.hid R4
  replace T1 := Lib.hid T1
  have HR := Lib.hid hruns
  have HW := Lib.hid hrow
  have HF := Lib.hid hfrom
  have HF' := Lib.hid hfrom
  have HK2 := Lib.hid k2
  have HL2 : Hid (c2.length ≤ 1200) := Lib.hid (by omega)
  have bC : (cs.length : Int) ≤ 1152 := by omega
  have bq : (q : Int) < 48 := by omega
  have R2a := R2
  have R2b := R2
  clear R2 hruns hrow hfrom hl hcs hc hm hok hcl hN hNb bN hk hq hkN hq48 hs hsl hsL hkx px ma ia na hla mt it hcn hlt Na Nt bd hc1 hc2 hd1 e2 l1 l2 l3 k1 k2 k3 hsne hst
  go_enter Tryd.func14, Tryd.ntmps14
  go_wp2_with (first
    | (go_at_call 15; refine (HR.out w hA).mono ?_; rintro e w1 ⟨A1, c_1, rfl, hC1, hc1, hb1⟩; have hX1 := Kd.C_below hX hb1; clear hX hA HR)
    | (go_at_call 16; refine (HW.out w1 A1 c_1 hC1).mono ?_; clear HW; rintro e w2 ⟨A2, c_2, rfl, hR2, hb2⟩; have hX2 := Kd.C_below hX1 hb2; clear hX1)
    | (go_at_call 28; refine (R1.out w2).mono ?_; clear R1; rintro e w3 ⟨rfl, hb3⟩; have hX3 := Kd.C_below hX2 hb3; clear hX2)
    | (go_at_call 28; refine (R2a.out w3).mono ?_; clear R2a; rintro e w4 ⟨rfl, hb4⟩; have hX4 := Kd.C_below hX3 hb4; clear hX3)
    | (go_at_call 29; refine (R4.out w4).mono ?_; clear R4; rintro e w5 ⟨rfl, hb5⟩; have hX5 := Kd.C_below hX4 hb5; clear hX4)
    | (go_at_call 47; refine (HP1.out w5 B bc hX5 hxc).mono ?_; clear HP1; rintro e w6 ⟨A6, c_6, rfl, hC6, hc6, hb6⟩; clear hX5)
    | (go_at_call 46; refine (HM1.out w6 A6 c_6 hC6 hc6).mono ?_; clear HM1; rintro e w7 ⟨Aa, ca, rfl, hRa, hb7⟩; clear hC6)
    | (go_at_call 28; refine (R2b.out w7).mono ?_; clear R2b; rintro e w7b ⟨rfl, hb7b⟩; have hRb := Kd.R_below hRa hb7b; clear hRa)
    | (go_at_call 51; refine (T1.out w7b Aa ca ⟨_, _, hRb⟩).mono ?_; clear T1; rintro e w8 ⟨At, ct, rfl, hRt, hb8⟩; have LA := IA.out.rd (Kd.R_below hRb hb8); have LT := IT.out.rd hRt; have hb28 := hb3.trans ((hb4.trans ((hb5.trans ((hb6.trans ((hb7.trans ((hb7b.trans (hb8.mono hb7b.size)).mono hb7.size)).mono hb6.size)).mono hb5.size)).mono hb4.size)).mono hb3.size); have hB8 := hb1.trans ((hb2.trans (hb28.mono hb2.size)).mono hb1.size); have hC8 := Kd.C_below hC1 (hb2.trans (hb28.mono hb2.size)); have hw8 := hw.below hB8; have hR8 := hR2.below hb28; have hz8 := hb28.size; clear hRb hRt hb2 hb3 hb4 hb5 hb6 hb7 hb7b hb8 hR2 hC1 hb28)
    | (go_at_call 18; refine (HF.out w8 A1 c_1 hw8 hC8 hc1).mono ?_; clear HF; rintro e w9 ⟨b1, rfl, hl1, hn1, hro1, hb9⟩; have hC9 := Kd.C_below hC8 hb9; have hw9 := hw8.below hb9; clear hC8)
    | (go_at_call 18; refine (HF'.out w9 A1 c_1 hw9 hC9 hc1).mono ?_; clear HF'; rintro e w10 ⟨b2, rfl, hl2, hn2, hro2, hb10⟩; have D10 : Duo w8 w10 b1 b2 A2 c_2 cs cs cs := ⟨hb9.trans (hb10.mono hb9.size), hw9.below hb10, ((hR8.below hb9).below hb10).less (fun k hk => by have := hb9.size; rcases hk with rfl | rfl <;> omega), hro1.below hb10, hro2, hl1, Nat.le_trans hb9.size hl2, hn1, hn2, fun e => by have := hro1.lt; omega⟩; clear hro1 hro2 hR8 hC9 hb9 hb10 hw8 hw9)
    | (go_at_call 50; refine (G1.out w10 A2 c_2 Aa ca D10.row.rd D10.row.cap ⟨Kd.C_below LA.1 D10.bel, LA.2⟩).mono ?_; clear G1; rintro e w11 ⟨A11, c_11, rfl, hR11, hb11⟩; have D11 := D10.row' hb11 hR11; clear D10 hR11)
    | (go_at_call 52; refine (G2.out w11 A11 c_11 D11.row.rd D11.row.cap).mono ?_; clear G2; rintro e w12 ⟨A12, c_12, rfl, hR12, hb12⟩; have D12 := D11.row' hb12 hR12; clear D11 hR12)
    | (go_at_call 39; refine (F1.out w12 b1 Aa ca D12.ro1 ⟨Kd.C_below LA.1 D12.bel, LA.2⟩).mono ?_; clear F1; rintro e w13 ⟨rfl, hro, hg⟩; have D13 := D12.put1 hg hro; clear D12 hro hg)
    | (go_at_call 33; refine (F2.out w13 b1 D13.ro1 D13.bars).mono ?_; clear F2; rintro e w14 ⟨rfl, hro, hg⟩; have D14 := D13.put1 hg hro; clear D13 hro hg)
    | (go_at_call 33; refine (F3.out w14 b2 D14.ro2 D14.bars).mono ?_; clear F3; rintro e w15 ⟨rfl, hro, hg⟩; have D15 := D14.put2 hg hro; clear D14 hro hg)
    | (go_at_call 39; refine (F4.out w15 b2 At ct D15.ro2 ⟨Kd.C_below LT.1 D15.bel, LT.2⟩).mono ?_; clear F4; rintro e w16 ⟨rfl, hro, hg⟩; have D16 := D15.put2 hg hro; clear D15 hro hg)
    | (go_at_call 40; refine (is_calls D16.stand HK2.out.rn (by have := HL2.out; omega)).mono ?_; rintro e w17 ⟨rfl, hb17⟩; have D17 := D16.step hb17; clear D16)
    | (go_at_call 23; refine (rope_runs D17.ro1 (by have := HL2.out; omega) HK2.out.rn).mono ?_; rintro e w18 ⟨A8, c8, L, rfl, hR8, hfew, hrc, hb18⟩; have D18 := D17.step hb18; clear D17; have h8 := (Kd.R_reads' hR8).2; rw [sRuns_len] at h8; obtain ⟨h8c, h8C⟩ := h8; have hLl := hfew.len; rw [hrc] at hLl; have HLL := Lib.hid hLl; have HFEW := Lib.hid hfew; have HRC := Lib.hid hrc; clear hLl hfew hrc hR8)
    | (go_at_call 23; refine (rope_runs_is D18.ro2 (by have := HL2.out; omega) HK2.out.rn HFEW.out HRC.out).mono ?_; rintro e w19 ⟨A9, c9, rfl, h9C, h9c, hb19⟩; have D19 := D18.step hb19; have h8D := Kd.C_below h8C hb19; clear D18)
    | (go_at_call 35; refine (eqRuns_c (by have := HLL.out; have := HL2.out; omega) h8D h8c h9C h9c).mono ?_; rintro e w20 ⟨rfl, hb20⟩; have D20 := D19.step hb20; clear D19))
  go_ret
  exact ⟨rfl, hB8.trans (D20.bel.mono hB8.size)⟩
end Go.Proofs.YteeigokkafcaaaaDoorRope
end
