/- SpanBackAgain, for every input: the law answers true and its argument reads as before; no condition. -/
import Derived.Test.YtmidiifgdloojaaClaimBackAgain2
section
namespace Go.Proofs.Ytmidiifgdloojaa.Pr
open Go.RowKit Go.Proofs.YtmidiifgdloojaaW.PrintWords Go.Proofs.YtmidiifgdloojaaW.PrintLast Go.Proofs.YtmidiifgdloojaaW.PrintMore
attribute [local go_sem] max2_int min2_int max_two min_two max_three min_three max_four min_four
set_option linter.unusedVariables false
set_option linter.unusedSimpArgs false
mutual
def redraftlaw02_SpanBackAgain.j0 : Nat → Int → Int → List (S36) → Bool → Option (Bool)
 | 0, _, _, _, _ => none
 | k + 1, x3, x4, x5, x34 => if x34 = true then (some false) else ((redraftlaw02_copied.f x5).bind fun t240 => ((span_Back.f k t240 x3 x4).bind fun bt243 => (if x3 < 0 then (redraftlaw02_SpanBackAgain.j1 k x3 x4 x5 bt243.1 bt243.2.1 bt243.2.2 true) else (if x4 < 0 then (redraftlaw02_SpanBackAgain.j1 k x3 x4 x5 bt243.1 bt243.2.1 bt243.2.2 true) else (if x3 > 1048576 then (redraftlaw02_SpanBackAgain.j1 k x3 x4 x5 bt243.1 bt243.2.1 bt243.2.2 true) else (if x4 > 1048576 then (redraftlaw02_SpanBackAgain.j1 k x3 x4 x5 bt243.1 bt243.2.1 bt243.2.2 true) else (redraftlaw02_SpanBackAgain.j1 k x3 x4 x5 bt243.1 bt243.2.1 bt243.2.2 (decide ((wrap64 (x3 + x4)) > 1048576)))))))))
def redraftlaw02_SpanBackAgain.j1 : Nat → Int → Int → List (S36) → List (S36) → List (S36) → Int → Bool → Option (Bool)
 | 0, _, _, _, _, _, _, _ => none
 | k + 1, x3, x4, x5, x7, x8, x9, x63 => if x63 = true then ((redraftlaw02_num.f x9).bind fun t250 => (if t250 = 12 then (if (x7.length : Int) = 0 then (some ((x8.length : Int) == 0)) else (some false)) else (some false))) else ((redraftlaw02_num.f x9).bind fun t251 => (if t251 = 0 then ((redraftlaw02_normal.f k x7).bind fun t252 => (if t252 = true then ((redraftlaw02_normal.f k x8).bind fun t253 => (redraftlaw02_SpanBackAgain.j2 k x3 x4 x5 x7 x8 (!t253))) else (redraftlaw02_SpanBackAgain.j2 k x3 x4 x5 x7 x8 true))) else (redraftlaw02_SpanBackAgain.j2 k x3 x4 x5 x7 x8 true)))
def redraftlaw02_SpanBackAgain.j2 : Nat → Int → Int → List (S36) → List (S36) → List (S36) → Bool → Option (Bool)
 | 0, _, _, _, _, _, _ => none
 | k + 1, x3, x4, x5, x7, x8, x89 => if x89 = true then (some false) else (if (x8.length : Int) > 0 then (if 0 ≤ (wrap64 ((x8.length : Int) - 1)) then (if (wrap64 ((x8.length : Int) - 1)) < (x8.length : Int) then (redraftlaw02_SpanBackAgain.j3 k x3 x4 x5 x7 x8 (decide (((rd_T36 x8 (wrap64 ((x8.length : Int) - 1))).f1) > x4))) else (none)) else (none)) else (redraftlaw02_SpanBackAgain.j3 k x3 x4 x5 x7 x8 false))
def redraftlaw02_SpanBackAgain.j3 : Nat → Int → Int → List (S36) → List (S36) → List (S36) → Bool → Option (Bool)
 | 0, _, _, _, _, _, _ => none
 | k + 1, x3, x4, x5, x7, x8, x103 => if x103 = true then (some false) else ((redraftlaw02_copied.f x8).bind fun t255 => ((span_Through.f k t255 0 x3).bind fun bt258 => ((redraftlaw02_copied.f x7).bind fun t262 => ((span_Through.f k t262 x3 x4).bind fun bt265 => ((redraftlaw02_num.f bt265.2).bind fun t269 => (if t269 = 21 then (redraftlaw02_SpanBackAgain.j4 k x5 bt258.1 bt258.2 bt265.1 bt265.2 ((x7.length : Int) == 32768)) else (redraftlaw02_SpanBackAgain.j4 k x5 bt258.1 bt258.2 bt265.1 bt265.2 false)))))))
def redraftlaw02_SpanBackAgain.j4 : Nat → List (S36) → List (S36) → Int → List (S36) → Int → Bool → Option (Bool)
 | 0, _, _, _, _, _, _ => none
 | k + 1, x5, x10, x11, x12, x13, x126 => if x126 = true then (some ((x12.length : Int) == 0)) else ((redraftlaw02_num.f x11).bind fun t270 => (if t270 = 0 then ((redraftlaw02_num.f x13).bind fun t271 => (redraftlaw02_SpanBackAgain.j5 k x5 x10 x12 (t271 != 0))) else (redraftlaw02_SpanBackAgain.j5 k x5 x10 x12 true)))
def redraftlaw02_SpanBackAgain.j5 : Nat → List (S36) → List (S36) → List (S36) → Bool → Option (Bool)
 | 0, _, _, _, _ => none
 | k + 1, x5, x10, x12, x137 => if x137 = true then (some false) else ((span_Union.f k x12 x10).bind fun bt272 => ((redraftlaw02_num.f bt272.2).bind fun t276 => (if t276 = 0 then ((redraftlaw02_same.f k bt272.1 x5).bind fun t277 => (some t277)) else (some false))))
end
def redraftlaw02_SpanBackAgain.f (k : Nat) (l0_0 : List (S36)) (l0_1 : List (S36)) (l0_2 : List Int) (a0_3 : Int) (a0_4 : Int) : Option (Bool) := (redraftlaw02_right.f k l0_0).bind fun t228 => ((redraftlaw02_copied.f t228).bind fun t231 => ((span_Make.f t231).bind fun bt234 => ((redraftlaw02_num.f bt234.2).bind fun t238 => (if t238 = 0 then ((redraftlaw02_awake.f k).bind fun t239 => (redraftlaw02_SpanBackAgain.j0 k a0_3 a0_4 bt234.1 (!t239))) else (redraftlaw02_SpanBackAgain.j0 k a0_3 a0_4 bt234.1 true)))))
theorem redraftlaw02_SpanBackAgain.mono_l : ∀ k, (∀ y0 y1 y2 y3, LeO (redraftlaw02_SpanBackAgain.j0 k y0 y1 y2 y3) (redraftlaw02_SpanBackAgain.j0 (k + 1) y0 y1 y2 y3)) ∧ (∀ y0 y1 y2 y3 y4 y5 y6, LeO (redraftlaw02_SpanBackAgain.j1 k y0 y1 y2 y3 y4 y5 y6) (redraftlaw02_SpanBackAgain.j1 (k + 1) y0 y1 y2 y3 y4 y5 y6)) ∧ (∀ y0 y1 y2 y3 y4 y5, LeO (redraftlaw02_SpanBackAgain.j2 k y0 y1 y2 y3 y4 y5) (redraftlaw02_SpanBackAgain.j2 (k + 1) y0 y1 y2 y3 y4 y5)) ∧ (∀ y0 y1 y2 y3 y4 y5, LeO (redraftlaw02_SpanBackAgain.j3 k y0 y1 y2 y3 y4 y5) (redraftlaw02_SpanBackAgain.j3 (k + 1) y0 y1 y2 y3 y4 y5)) ∧ (∀ y0 y1 y2 y3 y4 y5, LeO (redraftlaw02_SpanBackAgain.j4 k y0 y1 y2 y3 y4 y5) (redraftlaw02_SpanBackAgain.j4 (k + 1) y0 y1 y2 y3 y4 y5)) ∧ (∀ y0 y1 y2 y3, LeO (redraftlaw02_SpanBackAgain.j5 k y0 y1 y2 y3) (redraftlaw02_SpanBackAgain.j5 (k + 1) y0 y1 y2 y3))
 | 0 => ⟨fun _ _ _ _ r h => by simp [redraftlaw02_SpanBackAgain.j0] at h, fun _ _ _ _ _ _ _ r h => by simp [redraftlaw02_SpanBackAgain.j1] at h, fun _ _ _ _ _ _ r h => by simp [redraftlaw02_SpanBackAgain.j2] at h, fun _ _ _ _ _ _ r h => by simp [redraftlaw02_SpanBackAgain.j3] at h, fun _ _ _ _ _ _ r h => by simp [redraftlaw02_SpanBackAgain.j4] at h, fun _ _ _ _ r h => by simp [redraftlaw02_SpanBackAgain.j5] at h⟩
 | k + 1 => by
  obtain ⟨ih0, ih1, ih2, ih3, ih4, ih5⟩ := redraftlaw02_SpanBackAgain.mono_l k
  refine ⟨?_, ?_, ?_, ?_, ?_, ?_⟩
  ·intro y0 y1 y2 y3
   unfold redraftlaw02_SpanBackAgain.j0
   repeat' first
   | (with_reducible exact ih0 _ _ _ _)
   | (with_reducible exact ih1 _ _ _ _ _ _ _)
   | (with_reducible exact ih2 _ _ _ _ _ _)
   | (with_reducible exact ih3 _ _ _ _ _ _)
   | (with_reducible exact ih4 _ _ _ _ _ _)
   | (with_reducible exact ih5 _ _ _ _)
   | (with_reducible exact redraftlaw02_awake.mono _)
   | (with_reducible exact redraftlaw02_normal.mono _ _)
   | (with_reducible exact redraftlaw02_right.mono _ _)
   | (with_reducible exact redraftlaw02_same.mono _ _ _)
   | (with_reducible exact span_Back.mono _ _ _ _)
   | (with_reducible exact span_Through.mono _ _ _ _)
   | (with_reducible exact span_Union.mono _ _ _)
   | (with_reducible exact LeO.refl _)
   | (with_reducible exact LeO.none _)
   | (with_reducible refine LeO.ite ?_ ?_)
   | (with_reducible refine LeO.bind ?_ (fun _ => ?_))
   | exact ih0 _ _ _ _
   | exact ih1 _ _ _ _ _ _ _
   | exact ih2 _ _ _ _ _ _
   | exact ih3 _ _ _ _ _ _
   | exact ih4 _ _ _ _ _ _
   | exact ih5 _ _ _ _
   | exact redraftlaw02_awake.mono _
   | exact redraftlaw02_normal.mono _ _
   | exact redraftlaw02_right.mono _ _
   | exact redraftlaw02_same.mono _ _ _
   | exact span_Back.mono _ _ _ _
   | exact span_Through.mono _ _ _ _
   | exact span_Union.mono _ _ _
   | exact LeO.none _
   | refine LeO.ite ?_ ?_
   | refine LeO.bind ?_ (fun _ => ?_)
  ·intro y0 y1 y2 y3 y4 y5 y6
   unfold redraftlaw02_SpanBackAgain.j1
   repeat' first
   | (with_reducible exact ih0 _ _ _ _)
   | (with_reducible exact ih1 _ _ _ _ _ _ _)
   | (with_reducible exact ih2 _ _ _ _ _ _)
   | (with_reducible exact ih3 _ _ _ _ _ _)
   | (with_reducible exact ih4 _ _ _ _ _ _)
   | (with_reducible exact ih5 _ _ _ _)
   | (with_reducible exact redraftlaw02_awake.mono _)
   | (with_reducible exact redraftlaw02_normal.mono _ _)
   | (with_reducible exact redraftlaw02_right.mono _ _)
   | (with_reducible exact redraftlaw02_same.mono _ _ _)
   | (with_reducible exact span_Back.mono _ _ _ _)
   | (with_reducible exact span_Through.mono _ _ _ _)
   | (with_reducible exact span_Union.mono _ _ _)
   | (with_reducible exact LeO.refl _)
   | (with_reducible exact LeO.none _)
   | (with_reducible refine LeO.ite ?_ ?_)
   | (with_reducible refine LeO.bind ?_ (fun _ => ?_))
   | exact ih0 _ _ _ _
   | exact ih1 _ _ _ _ _ _ _
   | exact ih2 _ _ _ _ _ _
   | exact ih3 _ _ _ _ _ _
   | exact ih4 _ _ _ _ _ _
   | exact ih5 _ _ _ _
   | exact redraftlaw02_awake.mono _
   | exact redraftlaw02_normal.mono _ _
   | exact redraftlaw02_right.mono _ _
   | exact redraftlaw02_same.mono _ _ _
   | exact span_Back.mono _ _ _ _
   | exact span_Through.mono _ _ _ _
   | exact span_Union.mono _ _ _
   | exact LeO.none _
   | refine LeO.ite ?_ ?_
   | refine LeO.bind ?_ (fun _ => ?_)
  ·intro y0 y1 y2 y3 y4 y5
   unfold redraftlaw02_SpanBackAgain.j2
   repeat' first
   | (with_reducible exact ih0 _ _ _ _)
   | (with_reducible exact ih1 _ _ _ _ _ _ _)
   | (with_reducible exact ih2 _ _ _ _ _ _)
   | (with_reducible exact ih3 _ _ _ _ _ _)
   | (with_reducible exact ih4 _ _ _ _ _ _)
   | (with_reducible exact ih5 _ _ _ _)
   | (with_reducible exact redraftlaw02_awake.mono _)
   | (with_reducible exact redraftlaw02_normal.mono _ _)
   | (with_reducible exact redraftlaw02_right.mono _ _)
   | (with_reducible exact redraftlaw02_same.mono _ _ _)
   | (with_reducible exact span_Back.mono _ _ _ _)
   | (with_reducible exact span_Through.mono _ _ _ _)
   | (with_reducible exact span_Union.mono _ _ _)
   | (with_reducible exact LeO.refl _)
   | (with_reducible exact LeO.none _)
   | (with_reducible refine LeO.ite ?_ ?_)
   | (with_reducible refine LeO.bind ?_ (fun _ => ?_))
   | exact ih0 _ _ _ _
   | exact ih1 _ _ _ _ _ _ _
   | exact ih2 _ _ _ _ _ _
   | exact ih3 _ _ _ _ _ _
   | exact ih4 _ _ _ _ _ _
   | exact ih5 _ _ _ _
   | exact redraftlaw02_awake.mono _
   | exact redraftlaw02_normal.mono _ _
   | exact redraftlaw02_right.mono _ _
   | exact redraftlaw02_same.mono _ _ _
   | exact span_Back.mono _ _ _ _
   | exact span_Through.mono _ _ _ _
   | exact span_Union.mono _ _ _
   | exact LeO.none _
   | refine LeO.ite ?_ ?_
   | refine LeO.bind ?_ (fun _ => ?_)
  ·intro y0 y1 y2 y3 y4 y5
   unfold redraftlaw02_SpanBackAgain.j3
   repeat' first
   | (with_reducible exact ih0 _ _ _ _)
   | (with_reducible exact ih1 _ _ _ _ _ _ _)
   | (with_reducible exact ih2 _ _ _ _ _ _)
   | (with_reducible exact ih3 _ _ _ _ _ _)
   | (with_reducible exact ih4 _ _ _ _ _ _)
   | (with_reducible exact ih5 _ _ _ _)
   | (with_reducible exact redraftlaw02_awake.mono _)
   | (with_reducible exact redraftlaw02_normal.mono _ _)
   | (with_reducible exact redraftlaw02_right.mono _ _)
   | (with_reducible exact redraftlaw02_same.mono _ _ _)
   | (with_reducible exact span_Back.mono _ _ _ _)
   | (with_reducible exact span_Through.mono _ _ _ _)
   | (with_reducible exact span_Union.mono _ _ _)
   | (with_reducible exact LeO.refl _)
   | (with_reducible exact LeO.none _)
   | (with_reducible refine LeO.ite ?_ ?_)
   | (with_reducible refine LeO.bind ?_ (fun _ => ?_))
   | exact ih0 _ _ _ _
   | exact ih1 _ _ _ _ _ _ _
   | exact ih2 _ _ _ _ _ _
   | exact ih3 _ _ _ _ _ _
   | exact ih4 _ _ _ _ _ _
   | exact ih5 _ _ _ _
   | exact redraftlaw02_awake.mono _
   | exact redraftlaw02_normal.mono _ _
   | exact redraftlaw02_right.mono _ _
   | exact redraftlaw02_same.mono _ _ _
   | exact span_Back.mono _ _ _ _
   | exact span_Through.mono _ _ _ _
   | exact span_Union.mono _ _ _
   | exact LeO.none _
   | refine LeO.ite ?_ ?_
   | refine LeO.bind ?_ (fun _ => ?_)
  ·intro y0 y1 y2 y3 y4 y5
   unfold redraftlaw02_SpanBackAgain.j4
   repeat' first
   | (with_reducible exact ih0 _ _ _ _)
   | (with_reducible exact ih1 _ _ _ _ _ _ _)
   | (with_reducible exact ih2 _ _ _ _ _ _)
   | (with_reducible exact ih3 _ _ _ _ _ _)
   | (with_reducible exact ih4 _ _ _ _ _ _)
   | (with_reducible exact ih5 _ _ _ _)
   | (with_reducible exact redraftlaw02_awake.mono _)
   | (with_reducible exact redraftlaw02_normal.mono _ _)
   | (with_reducible exact redraftlaw02_right.mono _ _)
   | (with_reducible exact redraftlaw02_same.mono _ _ _)
   | (with_reducible exact span_Back.mono _ _ _ _)
   | (with_reducible exact span_Through.mono _ _ _ _)
   | (with_reducible exact span_Union.mono _ _ _)
   | (with_reducible exact LeO.refl _)
   | (with_reducible exact LeO.none _)
   | (with_reducible refine LeO.ite ?_ ?_)
   | (with_reducible refine LeO.bind ?_ (fun _ => ?_))
   | exact ih0 _ _ _ _
   | exact ih1 _ _ _ _ _ _ _
   | exact ih2 _ _ _ _ _ _
   | exact ih3 _ _ _ _ _ _
   | exact ih4 _ _ _ _ _ _
   | exact ih5 _ _ _ _
   | exact redraftlaw02_awake.mono _
   | exact redraftlaw02_normal.mono _ _
   | exact redraftlaw02_right.mono _ _
   | exact redraftlaw02_same.mono _ _ _
   | exact span_Back.mono _ _ _ _
   | exact span_Through.mono _ _ _ _
   | exact span_Union.mono _ _ _
   | exact LeO.none _
   | refine LeO.ite ?_ ?_
   | refine LeO.bind ?_ (fun _ => ?_)
  ·intro y0 y1 y2 y3
   unfold redraftlaw02_SpanBackAgain.j5
   repeat' first
   | (with_reducible exact ih0 _ _ _ _)
   | (with_reducible exact ih1 _ _ _ _ _ _ _)
   | (with_reducible exact ih2 _ _ _ _ _ _)
   | (with_reducible exact ih3 _ _ _ _ _ _)
   | (with_reducible exact ih4 _ _ _ _ _ _)
   | (with_reducible exact ih5 _ _ _ _)
   | (with_reducible exact redraftlaw02_awake.mono _)
   | (with_reducible exact redraftlaw02_normal.mono _ _)
   | (with_reducible exact redraftlaw02_right.mono _ _)
   | (with_reducible exact redraftlaw02_same.mono _ _ _)
   | (with_reducible exact span_Back.mono _ _ _ _)
   | (with_reducible exact span_Through.mono _ _ _ _)
   | (with_reducible exact span_Union.mono _ _ _)
   | (with_reducible exact LeO.refl _)
   | (with_reducible exact LeO.none _)
   | (with_reducible refine LeO.ite ?_ ?_)
   | (with_reducible refine LeO.bind ?_ (fun _ => ?_))
   | exact ih0 _ _ _ _
   | exact ih1 _ _ _ _ _ _ _
   | exact ih2 _ _ _ _ _ _
   | exact ih3 _ _ _ _ _ _
   | exact ih4 _ _ _ _ _ _
   | exact ih5 _ _ _ _
   | exact redraftlaw02_awake.mono _
   | exact redraftlaw02_normal.mono _ _
   | exact redraftlaw02_right.mono _ _
   | exact redraftlaw02_same.mono _ _ _
   | exact span_Back.mono _ _ _ _
   | exact span_Through.mono _ _ _ _
   | exact span_Union.mono _ _ _
   | exact LeO.none _
   | refine LeO.ite ?_ ?_
   | refine LeO.bind ?_ (fun _ => ?_)
theorem redraftlaw02_SpanBackAgain.mono : ∀ a0 a1 a2 a3 a4 k, LeO (redraftlaw02_SpanBackAgain.f k a0 a1 a2 a3 a4) (redraftlaw02_SpanBackAgain.f (k + 1) a0 a1 a2 a3 a4) := by
 intro a0 a1 a2 a3 a4 k
 obtain ⟨ih0, ih1, ih2, ih3, ih4, ih5⟩ := redraftlaw02_SpanBackAgain.mono_l k
 unfold redraftlaw02_SpanBackAgain.f
 repeat' first
   | (with_reducible exact ih0 _ _ _ _)
   | (with_reducible exact ih1 _ _ _ _ _ _ _)
   | (with_reducible exact ih2 _ _ _ _ _ _)
   | (with_reducible exact ih3 _ _ _ _ _ _)
   | (with_reducible exact ih4 _ _ _ _ _ _)
   | (with_reducible exact ih5 _ _ _ _)
   | (with_reducible exact redraftlaw02_awake.mono _)
   | (with_reducible exact redraftlaw02_normal.mono _ _)
   | (with_reducible exact redraftlaw02_right.mono _ _)
   | (with_reducible exact redraftlaw02_same.mono _ _ _)
   | (with_reducible exact span_Back.mono _ _ _ _)
   | (with_reducible exact span_Through.mono _ _ _ _)
   | (with_reducible exact span_Union.mono _ _ _)
   | (with_reducible exact LeO.refl _)
   | (with_reducible exact LeO.none _)
   | (with_reducible refine LeO.ite ?_ ?_)
   | (with_reducible refine LeO.bind ?_ (fun _ => ?_))
   | exact ih0 _ _ _ _
   | exact ih1 _ _ _ _ _ _ _
   | exact ih2 _ _ _ _ _ _
   | exact ih3 _ _ _ _ _ _
   | exact ih4 _ _ _ _ _ _
   | exact ih5 _ _ _ _
   | exact redraftlaw02_awake.mono _
   | exact redraftlaw02_normal.mono _ _
   | exact redraftlaw02_right.mono _ _
   | exact redraftlaw02_same.mono _ _ _
   | exact span_Back.mono _ _ _ _
   | exact span_Through.mono _ _ _ _
   | exact span_Union.mono _ _ _
   | exact LeO.none _
   | refine LeO.ite ?_ ?_
   | refine LeO.bind ?_ (fun _ => ?_)
set_option maxHeartbeats 8000000 in
set_option maxRecDepth 100000 in
theorem redraftlaw02_SpanBackAgain.calls (k : Nat) (A0_0 : Option Addr) (c0_0 : Nat) (l0_0 : List (S36)) (A0_1 : Option Addr) (c0_1 : Nat) (l0_1 : List (S36)) (A0_2 : Option Addr) (c0_2 : Nat) (l0_2 : List Int) (a0_3 : Int) (a0_4 : Int) (r : Bool) (w : World) (hr0_0 : Kd.C k36 w A0_0 l0_0.length l0_0) (hc0_0 : l0_0.length ≤ c0_0) (hr0_1 : Kd.C k36 w A0_1 l0_1.length l0_1) (hc0_1 : l0_1.length ≤ c0_1) (hr0_2 : Kd.C (Kd.int .i64) w A0_2 l0_2.length l0_2) (hc0_2 : l0_2.length ≤ c0_2) (h : redraftlaw02_SpanBackAgain.f k l0_0 l0_1 l0_2 a0_3 a0_4 = some r) :
  Calls Try.prog 3 #[.agg #[.slice A0_0 l0_0.length c0_0, .slice A0_1 l0_1.length c0_1, .slice A0_2 l0_2.length c0_2, .int .i64 a0_3, .int .i64 a0_4]] w fun e w' => e = .returned (.bool r) ∧ Below w.heap.size w w' := by
 have hu25 := Try.underlying25
 have HR0_0 := Aside0.mk hr0_0
 have HC0_0 := Aside0.mk hc0_0
 clear hr0_0 hc0_0
 have HR0_1 := Aside0.mk hr0_1
 have HC0_1 := Aside0.mk hc0_1
 clear hr0_1 hc0_1
 have HR0_2 := Aside0.mk hr0_2
 have HC0_2 := Aside0.mk hc0_2
 clear hr0_2 hc0_2
 have HB := Aside0.mk (Below.refl w.heap.size w)
 have H : ((redraftlaw02_right.f k l0_0).bind fun t228 => ((redraftlaw02_copied.f t228).bind fun t231 => ((span_Make.f t231).bind fun bt234 => ((redraftlaw02_num.f bt234.2).bind fun t238 => (if t238 = 0 then ((redraftlaw02_awake.f k).bind fun t239 => (redraftlaw02_SpanBackAgain.j0 k a0_3 a0_4 bt234.1 (!t239))) else (redraftlaw02_SpanBackAgain.j0 k a0_3 a0_4 bt234.1 true)))))) = some r := h
 clear h
 replace H := Option.bind_eq_some_iff.mp H
 obtain ⟨t228, A20, H⟩ := H
 replace H : ((redraftlaw02_copied.f t228).bind fun t231 => ((span_Make.f t231).bind fun bt234 => ((redraftlaw02_num.f bt234.2).bind fun t238 => (if t238 = 0 then ((redraftlaw02_awake.f k).bind fun t239 => (redraftlaw02_SpanBackAgain.j0 k a0_3 a0_4 bt234.1 (!t239))) else (redraftlaw02_SpanBackAgain.j0 k a0_3 a0_4 bt234.1 true))))) = some r := H
 have A2 := Aside0.mk A20
 clear A20
 replace H := Option.bind_eq_some_iff.mp H
 obtain ⟨t231, A30, H⟩ := H
 replace H : ((span_Make.f t231).bind fun bt234 => ((redraftlaw02_num.f bt234.2).bind fun t238 => (if t238 = 0 then ((redraftlaw02_awake.f k).bind fun t239 => (redraftlaw02_SpanBackAgain.j0 k a0_3 a0_4 bt234.1 (!t239))) else (redraftlaw02_SpanBackAgain.j0 k a0_3 a0_4 bt234.1 true)))) = some r := H
 have A3 := Aside0.mk A30
 clear A30
 replace H := Option.bind_eq_some_iff.mp H
 obtain ⟨⟨t234, t235⟩, A40, H⟩ := H
 replace H : ((redraftlaw02_num.f t235).bind fun t238 => (if t238 = 0 then ((redraftlaw02_awake.f k).bind fun t239 => (redraftlaw02_SpanBackAgain.j0 k a0_3 a0_4 t234 (!t239))) else (redraftlaw02_SpanBackAgain.j0 k a0_3 a0_4 t234 true))) = some r := H
 have A4 := Aside0.mk A40
 clear A40
 have HC5 := Aside0.mk H
 clear H
 go_enter Try.func3, Try.ntmps3
 go_upto_region 4 with (first | ((with_reducible refine gate_dst (N := 1) rfl ?_); (try (refine gate_guard (by rfl) ?_; dsimp only)); refine box_event ?hg (N := 1) ?hd (cs := #[.slice A0_0 l0_0.length c0_0, .slice A0_1 l0_1.length c0_1, .slice A0_2 l0_2.length c0_2, .int .i64 a0_3, .int .i64 a0_4]) (t := 25) ?hr ?_; (case hd => rfl); (case hg => rfl); (case hr => first | (go_simp; done) | (go_simp; rfl)); intro gb227 hg w6 hbox hb; have n0_ := Aside0.mk (below_step (by repeat (first | (with_reducible first | exact HB.out | apply below_alloc | apply pw_below_drewN | apply below_drew1) | exact HB.out)) hb); have n1_ := Aside0.mk (hbox); have n2_ := Aside0.mk ((by rw [hg]; exact (below_size (by repeat (first | (with_reducible first | exact HB.out | apply below_alloc | apply pw_below_drewN | apply below_drew1) | exact HB.out))) : w.heap.size ≤ gb227)); have n3_ := Aside0.mk ((by rw [hg]; exact (below_size (by repeat (first | (with_reducible first | exact HB.out | apply below_alloc | apply pw_below_drewN | apply below_drew1) | exact HB.out))) : w.heap.size ≤ gb227)); clear HB; have HB := n0_; have BK227 := n1_; have GW227 := n2_; have GE227 := n3_; clear n0_ n1_ n2_ n3_; clear hb hbox hg; have hcz7_0 : w6.cell? ⟨gb227, 0, none⟩ = some (.slice A0_0 l0_0.length c0_0) := (blk_cell BK227.out 0).trans rfl; have hcz7_1 : w6.cell? ⟨gb227, 1, none⟩ = some (.slice A0_1 l0_1.length c0_1) := (blk_cell BK227.out 1).trans rfl; have hcz7_2 : w6.cell? ⟨gb227, 2, none⟩ = some (.slice A0_2 l0_2.length c0_2) := (blk_cell BK227.out 2).trans rfl; have hcz7_3 : w6.cell? ⟨gb227, 3, none⟩ = some (.int .i64 a0_3) := (blk_cell BK227.out 3).trans rfl; have hcz7_4 : w6.cell? ⟨gb227, 4, none⟩ = some (.int .i64 a0_4) := (blk_cell BK227.out 4).trans rfl; have hfz7_0 := blk_frozen BK227.out 0; have hfz7_1 := blk_frozen BK227.out 1; have hfz7_2 := blk_frozen BK227.out 2; have hfz7_3 := blk_frozen BK227.out 3; have hfz7_4 := blk_frozen BK227.out 4) | ((with_reducible refine gate_callee (f := 18) rfl ?_); refine goesL_ (some 23) rfl rfl Try.func18 (by kernel_rfl) rfl #[.slice A0_0 l0_0.length c0_0] rfl (by (try simp only [List.map_toArray, List.map_cons, List.map_nil]); first | done | rfl | (simp only [List.length_drop, List.length_take]; rfl)) ?_; (with_reducible refine (redraftlaw02_right.calls k _ _ l0_0 t228 _ ?side1 ?side2 A2.out).mono ?_); (case side1 => repeat (first | exact (Kd.C_below HR0_0.out HB.out) | (with_reducible refine Kd.C_alloc ?_ _) | (with_reducible refine Kd.C_drewN ?_ _) | (with_reducible refine Kd.C_drew ?_))); (case side2 => exact HC0_0.out); rintro e w8 ⟨v229, rfl, ho0, hb⟩; refine ⟨_, rfl, ?_⟩; have n0_ := Aside0.mk (Kd.R_lower ho0 (below_size (by repeat (first | (with_reducible first | exact HB.out | apply below_alloc | apply pw_below_drewN | apply below_drew1 | refine below_set ?_ GE227.out) | exact HB.out)))); have n1_ := Aside0.mk (blk_below (g := gb227) (o := .cells #[.slice A0_0 l0_0.length c0_0, .slice A0_1 l0_1.length c0_1, .slice A0_2 l0_2.length c0_2, .int .i64 a0_3, .int .i64 a0_4] 25 (0, 0)) (by (with_reducible repeat (first | refine blk_drewN ?_ _ | refine blk_drew ?_ | refine blk_alloc ?_ _)); exact BK227.out) hb); have n2_ := Aside0.mk (below_step (by repeat (first | (with_reducible first | exact HB.out | apply below_alloc | apply pw_below_drewN | apply below_drew1 | refine below_set ?_ GE227.out) | exact HB.out)) hb); clear BK227; clear HB; have HO230 := n0_; have BK227 := n1_; have HB := n2_; clear n0_ n1_ n2_; (try clear hb); (try clear hb2); (try clear hk); (try clear hi); (try clear ho0); obtain ⟨Ao9, co9, eo9⟩ := Kd.R_slice HO230.out; subst eo9) | ((with_reducible refine gate_callee (f := 17) rfl ?_); refine goesL_ (some 24) rfl rfl Try.func17 (by kernel_rfl) rfl #[.slice Ao9 t228.length co9] rfl (by (try simp only [List.map_toArray, List.map_cons, List.map_nil]); first | done | rfl | (simp only [List.length_drop, List.length_take]; rfl)) ?_; (with_reducible refine (redraftlaw02_copied.calls _ _ t228 t231 _ ?side1 ?side2 A3.out).mono ?_); (case side1 => repeat (first | exact (Kd.R_reads' HO230.out).2.2 | (with_reducible refine Kd.C_alloc ?_ _) | (with_reducible refine Kd.C_drewN ?_ _) | (with_reducible refine Kd.C_drew ?_))); (case side2 => exact (Kd.R_reads' HO230.out).2.1); rintro e w10 ⟨v232, rfl, ho0, hb⟩; refine ⟨_, rfl, ?_⟩; have n0_ := Aside0.mk (Kd.R_elder' (by (with_reducible repeat (first | apply Kd.R_alloc | apply Kd.R_drewN | apply Kd.R_drew)); exact HO230.out) (Kd.R_base ho0) hb); have n1_ := Aside0.mk (Kd.R_lower (Kd.R_new' ho0 (Kd.R_lt (by (with_reducible repeat (first | apply Kd.R_alloc | apply Kd.R_drewN | apply Kd.R_drew)); exact HO230.out))) (below_size (by repeat (first | (with_reducible first | exact HB.out | apply below_alloc | apply pw_below_drewN | apply below_drew1 | refine below_set ?_ GE227.out) | exact HB.out)))); have n2_ := Aside0.mk (blk_below (g := gb227) (o := .cells #[.slice A0_0 l0_0.length c0_0, .slice A0_1 l0_1.length c0_1, .slice A0_2 l0_2.length c0_2, .int .i64 a0_3, .int .i64 a0_4] 25 (0, 0)) (by (with_reducible repeat (first | refine blk_drewN ?_ _ | refine blk_drew ?_ | refine blk_alloc ?_ _)); exact BK227.out) hb); have n3_ := Aside0.mk (below_step (by repeat (first | (with_reducible first | exact HB.out | apply below_alloc | apply pw_below_drewN | apply below_drew1 | refine below_set ?_ GE227.out) | exact HB.out)) hb); clear HO230; clear BK227; clear HB; have HO230 := n0_; have HO233 := n1_; have BK227 := n2_; have HB := n3_; clear n0_ n1_ n2_ n3_; (try clear hb); (try clear hb2); (try clear hk); (try clear hi); (try clear ho0); obtain ⟨Ao11, co11, eo11⟩ := Kd.R_slice HO233.out; subst eo11) | ((with_reducible refine gate_callee (f := 16) rfl ?_); refine goesL_ (some 25) rfl rfl Try.func16 (by kernel_rfl) rfl #[.slice Ao11 t231.length co11] rfl (by (try simp only [List.map_toArray, List.map_cons, List.map_nil]); first | done | rfl | (simp only [List.length_drop, List.length_take]; rfl)) ?_; (with_reducible refine (span_Make.calls _ _ t231 t234 t235 _ ?side1 ?side2 A4.out).mono ?_); (case side1 => repeat (first | exact (Kd.R_reads' HO233.out).2.2 | (with_reducible refine Kd.C_alloc ?_ _) | (with_reducible refine Kd.C_drewN ?_ _) | (with_reducible refine Kd.C_drew ?_))); (case side2 => exact (Kd.R_reads' HO233.out).2.1); rintro e w12 ⟨v236, rfl, ho0, hb⟩; refine ⟨_, rfl, ?_⟩; have n0_ := Aside0.mk (Kd.R_elder' (by (with_reducible repeat (first | apply Kd.R_alloc | apply Kd.R_drewN | apply Kd.R_drew)); exact HO230.out) (Kd.R_base ho0) hb); have n1_ := Aside0.mk (Kd.R_elder' (by (with_reducible repeat (first | apply Kd.R_alloc | apply Kd.R_drewN | apply Kd.R_drew)); exact HO233.out) (Kd.R_base ho0) hb); have n2_ := Aside0.mk (Kd.R_lower (Kd.R_new' (Kd.R_new' ho0 (Kd.R_lt (by (with_reducible repeat (first | apply Kd.R_alloc | apply Kd.R_drewN | apply Kd.R_drew)); exact HO230.out))) (Kd.R_lt (by (with_reducible repeat (first | apply Kd.R_alloc | apply Kd.R_drewN | apply Kd.R_drew)); exact HO233.out))) (below_size (by repeat (first | (with_reducible first | exact HB.out | apply below_alloc | apply pw_below_drewN | apply below_drew1 | refine below_set ?_ GE227.out) | exact HB.out)))); have n3_ := Aside0.mk (blk_below (g := gb227) (o := .cells #[.slice A0_0 l0_0.length c0_0, .slice A0_1 l0_1.length c0_1, .slice A0_2 l0_2.length c0_2, .int .i64 a0_3, .int .i64 a0_4] 25 (0, 0)) (by (with_reducible repeat (first | refine blk_drewN ?_ _ | refine blk_drew ?_ | refine blk_alloc ?_ _)); exact BK227.out) hb); have n4_ := Aside0.mk (below_step (by repeat (first | (with_reducible first | exact HB.out | apply below_alloc | apply pw_below_drewN | apply below_drew1 | refine below_set ?_ GE227.out) | exact HB.out)) hb); clear HO230; clear HO233; clear BK227; clear HB; have HO230 := n0_; have HO233 := n1_; have HO237 := n2_; have BK227 := n3_; have HB := n4_; clear n0_ n1_ n2_ n3_ n4_; (try clear hb); (try clear hb2); (try clear hk); (try clear hi); (try clear ho0)))
 (try simp only [Act.put, List.setIfInBounds_toArray, List.set_cons_zero, List.set_cons_succ])
 go_cut [34] (fun v34 wc => ∃ (kq : Nat) (x34_4 : Bool), v34 = .bool x34_4 ∧ Aside0 (redraftlaw02_SpanBackAgain.j0 kq a0_3 a0_4 t234 x34_4 = some r) ∧ Aside0 (kq ≤ k) ∧ Aside0 (Kd.R k36 36 wc w.heap.size (fun _ => True) v236 t234) ∧ Aside0 (wc.heap[gb227]? = some (.cells #[(.slice A0_0 l0_0.length c0_0), (.slice A0_1 l0_1.length c0_1), (.slice A0_2 l0_2.length c0_2), .int .i64 a0_3, .int .i64 a0_4] 25 (0, 0))) ∧ Aside0 (Below w.heap.size w wc))
 case first =>
  have H := HC5.out
  clear HC5
  replace H := Option.bind_eq_some_iff.mp H
  obtain ⟨t238, A130, H⟩ := H
  replace H : (if t238 = 0 then ((redraftlaw02_awake.f k).bind fun t239 => (redraftlaw02_SpanBackAgain.j0 k a0_3 a0_4 t234 (!t239))) else (redraftlaw02_SpanBackAgain.j0 k a0_3 a0_4 t234 true)) = some r := H
  have A13 := Aside0.mk A130
  clear A130
  by_cases c14 : t238 = 0
  ·rw [if_pos c14] at H
   have c14b0 : (t238 == 0) = true := beq_iff_eq.mpr c14
   have c14b1 : (t238 != 0) = false := bne_eq_false_iff_eq.mpr c14
   clear c14
   (first | rw [c14b0] | (simp only [i64_w, i32_w]; rw [c14b0]) | skip)
   replace H := Option.bind_eq_some_iff.mp H
   obtain ⟨t239, A150, H⟩ := H
   replace H : (redraftlaw02_SpanBackAgain.j0 k a0_3 a0_4 t234 (!t239)) = some r := H
   have A15 := Aside0.mk A150
   clear A150
   have H' := Aside0.mk H
   clear H
   go_wp2_with (first | ((with_reducible refine gate_callee (f := 19) rfl ?_); refine goesL_ (some 29) rfl rfl Try.func19 (by kernel_rfl) rfl #[.int .i64 t235] rfl (by (try simp only [List.map_toArray, List.map_cons, List.map_nil]); first | done | rfl | (simp only [List.length_drop, List.length_take]; rfl)) ?_; (with_reducible refine (redraftlaw02_num.calls t235 t238 _ A13.out).mono ?_); rintro e w' ⟨rfl, ⟨nd, rfl⟩⟩; refine ⟨_, rfl, ?_⟩) | (go_at_call 20; (with_reducible refine (redraftlaw02_awake.calls k  t239 _ A15.out).mono ?_); rintro e w16 ⟨rfl, hb⟩; have n0_ := Aside0.mk (Kd.R_below (by (with_reducible repeat (first | apply Kd.R_alloc | apply Kd.R_drewN | apply Kd.R_drew)); exact HO230.out) hb); have n1_ := Aside0.mk (Kd.R_below (by (with_reducible repeat (first | apply Kd.R_alloc | apply Kd.R_drewN | apply Kd.R_drew)); exact HO233.out) hb); have n2_ := Aside0.mk (Kd.R_below (by (with_reducible repeat (first | apply Kd.R_alloc | apply Kd.R_drewN | apply Kd.R_drew)); exact HO237.out) hb); have n3_ := Aside0.mk (blk_below (g := gb227) (o := .cells #[.slice A0_0 l0_0.length c0_0, .slice A0_1 l0_1.length c0_1, .slice A0_2 l0_2.length c0_2, .int .i64 a0_3, .int .i64 a0_4] 25 (0, 0)) (by (with_reducible repeat (first | refine blk_drewN ?_ _ | refine blk_drew ?_ | refine blk_alloc ?_ _)); exact BK227.out) hb); have n4_ := Aside0.mk (below_step (by repeat (first | (with_reducible first | exact HB.out | apply below_alloc | apply pw_below_drewN | apply below_drew1 | refine below_set ?_ GE227.out) | exact HB.out)) hb); clear HO230; clear HO233; clear HO237; clear BK227; clear HB; have HO230 := n0_; have HO233 := n1_; have HO237 := n2_; have BK227 := n3_; have HB := n4_; clear n0_ n1_ n2_ n3_ n4_; (try clear hb); (try clear hb2); (try clear hk); (try clear hi)))
   go_meet
   case rel => exact ⟨_, (!t239), (by first | rfl | (simp; done) | (simp [*]; done)), H', ⟨by first | omega | exact Nat.le_refl _⟩, ⟨by (with_reducible repeat (first | apply Kd.R_alloc | apply Kd.R_drewN | apply Kd.R_drew)); exact Kd.R_mono HO237.out (fun _ hk => trivial)⟩, ⟨by (with_reducible repeat (first | refine blk_drewN ?_ _ | refine blk_drew ?_ | refine blk_alloc ?_ _)); exact BK227.out⟩, ⟨by repeat (first | (with_reducible first | exact HB.out | apply below_alloc | apply pw_below_drewN | apply below_drew1 | refine below_set ?_ GE227.out) | exact HB.out)⟩⟩
  ·rw [if_neg c14] at H
   have c14b0 : (t238 == 0) = false := beq_eq_false_iff_ne.mpr c14
   have c14b1 : (t238 != 0) = true := bne_iff_ne.mpr c14
   (first | rw [c14b0] | (simp only [i64_w, i32_w]; rw [c14b0]) | skip)
   have H' := Aside0.mk H
   clear H
   go_wp2_with (first | ((with_reducible refine gate_callee (f := 19) rfl ?_); refine goesL_ (some 29) rfl rfl Try.func19 (by kernel_rfl) rfl #[.int .i64 t235] rfl (by (try simp only [List.map_toArray, List.map_cons, List.map_nil]); first | done | rfl | (simp only [List.length_drop, List.length_take]; rfl)) ?_; (with_reducible refine (redraftlaw02_num.calls t235 t238 _ A13.out).mono ?_); rintro e w' ⟨rfl, ⟨nd, rfl⟩⟩; refine ⟨_, rfl, ?_⟩))
   go_meet
   case rel => exact ⟨_, (true), (by first | rfl | (simp; done) | (simp [*]; done)), H', ⟨by first | omega | exact Nat.le_refl _⟩, ⟨by (with_reducible repeat (first | apply Kd.R_alloc | apply Kd.R_drewN | apply Kd.R_drew)); exact Kd.R_mono HO237.out (fun _ hk => trivial)⟩, ⟨by (with_reducible repeat (first | refine blk_drewN ?_ _ | refine blk_drew ?_ | refine blk_alloc ?_ _)); exact BK227.out⟩, ⟨by repeat (first | (with_reducible first | exact HB.out | apply below_alloc | apply pw_below_drewN | apply below_drew1 | refine below_set ?_ GE227.out) | exact HB.out)⟩⟩
 case rest =>
  clear HC5
  try clear c1
  try clear p2
  try clear c3
  try clear c14
  try clear c14b0
  try clear c14b1
  try clear c16
  try clear hcz7_0
  try clear hcz7_1
  try clear hcz7_2
  try clear hcz7_3
  try clear hcz7_4
  try clear hfz7_0
  try clear hfz7_1
  try clear hfz7_2
  try clear hfz7_3
  try clear hfz7_4
  obtain ⟨kq, x34_4, rfl, HA, HJ4, HO_5, BK227, HB⟩ := hcut
  cases kq with
  | zero => exact absurd HA.out (by simp [redraftlaw02_SpanBackAgain.j0])
  | succ kj4 =>
   have H := HA.out
   clear HA
   simp only [redraftlaw02_SpanBackAgain.j0] at H
   by_cases c17 : x34_4 = true
   ·subst c17
    have H1 : (some false) = some r := by rw [if_pos rfl] at H; exact H
    clear H
    have H := H1
    clear H1
    obtain rfl := Option.some.inj H
    go_wp2
    go_ret
    exact ⟨by first | rfl | (simp [errW_none, errW_some] <;> rfl) | (simp [*, errW_none, errW_some] <;> rfl), by repeat (first | (with_reducible first | exact HB.out | apply below_alloc | apply pw_below_drewN | apply below_drew1 | refine below_set ?_ GE227.out) | exact HB.out)⟩
   ·replace c17 := Bool.eq_false_iff.mpr c17
    subst c17
    have H1 : ((redraftlaw02_copied.f t234).bind fun t240 => ((span_Back.f kj4 t240 a0_3 a0_4).bind fun bt243 => (if a0_3 < 0 then (redraftlaw02_SpanBackAgain.j1 kj4 a0_3 a0_4 t234 bt243.1 bt243.2.1 bt243.2.2 true) else (if a0_4 < 0 then (redraftlaw02_SpanBackAgain.j1 kj4 a0_3 a0_4 t234 bt243.1 bt243.2.1 bt243.2.2 true) else (if a0_3 > 1048576 then (redraftlaw02_SpanBackAgain.j1 kj4 a0_3 a0_4 t234 bt243.1 bt243.2.1 bt243.2.2 true) else (if a0_4 > 1048576 then (redraftlaw02_SpanBackAgain.j1 kj4 a0_3 a0_4 t234 bt243.1 bt243.2.1 bt243.2.2 true) else (redraftlaw02_SpanBackAgain.j1 kj4 a0_3 a0_4 t234 bt243.1 bt243.2.1 bt243.2.2 (decide ((wrap64 (a0_3 + a0_4)) > 1048576))))))))) = some r := by rw [if_neg (show ¬ (false = true) by decide)] at H; exact H
    clear H
    have H := H1
    clear H1
    replace H := Option.bind_eq_some_iff.mp H
    obtain ⟨t240, A180, H⟩ := H
    replace H : ((span_Back.f kj4 t240 a0_3 a0_4).bind fun bt243 => (if a0_3 < 0 then (redraftlaw02_SpanBackAgain.j1 kj4 a0_3 a0_4 t234 bt243.1 bt243.2.1 bt243.2.2 true) else (if a0_4 < 0 then (redraftlaw02_SpanBackAgain.j1 kj4 a0_3 a0_4 t234 bt243.1 bt243.2.1 bt243.2.2 true) else (if a0_3 > 1048576 then (redraftlaw02_SpanBackAgain.j1 kj4 a0_3 a0_4 t234 bt243.1 bt243.2.1 bt243.2.2 true) else (if a0_4 > 1048576 then (redraftlaw02_SpanBackAgain.j1 kj4 a0_3 a0_4 t234 bt243.1 bt243.2.1 bt243.2.2 true) else (redraftlaw02_SpanBackAgain.j1 kj4 a0_3 a0_4 t234 bt243.1 bt243.2.1 bt243.2.2 (decide ((wrap64 (a0_3 + a0_4)) > 1048576)))))))) = some r := H
    have A18 := Aside0.mk A180
    clear A180
    replace H := Option.bind_eq_some_iff.mp H
    obtain ⟨⟨t243, t244, t245⟩, A190, H⟩ := H
    replace H : (if a0_3 < 0 then (redraftlaw02_SpanBackAgain.j1 kj4 a0_3 a0_4 t234 t243 t244 t245 true) else (if a0_4 < 0 then (redraftlaw02_SpanBackAgain.j1 kj4 a0_3 a0_4 t234 t243 t244 t245 true) else (if a0_3 > 1048576 then (redraftlaw02_SpanBackAgain.j1 kj4 a0_3 a0_4 t234 t243 t244 t245 true) else (if a0_4 > 1048576 then (redraftlaw02_SpanBackAgain.j1 kj4 a0_3 a0_4 t234 t243 t244 t245 true) else (redraftlaw02_SpanBackAgain.j1 kj4 a0_3 a0_4 t234 t243 t244 t245 (decide ((wrap64 (a0_3 + a0_4)) > 1048576))))))) = some r := H
    have A19 := Aside0.mk A190
    clear A190
    have HC20 := Aside0.mk H
    clear H
    obtain ⟨Ao21, co21, eo21⟩ := Kd.R_slice HO_5.out
    subst eo21
    go_upto_region 7 with (first | ((with_reducible refine gate_callee (f := 17) rfl ?_); refine goesL_ (some 37) rfl rfl Try.func17 (by kernel_rfl) rfl #[.slice Ao21 t234.length co21] rfl (by (try simp only [List.map_toArray, List.map_cons, List.map_nil]); first | done | rfl | (simp only [List.length_drop, List.length_take]; rfl)) ?_; (with_reducible refine (redraftlaw02_copied.calls _ _ t234 t240 _ ?side1 ?side2 A18.out).mono ?_); (case side1 => repeat (first | exact (Kd.R_reads' HO_5.out).2.2 | (with_reducible refine Kd.C_alloc ?_ _) | (with_reducible refine Kd.C_drewN ?_ _) | (with_reducible refine Kd.C_drew ?_))); (case side2 => exact (Kd.R_reads' HO_5.out).2.1); rintro e w22 ⟨v241, rfl, ho0, hb⟩; refine ⟨_, rfl, ?_⟩; have n0_ := Aside0.mk (Kd.R_elder' (by (with_reducible repeat (first | apply Kd.R_alloc | apply Kd.R_drewN | apply Kd.R_drew)); exact HO_5.out) (Kd.R_base ho0) hb); have n1_ := Aside0.mk (Kd.R_lower (Kd.R_new' ho0 (Kd.R_lt (by (with_reducible repeat (first | apply Kd.R_alloc | apply Kd.R_drewN | apply Kd.R_drew)); exact HO_5.out))) (below_size (by repeat (first | (with_reducible first | exact HB.out | apply below_alloc | apply pw_below_drewN | apply below_drew1 | refine below_set ?_ GE227.out) | exact HB.out)))); have n2_ := Aside0.mk (blk_below (g := gb227) (o := .cells #[.slice A0_0 l0_0.length c0_0, .slice A0_1 l0_1.length c0_1, .slice A0_2 l0_2.length c0_2, .int .i64 a0_3, .int .i64 a0_4] 25 (0, 0)) (by (with_reducible repeat (first | refine blk_drewN ?_ _ | refine blk_drew ?_ | refine blk_alloc ?_ _)); exact BK227.out) hb); have n3_ := Aside0.mk (below_step (by repeat (first | (with_reducible first | exact HB.out | apply below_alloc | apply pw_below_drewN | apply below_drew1 | refine below_set ?_ GE227.out) | exact HB.out)) hb); clear HO_5; clear BK227; clear HB; have HO_5 := n0_; have HO242 := n1_; have BK227 := n2_; have HB := n3_; clear n0_ n1_ n2_ n3_; (try clear hb); (try clear hb2); (try clear hk); (try clear hi); (try clear ho0); obtain ⟨Ao23, co23, eo23⟩ := Kd.R_slice HO242.out; subst eo23) | ((with_reducible refine gate_callee (f := 21) rfl ?_); refine goesL_ (some 40) rfl rfl Try.func21 (by kernel_rfl) rfl #[.slice Ao23 t240.length co23, .int .i64 a0_3, .int .i64 a0_4] rfl (by (try simp only [List.map_toArray, List.map_cons, List.map_nil]); first | done | rfl | (simp only [List.length_drop, List.length_take]; rfl)) ?_; (with_reducible refine (span_Back.calls kj4 _ _ t240 a0_3 a0_4 t243 t244 t245 _ ?side1 ?side2 A19.out).mono ?_); (case side1 => repeat (first | exact (Kd.R_reads' HO242.out).2.2 | (with_reducible refine Kd.C_alloc ?_ _) | (with_reducible refine Kd.C_drewN ?_ _) | (with_reducible refine Kd.C_drew ?_))); (case side2 => exact (Kd.R_reads' HO242.out).2.1); rintro e w24 ⟨v246, v248, rfl, ho0, ho1, hb⟩; refine ⟨_, rfl, ?_⟩; have n0_ := Aside0.mk (Kd.R_mono (Kd.R_told (Kd.R_told (Kd.R_old (by (with_reducible repeat (first | apply Kd.R_alloc | apply Kd.R_drewN | apply Kd.R_drew)); exact HO_5.out) hb) (Kd.R_base ho0)) (Kd.R_base ho1)) (fun _ h_ => h_.1)); have n1_ := Aside0.mk (Kd.R_mono (Kd.R_told (Kd.R_told (Kd.R_old (by (with_reducible repeat (first | apply Kd.R_alloc | apply Kd.R_drewN | apply Kd.R_drew)); exact HO242.out) hb) (Kd.R_base ho0)) (Kd.R_base ho1)) (fun _ h_ => h_.1)); have n2_ := Aside0.mk (Kd.R_lower (Kd.R_new' (Kd.R_new' ho0 (Kd.R_lt (by (with_reducible repeat (first | apply Kd.R_alloc | apply Kd.R_drewN | apply Kd.R_drew)); exact HO_5.out))) (Kd.R_lt (by (with_reducible repeat (first | apply Kd.R_alloc | apply Kd.R_drewN | apply Kd.R_drew)); exact HO242.out))) (below_size (by repeat (first | (with_reducible first | exact HB.out | apply below_alloc | apply pw_below_drewN | apply below_drew1 | refine below_set ?_ GE227.out) | exact HB.out)))); have n3_ := Aside0.mk (Kd.R_lower (Kd.R_new' (Kd.R_new' ho1 (Kd.R_lt (by (with_reducible repeat (first | apply Kd.R_alloc | apply Kd.R_drewN | apply Kd.R_drew)); exact HO_5.out))) (Kd.R_lt (by (with_reducible repeat (first | apply Kd.R_alloc | apply Kd.R_drewN | apply Kd.R_drew)); exact HO242.out))) (below_size (by repeat (first | (with_reducible first | exact HB.out | apply below_alloc | apply pw_below_drewN | apply below_drew1 | refine below_set ?_ GE227.out) | exact HB.out)))); have n4_ := Aside0.mk (blk_below (g := gb227) (o := .cells #[.slice A0_0 l0_0.length c0_0, .slice A0_1 l0_1.length c0_1, .slice A0_2 l0_2.length c0_2, .int .i64 a0_3, .int .i64 a0_4] 25 (0, 0)) (by (with_reducible repeat (first | refine blk_drewN ?_ _ | refine blk_drew ?_ | refine blk_alloc ?_ _)); exact BK227.out) hb); have n5_ := Aside0.mk (below_step (by repeat (first | (with_reducible first | exact HB.out | apply below_alloc | apply pw_below_drewN | apply below_drew1 | refine below_set ?_ GE227.out) | exact HB.out)) hb); clear HO_5; clear HO242; clear BK227; clear HB; have HO_5 := n0_; have HO242 := n1_; have HO247 := n2_; have HO249 := n3_; have BK227 := n4_; have HB := n5_; clear n0_ n1_ n2_ n3_ n4_ n5_; (try clear hb); (try clear hb2); (try clear hk); (try clear hi); (try clear ho0); (try clear ho1)))
    (try simp only [Act.put, List.setIfInBounds_toArray, List.set_cons_zero, List.set_cons_succ])
    go_cut [63] (fun v63 wc => ∃ (kq : Nat) (x63_19 : Bool), v63 = .bool x63_19 ∧ Aside0 (redraftlaw02_SpanBackAgain.j1 kq a0_3 a0_4 t234 t243 t244 t245 x63_19 = some r) ∧ Aside0 (kq ≤ kj4) ∧ Aside0 (Kd.R k36 36 wc w.heap.size (fun k_ => some k_ ≠ (v246 : Value).ownBlock ∧ some k_ ≠ (v248 : Value).ownBlock) (.slice Ao21 t234.length co21) t234) ∧ Aside0 (Kd.R k36 36 wc w.heap.size (fun k_ => some k_ ≠ ((.slice Ao21 t234.length co21) : Value).ownBlock ∧ some k_ ≠ (v248 : Value).ownBlock) v246 t243) ∧ Aside0 (Kd.R k36 36 wc w.heap.size (fun k_ => some k_ ≠ ((.slice Ao21 t234.length co21) : Value).ownBlock ∧ some k_ ≠ (v246 : Value).ownBlock) v248 t244) ∧ Aside0 (wc.heap[gb227]? = some (.cells #[(.slice A0_0 l0_0.length c0_0), (.slice A0_1 l0_1.length c0_1), (.slice A0_2 l0_2.length c0_2), .int .i64 a0_3, .int .i64 a0_4] 25 (0, 0))) ∧ Aside0 (Below w.heap.size w wc))
    case first =>
     have H := HC20.out
     clear HC20
     by_cases c25 : a0_3 < 0
     ·rw [if_pos c25] at H
      have c25b0 : decide (a0_3 < 0) = true := decide_eq_true c25
      clear c25
      (first | rw [c25b0] | (simp only [i64_w, i32_w]; rw [c25b0]) | skip)
      have H' := Aside0.mk H
      clear H
      go_wp2
      go_meet
      case rel => exact ⟨_, (true), (by first | rfl | (simp; done) | (simp [*]; done)), H', ⟨by have := HJ4.out; first | omega | exact Nat.le_refl _⟩, ⟨by (with_reducible repeat (first | apply Kd.R_alloc | apply Kd.R_drewN | apply Kd.R_drew)); exact Kd.R_mono HO_5.out (fun _ hk => ⟨hk.1.2, hk.2⟩)⟩, ⟨by (with_reducible repeat (first | apply Kd.R_alloc | apply Kd.R_drewN | apply Kd.R_drew)); exact Kd.R_mono HO247.out (fun _ hk => ⟨hk.1.2, hk.1.1⟩)⟩, ⟨by (with_reducible repeat (first | apply Kd.R_alloc | apply Kd.R_drewN | apply Kd.R_drew)); exact Kd.R_mono HO249.out (fun _ hk => ⟨hk.1.2, hk.1.1⟩)⟩, ⟨by (with_reducible repeat (first | refine blk_drewN ?_ _ | refine blk_drew ?_ | refine blk_alloc ?_ _)); exact BK227.out⟩, ⟨by repeat (first | (with_reducible first | exact HB.out | apply below_alloc | apply pw_below_drewN | apply below_drew1 | refine below_set ?_ GE227.out) | exact HB.out)⟩⟩
     ·rw [if_neg c25] at H
      have c25b0 : decide (a0_3 < 0) = false := decide_eq_false c25
      clear c25
      (first | rw [c25b0] | (simp only [i64_w, i32_w]; rw [c25b0]) | skip)
      by_cases c26 : a0_4 < 0
      ·rw [if_pos c26] at H
       have c26b0 : decide (a0_4 < 0) = true := decide_eq_true c26
       clear c26
       have H' := Aside0.mk H
       clear H
       go_wp2
       go_meet
       case rel => exact ⟨_, (true), (by first | rfl | (simp; done) | (simp [*]; done)), H', ⟨by have := HJ4.out; first | omega | exact Nat.le_refl _⟩, ⟨by (with_reducible repeat (first | apply Kd.R_alloc | apply Kd.R_drewN | apply Kd.R_drew)); exact Kd.R_mono HO_5.out (fun _ hk => ⟨hk.1.2, hk.2⟩)⟩, ⟨by (with_reducible repeat (first | apply Kd.R_alloc | apply Kd.R_drewN | apply Kd.R_drew)); exact Kd.R_mono HO247.out (fun _ hk => ⟨hk.1.2, hk.1.1⟩)⟩, ⟨by (with_reducible repeat (first | apply Kd.R_alloc | apply Kd.R_drewN | apply Kd.R_drew)); exact Kd.R_mono HO249.out (fun _ hk => ⟨hk.1.2, hk.1.1⟩)⟩, ⟨by (with_reducible repeat (first | refine blk_drewN ?_ _ | refine blk_drew ?_ | refine blk_alloc ?_ _)); exact BK227.out⟩, ⟨by repeat (first | (with_reducible first | exact HB.out | apply below_alloc | apply pw_below_drewN | apply below_drew1 | refine below_set ?_ GE227.out) | exact HB.out)⟩⟩
      ·rw [if_neg c26] at H
       have c26b0 : decide (a0_4 < 0) = false := decide_eq_false c26
       clear c26
       by_cases c27 : a0_3 > 1048576
       ·rw [if_pos c27] at H
        have c27b0 : decide (1048576 < a0_3) = true := decide_eq_true c27
        clear c27
        have H' := Aside0.mk H
        clear H
        go_wp2
        go_meet
        case rel => exact ⟨_, (true), (by first | rfl | (simp; done) | (simp [*]; done)), H', ⟨by have := HJ4.out; first | omega | exact Nat.le_refl _⟩, ⟨by (with_reducible repeat (first | apply Kd.R_alloc | apply Kd.R_drewN | apply Kd.R_drew)); exact Kd.R_mono HO_5.out (fun _ hk => ⟨hk.1.2, hk.2⟩)⟩, ⟨by (with_reducible repeat (first | apply Kd.R_alloc | apply Kd.R_drewN | apply Kd.R_drew)); exact Kd.R_mono HO247.out (fun _ hk => ⟨hk.1.2, hk.1.1⟩)⟩, ⟨by (with_reducible repeat (first | apply Kd.R_alloc | apply Kd.R_drewN | apply Kd.R_drew)); exact Kd.R_mono HO249.out (fun _ hk => ⟨hk.1.2, hk.1.1⟩)⟩, ⟨by (with_reducible repeat (first | refine blk_drewN ?_ _ | refine blk_drew ?_ | refine blk_alloc ?_ _)); exact BK227.out⟩, ⟨by repeat (first | (with_reducible first | exact HB.out | apply below_alloc | apply pw_below_drewN | apply below_drew1 | refine below_set ?_ GE227.out) | exact HB.out)⟩⟩
       ·rw [if_neg c27] at H
        have c27b0 : decide (1048576 < a0_3) = false := decide_eq_false c27
        clear c27
        by_cases c28 : a0_4 > 1048576
        ·rw [if_pos c28] at H
         have c28b0 : decide (1048576 < a0_4) = true := decide_eq_true c28
         clear c28
         have H' := Aside0.mk H
         clear H
         go_wp2
         go_meet
         case rel => exact ⟨_, (true), (by first | rfl | (simp; done) | (simp [*]; done)), H', ⟨by have := HJ4.out; first | omega | exact Nat.le_refl _⟩, ⟨by (with_reducible repeat (first | apply Kd.R_alloc | apply Kd.R_drewN | apply Kd.R_drew)); exact Kd.R_mono HO_5.out (fun _ hk => ⟨hk.1.2, hk.2⟩)⟩, ⟨by (with_reducible repeat (first | apply Kd.R_alloc | apply Kd.R_drewN | apply Kd.R_drew)); exact Kd.R_mono HO247.out (fun _ hk => ⟨hk.1.2, hk.1.1⟩)⟩, ⟨by (with_reducible repeat (first | apply Kd.R_alloc | apply Kd.R_drewN | apply Kd.R_drew)); exact Kd.R_mono HO249.out (fun _ hk => ⟨hk.1.2, hk.1.1⟩)⟩, ⟨by (with_reducible repeat (first | refine blk_drewN ?_ _ | refine blk_drew ?_ | refine blk_alloc ?_ _)); exact BK227.out⟩, ⟨by repeat (first | (with_reducible first | exact HB.out | apply below_alloc | apply pw_below_drewN | apply below_drew1 | refine below_set ?_ GE227.out) | exact HB.out)⟩⟩
        ·rw [if_neg c28] at H
         have c28b0 : decide (1048576 < a0_4) = false := decide_eq_false c28
         clear c28
         have H' := Aside0.mk H
         clear H
         go_wp2
         go_meet
         case rel => exact ⟨_, (decide ((wrap64 (a0_3 + a0_4)) > 1048576)), (by first | rfl | (simp; done) | (simp [*]; done)), H', ⟨by have := HJ4.out; first | omega | exact Nat.le_refl _⟩, ⟨by (with_reducible repeat (first | apply Kd.R_alloc | apply Kd.R_drewN | apply Kd.R_drew)); exact Kd.R_mono HO_5.out (fun _ hk => ⟨hk.1.2, hk.2⟩)⟩, ⟨by (with_reducible repeat (first | apply Kd.R_alloc | apply Kd.R_drewN | apply Kd.R_drew)); exact Kd.R_mono HO247.out (fun _ hk => ⟨hk.1.2, hk.1.1⟩)⟩, ⟨by (with_reducible repeat (first | apply Kd.R_alloc | apply Kd.R_drewN | apply Kd.R_drew)); exact Kd.R_mono HO249.out (fun _ hk => ⟨hk.1.2, hk.1.1⟩)⟩, ⟨by (with_reducible repeat (first | refine blk_drewN ?_ _ | refine blk_drew ?_ | refine blk_alloc ?_ _)); exact BK227.out⟩, ⟨by repeat (first | (with_reducible first | exact HB.out | apply below_alloc | apply pw_below_drewN | apply below_drew1 | refine below_set ?_ GE227.out) | exact HB.out)⟩⟩
    case rest =>
     clear HC20
     try clear c1
     try clear c2
     try clear p2
     try clear c3
     try clear p6
     try clear c14
     try clear c14b0
     try clear c14b1
     try clear c16
     try clear c17
     try clear c18
     try clear c19
     try clear c21
     try clear c25
     try clear c25b0
     try clear c26
     try clear c26b0
     try clear c27
     try clear c27b0
     try clear c28
     try clear c28b0
     try clear hcz7_0
     try clear hcz7_1
     try clear hcz7_2
     try clear hcz7_3
     try clear hcz7_4
     try clear hfz7_0
     try clear hfz7_1
     try clear hfz7_2
     try clear hfz7_3
     try clear hfz7_4
     try clear p2
     obtain ⟨kq, x63_19, rfl, HA, HJ19, HO_5, HO_7, HO_8, BK227, HB⟩ := hcut
     cases kq with
     | zero => exact absurd HA.out (by simp [redraftlaw02_SpanBackAgain.j1])
     | succ kj19 =>
      have H := HA.out
      clear HA
      simp only [redraftlaw02_SpanBackAgain.j1] at H
      by_cases c29 : x63_19 = true
      ·subst c29
       have H1 : ((redraftlaw02_num.f t245).bind fun t250 => (if t250 = 12 then (if (t243.length : Int) = 0 then (some ((t244.length : Int) == 0)) else (some false)) else (some false))) = some r := by rw [if_pos rfl] at H; exact H
       clear H
       have H := H1
       clear H1
       replace H := Option.bind_eq_some_iff.mp H
       obtain ⟨t250, A300, H⟩ := H
       replace H : (if t250 = 12 then (if (t243.length : Int) = 0 then (some ((t244.length : Int) == 0)) else (some false)) else (some false)) = some r := H
       have A30 := Aside0.mk A300
       clear A300
       by_cases c31 : t250 = 12
       ·rw [if_pos c31] at H
        have c31b0 : (t250 == 12) = true := beq_iff_eq.mpr c31
        have c31b1 : (t250 != 12) = false := bne_eq_false_iff_eq.mpr c31
        clear c31
        by_cases c32 : (t243.length : Int) = 0
        ·rw [if_pos c32] at H
         have c32b0 : ((t243.length : Int) == 0) = true := beq_iff_eq.mpr c32
         have c32b1 : ((t243.length : Int) != 0) = false := bne_eq_false_iff_eq.mpr c32
         clear c32
         obtain rfl := Option.some.inj H
         go_wp2_with (first | ((with_reducible refine gate_callee (f := 19) rfl ?_); refine goesL_ (some 65) rfl rfl Try.func19 (by kernel_rfl) rfl #[.int .i64 t245] rfl (by (try simp only [List.map_toArray, List.map_cons, List.map_nil]); first | done | rfl | (simp only [List.length_drop, List.length_take]; rfl)) ?_; (with_reducible refine (redraftlaw02_num.calls t245 t250 _ A30.out).mono ?_); rintro e w' ⟨rfl, ⟨nd, rfl⟩⟩; refine ⟨_, rfl, ?_⟩; obtain ⟨Ao33, co33, eo33⟩ := Kd.R_slice HO_7.out; subst eo33; obtain ⟨Ao34, co34, eo34⟩ := Kd.R_slice HO_8.out; subst eo34))
         go_ret
         exact ⟨by first | rfl | (simp [errW_none, errW_some] <;> rfl) | (simp [*, errW_none, errW_some] <;> rfl), by repeat (first | (with_reducible first | exact HB.out | apply below_alloc | apply pw_below_drewN | apply below_drew1 | refine below_set ?_ GE227.out) | exact HB.out)⟩
        ·rw [if_neg c32] at H
         have c32b0 : ((t243.length : Int) == 0) = false := beq_eq_false_iff_ne.mpr c32
         have c32b1 : ((t243.length : Int) != 0) = true := bne_iff_ne.mpr c32
         have c32b2 : ¬ (t243 = []) := fun h_ => c32 (by rw [h_]; rfl)
         obtain rfl := Option.some.inj H
         go_wp2_with (first | ((with_reducible refine gate_callee (f := 19) rfl ?_); refine goesL_ (some 65) rfl rfl Try.func19 (by kernel_rfl) rfl #[.int .i64 t245] rfl (by (try simp only [List.map_toArray, List.map_cons, List.map_nil]); first | done | rfl | (simp only [List.length_drop, List.length_take]; rfl)) ?_; (with_reducible refine (redraftlaw02_num.calls t245 t250 _ A30.out).mono ?_); rintro e w' ⟨rfl, ⟨nd, rfl⟩⟩; refine ⟨_, rfl, ?_⟩; obtain ⟨Ao35, co35, eo35⟩ := Kd.R_slice HO_7.out; subst eo35))
         go_ret
         exact ⟨by first | rfl | (simp [errW_none, errW_some] <;> rfl) | (simp [*, errW_none, errW_some] <;> rfl), by repeat (first | (with_reducible first | exact HB.out | apply below_alloc | apply pw_below_drewN | apply below_drew1 | refine below_set ?_ GE227.out) | exact HB.out)⟩
       ·rw [if_neg c31] at H
        have c31b0 : (t250 == 12) = false := beq_eq_false_iff_ne.mpr c31
        have c31b1 : (t250 != 12) = true := bne_iff_ne.mpr c31
        obtain rfl := Option.some.inj H
        go_wp2_with (first | ((with_reducible refine gate_callee (f := 19) rfl ?_); refine goesL_ (some 65) rfl rfl Try.func19 (by kernel_rfl) rfl #[.int .i64 t245] rfl (by (try simp only [List.map_toArray, List.map_cons, List.map_nil]); first | done | rfl | (simp only [List.length_drop, List.length_take]; rfl)) ?_; (with_reducible refine (redraftlaw02_num.calls t245 t250 _ A30.out).mono ?_); rintro e w' ⟨rfl, ⟨nd, rfl⟩⟩; refine ⟨_, rfl, ?_⟩))
        go_ret
        exact ⟨by first | rfl | (simp [errW_none, errW_some] <;> rfl) | (simp [*, errW_none, errW_some] <;> rfl), by repeat (first | (with_reducible first | exact HB.out | apply below_alloc | apply pw_below_drewN | apply below_drew1 | refine below_set ?_ GE227.out) | exact HB.out)⟩
      ·replace c29 := Bool.eq_false_iff.mpr c29
       subst c29
       have H1 : ((redraftlaw02_num.f t245).bind fun t251 => (if t251 = 0 then ((redraftlaw02_normal.f kj19 t243).bind fun t252 => (if t252 = true then ((redraftlaw02_normal.f kj19 t244).bind fun t253 => (redraftlaw02_SpanBackAgain.j2 kj19 a0_3 a0_4 t234 t243 t244 (!t253))) else (redraftlaw02_SpanBackAgain.j2 kj19 a0_3 a0_4 t234 t243 t244 true))) else (redraftlaw02_SpanBackAgain.j2 kj19 a0_3 a0_4 t234 t243 t244 true))) = some r := by rw [if_neg (show ¬ (false = true) by decide)] at H; exact H
       clear H
       have H := H1
       clear H1
       have HC36 := Aside0.mk H
       clear H
       go_upto_region 9 with (fail)
       go_cut [89] (fun v89 wc => ∃ (kq : Nat) (x89_35 : Bool), v89 = .bool x89_35 ∧ Aside0 (redraftlaw02_SpanBackAgain.j2 kq a0_3 a0_4 t234 t243 t244 x89_35 = some r) ∧ Aside0 (kq ≤ kj19) ∧ Aside0 (Kd.R k36 36 wc w.heap.size (fun k_ => some k_ ≠ (v246 : Value).ownBlock ∧ some k_ ≠ (v248 : Value).ownBlock) (.slice Ao21 t234.length co21) t234) ∧ Aside0 (Kd.R k36 36 wc w.heap.size (fun k_ => some k_ ≠ ((.slice Ao21 t234.length co21) : Value).ownBlock ∧ some k_ ≠ (v248 : Value).ownBlock) v246 t243) ∧ Aside0 (Kd.R k36 36 wc w.heap.size (fun k_ => some k_ ≠ ((.slice Ao21 t234.length co21) : Value).ownBlock ∧ some k_ ≠ (v246 : Value).ownBlock) v248 t244) ∧ Aside0 (wc.heap[gb227]? = some (.cells #[(.slice A0_0 l0_0.length c0_0), (.slice A0_1 l0_1.length c0_1), (.slice A0_2 l0_2.length c0_2), .int .i64 a0_3, .int .i64 a0_4] 25 (0, 0))) ∧ Aside0 (Below w.heap.size w wc))
       case first =>
        have H := HC36.out
        clear HC36
        replace H := Option.bind_eq_some_iff.mp H
        obtain ⟨t251, A370, H⟩ := H
        replace H : (if t251 = 0 then ((redraftlaw02_normal.f kj19 t243).bind fun t252 => (if t252 = true then ((redraftlaw02_normal.f kj19 t244).bind fun t253 => (redraftlaw02_SpanBackAgain.j2 kj19 a0_3 a0_4 t234 t243 t244 (!t253))) else (redraftlaw02_SpanBackAgain.j2 kj19 a0_3 a0_4 t234 t243 t244 true))) else (redraftlaw02_SpanBackAgain.j2 kj19 a0_3 a0_4 t234 t243 t244 true)) = some r := H
        have A37 := Aside0.mk A370
        clear A370
        by_cases c38 : t251 = 0
        ·rw [if_pos c38] at H
         have c38b0 : (t251 == 0) = true := beq_iff_eq.mpr c38
         have c38b1 : (t251 != 0) = false := bne_eq_false_iff_eq.mpr c38
         clear c38
         (first | rw [c38b0] | (simp only [i64_w, i32_w]; rw [c38b0]) | skip)
         replace H := Option.bind_eq_some_iff.mp H
         obtain ⟨t252, A390, H⟩ := H
         replace H : (if t252 = true then ((redraftlaw02_normal.f kj19 t244).bind fun t253 => (redraftlaw02_SpanBackAgain.j2 kj19 a0_3 a0_4 t234 t243 t244 (!t253))) else (redraftlaw02_SpanBackAgain.j2 kj19 a0_3 a0_4 t234 t243 t244 true)) = some r := H
         have A39 := Aside0.mk A390
         clear A390
         by_cases c40 : t252 = true
         ·subst c40
          have H1 : ((redraftlaw02_normal.f kj19 t244).bind fun t253 => (redraftlaw02_SpanBackAgain.j2 kj19 a0_3 a0_4 t234 t243 t244 (!t253))) = some r := by rw [if_pos rfl] at H; exact H
          clear H
          have H := H1
          clear H1
          replace H := Option.bind_eq_some_iff.mp H
          obtain ⟨t253, A410, H⟩ := H
          replace H : (redraftlaw02_SpanBackAgain.j2 kj19 a0_3 a0_4 t234 t243 t244 (!t253)) = some r := H
          have A41 := Aside0.mk A410
          clear A410
          have H' := Aside0.mk H
          clear H
          go_wp2_with (first | ((with_reducible refine gate_callee (f := 19) rfl ?_); refine goesL_ (some 78) rfl rfl Try.func19 (by kernel_rfl) rfl #[.int .i64 t245] rfl (by (try simp only [List.map_toArray, List.map_cons, List.map_nil]); first | done | rfl | (simp only [List.length_drop, List.length_take]; rfl)) ?_; (with_reducible refine (redraftlaw02_num.calls t245 t251 _ A37.out).mono ?_); rintro e w' ⟨rfl, ⟨nd, rfl⟩⟩; refine ⟨_, rfl, ?_⟩; obtain ⟨Ao42, co42, eo42⟩ := Kd.R_slice HO_7.out; subst eo42) | (go_at_call 22; (with_reducible refine (redraftlaw02_normal.calls kj19 _ _ t243 true _ ?side1 ?side2 A39.out).mono ?_); (case side1 => repeat (first | exact (Kd.R_reads' HO_7.out).2.2 | (with_reducible refine Kd.C_alloc ?_ _) | (with_reducible refine Kd.C_drewN ?_ _) | (with_reducible refine Kd.C_drew ?_))); (case side2 => exact (Kd.R_reads' HO_7.out).2.1); rintro e w' ⟨rfl, ⟨nd, rfl⟩⟩; obtain ⟨Ao43, co43, eo43⟩ := Kd.R_slice HO_8.out; subst eo43) | (go_at_call 22; (with_reducible refine (redraftlaw02_normal.calls kj19 _ _ t244 t253 _ ?side1 ?side2 A41.out).mono ?_); (case side1 => repeat (first | exact (Kd.R_reads' HO_8.out).2.2 | (with_reducible refine Kd.C_alloc ?_ _) | (with_reducible refine Kd.C_drewN ?_ _) | (with_reducible refine Kd.C_drew ?_))); (case side2 => exact (Kd.R_reads' HO_8.out).2.1); rintro e w' ⟨rfl, ⟨nd, rfl⟩⟩))
          go_meet
          case rel => exact ⟨_, (!t253), (by first | rfl | (simp; done) | (simp [*]; done)), H', ⟨by have := HJ4.out; have := HJ19.out; first | omega | exact Nat.le_refl _⟩, ⟨by (with_reducible repeat (first | apply Kd.R_alloc | apply Kd.R_drewN | apply Kd.R_drew)); exact HO_5.out⟩, ⟨by (with_reducible repeat (first | apply Kd.R_alloc | apply Kd.R_drewN | apply Kd.R_drew)); exact HO_7.out⟩, ⟨by (with_reducible repeat (first | apply Kd.R_alloc | apply Kd.R_drewN | apply Kd.R_drew)); exact HO_8.out⟩, ⟨by (with_reducible repeat (first | refine blk_drewN ?_ _ | refine blk_drew ?_ | refine blk_alloc ?_ _)); exact BK227.out⟩, ⟨by repeat (first | (with_reducible first | exact HB.out | apply below_alloc | apply pw_below_drewN | apply below_drew1 | refine below_set ?_ GE227.out) | exact HB.out)⟩⟩
         ·replace c40 := Bool.eq_false_iff.mpr c40
          subst c40
          have H1 : (redraftlaw02_SpanBackAgain.j2 kj19 a0_3 a0_4 t234 t243 t244 true) = some r := by rw [if_neg (show ¬ (false = true) by decide)] at H; exact H
          clear H
          have H := H1
          clear H1
          have H' := Aside0.mk H
          clear H
          go_wp2_with (first | ((with_reducible refine gate_callee (f := 19) rfl ?_); refine goesL_ (some 78) rfl rfl Try.func19 (by kernel_rfl) rfl #[.int .i64 t245] rfl (by (try simp only [List.map_toArray, List.map_cons, List.map_nil]); first | done | rfl | (simp only [List.length_drop, List.length_take]; rfl)) ?_; (with_reducible refine (redraftlaw02_num.calls t245 t251 _ A37.out).mono ?_); rintro e w' ⟨rfl, ⟨nd, rfl⟩⟩; refine ⟨_, rfl, ?_⟩; obtain ⟨Ao44, co44, eo44⟩ := Kd.R_slice HO_7.out; subst eo44) | (go_at_call 22; (with_reducible refine (redraftlaw02_normal.calls kj19 _ _ t243 false _ ?side1 ?side2 A39.out).mono ?_); (case side1 => repeat (first | exact (Kd.R_reads' HO_7.out).2.2 | (with_reducible refine Kd.C_alloc ?_ _) | (with_reducible refine Kd.C_drewN ?_ _) | (with_reducible refine Kd.C_drew ?_))); (case side2 => exact (Kd.R_reads' HO_7.out).2.1); rintro e w' ⟨rfl, ⟨nd, rfl⟩⟩))
          go_meet
          case rel => exact ⟨_, (true), (by first | rfl | (simp; done) | (simp [*]; done)), H', ⟨by have := HJ4.out; have := HJ19.out; first | omega | exact Nat.le_refl _⟩, ⟨by (with_reducible repeat (first | apply Kd.R_alloc | apply Kd.R_drewN | apply Kd.R_drew)); exact HO_5.out⟩, ⟨by (with_reducible repeat (first | apply Kd.R_alloc | apply Kd.R_drewN | apply Kd.R_drew)); exact HO_7.out⟩, ⟨by (with_reducible repeat (first | apply Kd.R_alloc | apply Kd.R_drewN | apply Kd.R_drew)); exact HO_8.out⟩, ⟨by (with_reducible repeat (first | refine blk_drewN ?_ _ | refine blk_drew ?_ | refine blk_alloc ?_ _)); exact BK227.out⟩, ⟨by repeat (first | (with_reducible first | exact HB.out | apply below_alloc | apply pw_below_drewN | apply below_drew1 | refine below_set ?_ GE227.out) | exact HB.out)⟩⟩
        ·rw [if_neg c38] at H
         have c38b0 : (t251 == 0) = false := beq_eq_false_iff_ne.mpr c38
         have c38b1 : (t251 != 0) = true := bne_iff_ne.mpr c38
         (first | rw [c38b0] | (simp only [i64_w, i32_w]; rw [c38b0]) | skip)
         have H' := Aside0.mk H
         clear H
         go_wp2_with (first | ((with_reducible refine gate_callee (f := 19) rfl ?_); refine goesL_ (some 78) rfl rfl Try.func19 (by kernel_rfl) rfl #[.int .i64 t245] rfl (by (try simp only [List.map_toArray, List.map_cons, List.map_nil]); first | done | rfl | (simp only [List.length_drop, List.length_take]; rfl)) ?_; (with_reducible refine (redraftlaw02_num.calls t245 t251 _ A37.out).mono ?_); rintro e w' ⟨rfl, ⟨nd, rfl⟩⟩; refine ⟨_, rfl, ?_⟩))
         go_meet
         case rel => exact ⟨_, (true), (by first | rfl | (simp; done) | (simp [*]; done)), H', ⟨by have := HJ4.out; have := HJ19.out; first | omega | exact Nat.le_refl _⟩, ⟨by (with_reducible repeat (first | apply Kd.R_alloc | apply Kd.R_drewN | apply Kd.R_drew)); exact HO_5.out⟩, ⟨by (with_reducible repeat (first | apply Kd.R_alloc | apply Kd.R_drewN | apply Kd.R_drew)); exact HO_7.out⟩, ⟨by (with_reducible repeat (first | apply Kd.R_alloc | apply Kd.R_drewN | apply Kd.R_drew)); exact HO_8.out⟩, ⟨by (with_reducible repeat (first | refine blk_drewN ?_ _ | refine blk_drew ?_ | refine blk_alloc ?_ _)); exact BK227.out⟩, ⟨by repeat (first | (with_reducible first | exact HB.out | apply below_alloc | apply pw_below_drewN | apply below_drew1 | refine below_set ?_ GE227.out) | exact HB.out)⟩⟩
       case rest =>
        clear HC36
        try clear c1
        try clear c2
        try clear p2
        try clear c3
        try clear c4
        try clear p6
        try clear c14
        try clear c14b0
        try clear c14b1
        try clear c16
        try clear c17
        try clear c18
        try clear c19
        try clear c21
        try clear c25
        try clear c25b0
        try clear c26
        try clear c26b0
        try clear c27
        try clear c27b0
        try clear c28
        try clear c28b0
        try clear c29
        try clear c31
        try clear c31b0
        try clear c31b1
        try clear c32
        try clear c32b0
        try clear c32b1
        try clear c32b2
        try clear c38
        try clear c38b0
        try clear c38b1
        try clear c40
        try clear hcz7_0
        try clear hcz7_1
        try clear hcz7_2
        try clear hcz7_3
        try clear hcz7_4
        try clear hfz7_0
        try clear hfz7_1
        try clear hfz7_2
        try clear hfz7_3
        try clear hfz7_4
        try clear p2
        try clear p6
        obtain ⟨kq, x89_35, rfl, HA, HJ35, HO_5, HO_7, HO_8, BK227, HB⟩ := hcut
        cases kq with
        | zero => exact absurd HA.out (by simp [redraftlaw02_SpanBackAgain.j2])
        | succ kj35 =>
         have H := HA.out
         clear HA
         simp only [redraftlaw02_SpanBackAgain.j2] at H
         by_cases c45 : x89_35 = true
         ·subst c45
          have H1 : (some false) = some r := by rw [if_pos rfl] at H; exact H
          clear H
          have H := H1
          clear H1
          obtain rfl := Option.some.inj H
          go_wp2
          go_ret
          exact ⟨by first | rfl | (simp [errW_none, errW_some] <;> rfl) | (simp [*, errW_none, errW_some] <;> rfl), by repeat (first | (with_reducible first | exact HB.out | apply below_alloc | apply pw_below_drewN | apply below_drew1 | refine below_set ?_ GE227.out) | exact HB.out)⟩
         ·replace c45 := Bool.eq_false_iff.mpr c45
          subst c45
          have H1 : (if (t244.length : Int) > 0 then (if 0 ≤ (wrap64 ((t244.length : Int) - 1)) then (if (wrap64 ((t244.length : Int) - 1)) < (t244.length : Int) then (redraftlaw02_SpanBackAgain.j3 kj35 a0_3 a0_4 t234 t243 t244 (decide (((rd_T36 t244 (wrap64 ((t244.length : Int) - 1))).f1) > a0_4))) else (none)) else (none)) else (redraftlaw02_SpanBackAgain.j3 kj35 a0_3 a0_4 t234 t243 t244 false)) = some r := by rw [if_neg (show ¬ (false = true) by decide)] at H; exact H
          clear H
          have H := H1
          clear H1
          have HC46 := Aside0.mk H
          clear H
          go_upto_region 11 with (fail)
          go_cut [103] (fun v103 wc => ∃ (kq : Nat) (x103_45 : Bool), v103 = .bool x103_45 ∧ Aside0 (redraftlaw02_SpanBackAgain.j3 kq a0_3 a0_4 t234 t243 t244 x103_45 = some r) ∧ Aside0 (kq ≤ kj35) ∧ Aside0 (Kd.R k36 36 wc w.heap.size (fun k_ => some k_ ≠ (v246 : Value).ownBlock ∧ some k_ ≠ (v248 : Value).ownBlock) (.slice Ao21 t234.length co21) t234) ∧ Aside0 (Kd.R k36 36 wc w.heap.size (fun k_ => some k_ ≠ ((.slice Ao21 t234.length co21) : Value).ownBlock ∧ some k_ ≠ (v248 : Value).ownBlock) v246 t243) ∧ Aside0 (Kd.R k36 36 wc w.heap.size (fun k_ => some k_ ≠ ((.slice Ao21 t234.length co21) : Value).ownBlock ∧ some k_ ≠ (v246 : Value).ownBlock) v248 t244) ∧ Aside0 (wc.heap[gb227]? = some (.cells #[(.slice A0_0 l0_0.length c0_0), (.slice A0_1 l0_1.length c0_1), (.slice A0_2 l0_2.length c0_2), .int .i64 a0_3, .int .i64 a0_4] 25 (0, 0))) ∧ Aside0 (Below w.heap.size w wc))
          case first =>
           have H := HC46.out
           clear HC46
           by_cases c47 : (t244.length : Int) > 0
           ·rw [if_pos c47] at H
            have c47b0 : decide (0 < (t244.length : Int)) = true := decide_eq_true c47
            have c47b1 : decide (0 < t244.length) = true := decide_eq_true (by omega)
            clear c47
            (first | rw [c47b0] | (simp only [i64_w, i32_w]; rw [c47b0]) | skip)
            obtain ⟨ji48, hji48⟩ : ∃ j_ : Int, (wrap64 ((t244.length : Int) - 1)) = j_ := ⟨_, rfl⟩
            replace H : (if 0 ≤ (ji48) then (if (ji48) < (t244.length : Int) then (redraftlaw02_SpanBackAgain.j3 kj35 a0_3 a0_4 t234 t243 t244 (decide (((rd_T36 t244 (ji48)).f1) > a0_4))) else (none)) else (none)) = some r := by first | (rw [hji48] at H; exact H) | (simp only [hji48] at H ⊢; exact H)
            have hji48w : (IntKind.i64.wrap ((t244.length : Int) - 1)) = ji48 := (i64_w _).trans hji48
            by_cases c49 : 0 ≤ (ji48)
            ·rw [if_pos c49] at H
             have c49b0 : decide (0 ≤ (ji48)) = true := decide_eq_true c49
             clear c49
             by_cases c50 : (ji48) < (t244.length : Int)
             ·rw [if_pos c50] at H
              have c50b0 : decide ((ji48) < (t244.length : Int)) = true := decide_eq_true c50
              clear c50
              have H' := Aside0.mk H
              clear H
              obtain ⟨Ao51, co51, eo51⟩ := Kd.R_slice HO_8.out
              subst eo51
              have p254 : 0 ≤ ((ji48) : Int) := of_decide_eq_true (by first | (with_reducible assumption) | assumption)
              have q254 : (ji48) < (t244.length : Int) := of_decide_eq_true (by first | (with_reducible assumption) | assumption)
              obtain ⟨ad254, e254, hx254_0, hx254_1⟩ := at_T36 (Kd.R_reads' HO_8.out).2.2 (ji48) p254 q254
              cases e254
              replace p254 := eq_true p254
              replace q254 := eq_true q254
              go_wp2
              go_meet
              case rel => exact ⟨_, (decide (((rd_T36 t244 (ji48)).f1) > a0_4)), (by first | rfl | (simp; done) | (simp only [← hji48] <;> (first | rfl | simp)) | (simp [*]; done)), H', ⟨by have := HJ4.out; have := HJ19.out; have := HJ35.out; first | omega | exact Nat.le_refl _⟩, ⟨by (with_reducible repeat (first | apply Kd.R_alloc | apply Kd.R_drewN | apply Kd.R_drew)); exact HO_5.out⟩, ⟨by (with_reducible repeat (first | apply Kd.R_alloc | apply Kd.R_drewN | apply Kd.R_drew)); exact HO_7.out⟩, ⟨by (with_reducible repeat (first | apply Kd.R_alloc | apply Kd.R_drewN | apply Kd.R_drew)); exact HO_8.out⟩, ⟨by (with_reducible repeat (first | refine blk_drewN ?_ _ | refine blk_drew ?_ | refine blk_alloc ?_ _)); exact BK227.out⟩, ⟨by repeat (first | (with_reducible first | exact HB.out | apply below_alloc | apply pw_below_drewN | apply below_drew1 | refine below_set ?_ GE227.out) | exact HB.out)⟩⟩
             ·rw [if_neg c50] at H
              exact absurd H (by simp)
            ·rw [if_neg c49] at H
             exact absurd H (by simp)
           ·rw [if_neg c47] at H
            have c47b0 : decide (0 < (t244.length : Int)) = false := decide_eq_false c47
            have c47b1 : decide (0 < t244.length) = false := decide_eq_false (by omega)
            clear c47
            (first | rw [c47b0] | (simp only [i64_w, i32_w]; rw [c47b0]) | skip)
            have H' := Aside0.mk H
            clear H
            obtain ⟨Ao52, co52, eo52⟩ := Kd.R_slice HO_8.out
            subst eo52
            go_wp2
            go_meet
            case rel => exact ⟨_, (false), (by first | rfl | (simp; done) | (simp [*]; done)), H', ⟨by have := HJ4.out; have := HJ19.out; have := HJ35.out; first | omega | exact Nat.le_refl _⟩, ⟨by (with_reducible repeat (first | apply Kd.R_alloc | apply Kd.R_drewN | apply Kd.R_drew)); exact HO_5.out⟩, ⟨by (with_reducible repeat (first | apply Kd.R_alloc | apply Kd.R_drewN | apply Kd.R_drew)); exact HO_7.out⟩, ⟨by (with_reducible repeat (first | apply Kd.R_alloc | apply Kd.R_drewN | apply Kd.R_drew)); exact HO_8.out⟩, ⟨by (with_reducible repeat (first | refine blk_drewN ?_ _ | refine blk_drew ?_ | refine blk_alloc ?_ _)); exact BK227.out⟩, ⟨by repeat (first | (with_reducible first | exact HB.out | apply below_alloc | apply pw_below_drewN | apply below_drew1 | refine below_set ?_ GE227.out) | exact HB.out)⟩⟩
          case rest =>
           clear HC46
           try clear c1
           try clear c2
           try clear p2
           try clear q2
           try clear hx2
           try clear c3
           try clear c4
           try clear c5
           try clear p6
           try clear c14
           try clear c14b0
           try clear c14b1
           try clear c16
           try clear c17
           try clear c18
           try clear c19
           try clear c21
           try clear c25
           try clear c25b0
           try clear p25
           try clear q25
           try clear hx25
           try clear c26
           try clear c26b0
           try clear c27
           try clear c27b0
           try clear c28
           try clear c28b0
           try clear c29
           try clear c31
           try clear c31b0
           try clear c31b1
           try clear c32
           try clear c32b0
           try clear c32b1
           try clear c32b2
           try clear c38
           try clear c38b0
           try clear c38b1
           try clear c40
           try clear c45
           try clear c47
           try clear c47b0
           try clear c47b1
           try clear c49
           try clear c49b0
           try clear c50
           try clear c50b0
           try clear hcz7_0
           try clear hcz7_1
           try clear hcz7_2
           try clear hcz7_3
           try clear hcz7_4
           try clear hfz7_0
           try clear hfz7_1
           try clear hfz7_2
           try clear hfz7_3
           try clear hfz7_4
           try clear hx254_0
           try clear hx254_1
           try clear p2
           try clear p254
           try clear p6
           try clear q254
           obtain ⟨kq, x103_45, rfl, HA, HJ45, HO_5, HO_7, HO_8, BK227, HB⟩ := hcut
           cases kq with
           | zero => exact absurd HA.out (by simp [redraftlaw02_SpanBackAgain.j3])
           | succ kj45 =>
            have H := HA.out
            clear HA
            simp only [redraftlaw02_SpanBackAgain.j3] at H
            by_cases c53 : x103_45 = true
            ·subst c53
             have H1 : (some false) = some r := by rw [if_pos rfl] at H; exact H
             clear H
             have H := H1
             clear H1
             obtain rfl := Option.some.inj H
             go_wp2
             go_ret
             exact ⟨by first | rfl | (simp [errW_none, errW_some] <;> rfl) | (simp [*, errW_none, errW_some] <;> rfl), by repeat (first | (with_reducible first | exact HB.out | apply below_alloc | apply pw_below_drewN | apply below_drew1 | refine below_set ?_ GE227.out) | exact HB.out)⟩
            ·replace c53 := Bool.eq_false_iff.mpr c53
             subst c53
             have H1 : ((redraftlaw02_copied.f t244).bind fun t255 => ((span_Through.f kj45 t255 0 a0_3).bind fun bt258 => ((redraftlaw02_copied.f t243).bind fun t262 => ((span_Through.f kj45 t262 a0_3 a0_4).bind fun bt265 => ((redraftlaw02_num.f bt265.2).bind fun t269 => (if t269 = 21 then (redraftlaw02_SpanBackAgain.j4 kj45 t234 bt258.1 bt258.2 bt265.1 bt265.2 ((t243.length : Int) == 32768)) else (redraftlaw02_SpanBackAgain.j4 kj45 t234 bt258.1 bt258.2 bt265.1 bt265.2 false))))))) = some r := by rw [if_neg (show ¬ (false = true) by decide)] at H; exact H
             clear H
             have H := H1
             clear H1
             replace H := Option.bind_eq_some_iff.mp H
             obtain ⟨t255, A540, H⟩ := H
             replace H : ((span_Through.f kj45 t255 0 a0_3).bind fun bt258 => ((redraftlaw02_copied.f t243).bind fun t262 => ((span_Through.f kj45 t262 a0_3 a0_4).bind fun bt265 => ((redraftlaw02_num.f bt265.2).bind fun t269 => (if t269 = 21 then (redraftlaw02_SpanBackAgain.j4 kj45 t234 bt258.1 bt258.2 bt265.1 bt265.2 ((t243.length : Int) == 32768)) else (redraftlaw02_SpanBackAgain.j4 kj45 t234 bt258.1 bt258.2 bt265.1 bt265.2 false)))))) = some r := H
             have A54 := Aside0.mk A540
             clear A540
             replace H := Option.bind_eq_some_iff.mp H
             obtain ⟨⟨t258, t259⟩, A550, H⟩ := H
             replace H : ((redraftlaw02_copied.f t243).bind fun t262 => ((span_Through.f kj45 t262 a0_3 a0_4).bind fun bt265 => ((redraftlaw02_num.f bt265.2).bind fun t269 => (if t269 = 21 then (redraftlaw02_SpanBackAgain.j4 kj45 t234 t258 t259 bt265.1 bt265.2 ((t243.length : Int) == 32768)) else (redraftlaw02_SpanBackAgain.j4 kj45 t234 t258 t259 bt265.1 bt265.2 false))))) = some r := H
             have A55 := Aside0.mk A550
             clear A550
             replace H := Option.bind_eq_some_iff.mp H
             obtain ⟨t262, A560, H⟩ := H
             replace H : ((span_Through.f kj45 t262 a0_3 a0_4).bind fun bt265 => ((redraftlaw02_num.f bt265.2).bind fun t269 => (if t269 = 21 then (redraftlaw02_SpanBackAgain.j4 kj45 t234 t258 t259 bt265.1 bt265.2 ((t243.length : Int) == 32768)) else (redraftlaw02_SpanBackAgain.j4 kj45 t234 t258 t259 bt265.1 bt265.2 false)))) = some r := H
             have A56 := Aside0.mk A560
             clear A560
             replace H := Option.bind_eq_some_iff.mp H
             obtain ⟨⟨t265, t266⟩, A570, H⟩ := H
             replace H : ((redraftlaw02_num.f t266).bind fun t269 => (if t269 = 21 then (redraftlaw02_SpanBackAgain.j4 kj45 t234 t258 t259 t265 t266 ((t243.length : Int) == 32768)) else (redraftlaw02_SpanBackAgain.j4 kj45 t234 t258 t259 t265 t266 false))) = some r := H
             have A57 := Aside0.mk A570
             clear A570
             have HC58 := Aside0.mk H
             clear H
             obtain ⟨Ao59, co59, eo59⟩ := Kd.R_slice HO_8.out
             subst eo59
             go_upto_region 15 with (first | ((with_reducible refine gate_callee (f := 17) rfl ?_); refine goesL_ (some 106) rfl rfl Try.func17 (by kernel_rfl) rfl #[.slice Ao59 t244.length co59] rfl (by (try simp only [List.map_toArray, List.map_cons, List.map_nil]); first | done | rfl | (simp only [List.length_drop, List.length_take]; rfl)) ?_; (with_reducible refine (redraftlaw02_copied.calls _ _ t244 t255 _ ?side1 ?side2 A54.out).mono ?_); (case side1 => repeat (first | exact (Kd.R_reads' HO_8.out).2.2 | (with_reducible refine Kd.C_alloc ?_ _) | (with_reducible refine Kd.C_drewN ?_ _) | (with_reducible refine Kd.C_drew ?_))); (case side2 => exact (Kd.R_reads' HO_8.out).2.1); rintro e w60 ⟨v256, rfl, ho0, hb⟩; refine ⟨_, rfl, ?_⟩; have n0_ := Aside0.mk (Kd.R_elder' (by (with_reducible repeat (first | apply Kd.R_alloc | apply Kd.R_drewN | apply Kd.R_drew)); exact HO_5.out) (Kd.R_base ho0) hb); have n1_ := Aside0.mk (Kd.R_elder' (by (with_reducible repeat (first | apply Kd.R_alloc | apply Kd.R_drewN | apply Kd.R_drew)); exact HO_7.out) (Kd.R_base ho0) hb); have n2_ := Aside0.mk (Kd.R_elder' (by (with_reducible repeat (first | apply Kd.R_alloc | apply Kd.R_drewN | apply Kd.R_drew)); exact HO_8.out) (Kd.R_base ho0) hb); have n3_ := Aside0.mk (Kd.R_lower (Kd.R_new' (Kd.R_new' (Kd.R_new' ho0 (Kd.R_lt (by (with_reducible repeat (first | apply Kd.R_alloc | apply Kd.R_drewN | apply Kd.R_drew)); exact HO_5.out))) (Kd.R_lt (by (with_reducible repeat (first | apply Kd.R_alloc | apply Kd.R_drewN | apply Kd.R_drew)); exact HO_7.out))) (Kd.R_lt (by (with_reducible repeat (first | apply Kd.R_alloc | apply Kd.R_drewN | apply Kd.R_drew)); exact HO_8.out))) (below_size (by repeat (first | (with_reducible first | exact HB.out | apply below_alloc | apply pw_below_drewN | apply below_drew1 | refine below_set ?_ GE227.out) | exact HB.out)))); have n4_ := Aside0.mk (blk_below (g := gb227) (o := .cells #[.slice A0_0 l0_0.length c0_0, .slice A0_1 l0_1.length c0_1, .slice A0_2 l0_2.length c0_2, .int .i64 a0_3, .int .i64 a0_4] 25 (0, 0)) (by (with_reducible repeat (first | refine blk_drewN ?_ _ | refine blk_drew ?_ | refine blk_alloc ?_ _)); exact BK227.out) hb); have n5_ := Aside0.mk (below_step (by repeat (first | (with_reducible first | exact HB.out | apply below_alloc | apply pw_below_drewN | apply below_drew1 | refine below_set ?_ GE227.out) | exact HB.out)) hb); clear HO_5; clear HO_7; clear HO_8; clear BK227; clear HB; have HO_5 := n0_; have HO_7 := n1_; have HO_8 := n2_; have HO257 := n3_; have BK227 := n4_; have HB := n5_; clear n0_ n1_ n2_ n3_ n4_ n5_; (try clear hb); (try clear hb2); (try clear hk); (try clear hi); (try clear ho0); obtain ⟨Ao61, co61, eo61⟩ := Kd.R_slice HO257.out; subst eo61) | ((with_reducible refine gate_callee (f := 23) rfl ?_); refine goesL_ (some 108) rfl rfl Try.func23 (by kernel_rfl) rfl #[.slice Ao61 t255.length co61, .int .i64 0, .int .i64 a0_3] rfl (by (try simp only [List.map_toArray, List.map_cons, List.map_nil]); first | done | rfl | (simp only [List.length_drop, List.length_take]; rfl)) ?_; (with_reducible refine (span_Through.calls kj45 _ _ t255 0 a0_3 t258 t259 _ ?side1 ?side2 A55.out).mono ?_); (case side1 => repeat (first | exact (Kd.R_reads' HO257.out).2.2 | (with_reducible refine Kd.C_alloc ?_ _) | (with_reducible refine Kd.C_drewN ?_ _) | (with_reducible refine Kd.C_drew ?_))); (case side2 => exact (Kd.R_reads' HO257.out).2.1); rintro e w62 ⟨v260, rfl, ho0, hb⟩; refine ⟨_, rfl, ?_⟩; have n0_ := Aside0.mk (Kd.R_elder' (by (with_reducible repeat (first | apply Kd.R_alloc | apply Kd.R_drewN | apply Kd.R_drew)); exact HO_5.out) (Kd.R_base ho0) hb); have n1_ := Aside0.mk (Kd.R_elder' (by (with_reducible repeat (first | apply Kd.R_alloc | apply Kd.R_drewN | apply Kd.R_drew)); exact HO_7.out) (Kd.R_base ho0) hb); have n2_ := Aside0.mk (Kd.R_elder' (by (with_reducible repeat (first | apply Kd.R_alloc | apply Kd.R_drewN | apply Kd.R_drew)); exact HO_8.out) (Kd.R_base ho0) hb); have n3_ := Aside0.mk (Kd.R_elder' (by (with_reducible repeat (first | apply Kd.R_alloc | apply Kd.R_drewN | apply Kd.R_drew)); exact HO257.out) (Kd.R_base ho0) hb); have n4_ := Aside0.mk (Kd.R_lower (Kd.R_new' (Kd.R_new' (Kd.R_new' (Kd.R_new' ho0 (Kd.R_lt (by (with_reducible repeat (first | apply Kd.R_alloc | apply Kd.R_drewN | apply Kd.R_drew)); exact HO_5.out))) (Kd.R_lt (by (with_reducible repeat (first | apply Kd.R_alloc | apply Kd.R_drewN | apply Kd.R_drew)); exact HO_7.out))) (Kd.R_lt (by (with_reducible repeat (first | apply Kd.R_alloc | apply Kd.R_drewN | apply Kd.R_drew)); exact HO_8.out))) (Kd.R_lt (by (with_reducible repeat (first | apply Kd.R_alloc | apply Kd.R_drewN | apply Kd.R_drew)); exact HO257.out))) (below_size (by repeat (first | (with_reducible first | exact HB.out | apply below_alloc | apply pw_below_drewN | apply below_drew1 | refine below_set ?_ GE227.out) | exact HB.out)))); have n5_ := Aside0.mk (blk_below (g := gb227) (o := .cells #[.slice A0_0 l0_0.length c0_0, .slice A0_1 l0_1.length c0_1, .slice A0_2 l0_2.length c0_2, .int .i64 a0_3, .int .i64 a0_4] 25 (0, 0)) (by (with_reducible repeat (first | refine blk_drewN ?_ _ | refine blk_drew ?_ | refine blk_alloc ?_ _)); exact BK227.out) hb); have n6_ := Aside0.mk (below_step (by repeat (first | (with_reducible first | exact HB.out | apply below_alloc | apply pw_below_drewN | apply below_drew1 | refine below_set ?_ GE227.out) | exact HB.out)) hb); clear HO_5; clear HO_7; clear HO_8; clear HO257; clear BK227; clear HB; have HO_5 := n0_; have HO_7 := n1_; have HO_8 := n2_; have HO257 := n3_; have HO261 := n4_; have BK227 := n5_; have HB := n6_; clear n0_ n1_ n2_ n3_ n4_ n5_ n6_; (try clear hb); (try clear hb2); (try clear hk); (try clear hi); (try clear ho0); obtain ⟨Ao63, co63, eo63⟩ := Kd.R_slice HO_7.out; subst eo63) | ((with_reducible refine gate_callee (f := 17) rfl ?_); refine goesL_ (some 113) rfl rfl Try.func17 (by kernel_rfl) rfl #[.slice Ao63 t243.length co63] rfl (by (try simp only [List.map_toArray, List.map_cons, List.map_nil]); first | done | rfl | (simp only [List.length_drop, List.length_take]; rfl)) ?_; (with_reducible refine (redraftlaw02_copied.calls _ _ t243 t262 _ ?side1 ?side2 A56.out).mono ?_); (case side1 => repeat (first | exact (Kd.R_reads' HO_7.out).2.2 | (with_reducible refine Kd.C_alloc ?_ _) | (with_reducible refine Kd.C_drewN ?_ _) | (with_reducible refine Kd.C_drew ?_))); (case side2 => exact (Kd.R_reads' HO_7.out).2.1); rintro e w64 ⟨v263, rfl, ho0, hb⟩; refine ⟨_, rfl, ?_⟩; have n0_ := Aside0.mk (Kd.R_elder' (by (with_reducible repeat (first | apply Kd.R_alloc | apply Kd.R_drewN | apply Kd.R_drew)); exact HO_5.out) (Kd.R_base ho0) hb); have n1_ := Aside0.mk (Kd.R_elder' (by (with_reducible repeat (first | apply Kd.R_alloc | apply Kd.R_drewN | apply Kd.R_drew)); exact HO_7.out) (Kd.R_base ho0) hb); have n2_ := Aside0.mk (Kd.R_elder' (by (with_reducible repeat (first | apply Kd.R_alloc | apply Kd.R_drewN | apply Kd.R_drew)); exact HO_8.out) (Kd.R_base ho0) hb); have n3_ := Aside0.mk (Kd.R_elder' (by (with_reducible repeat (first | apply Kd.R_alloc | apply Kd.R_drewN | apply Kd.R_drew)); exact HO257.out) (Kd.R_base ho0) hb); have n4_ := Aside0.mk (Kd.R_elder' (by (with_reducible repeat (first | apply Kd.R_alloc | apply Kd.R_drewN | apply Kd.R_drew)); exact HO261.out) (Kd.R_base ho0) hb); have n5_ := Aside0.mk (Kd.R_lower (Kd.R_new' (Kd.R_new' (Kd.R_new' (Kd.R_new' (Kd.R_new' ho0 (Kd.R_lt (by (with_reducible repeat (first | apply Kd.R_alloc | apply Kd.R_drewN | apply Kd.R_drew)); exact HO_5.out))) (Kd.R_lt (by (with_reducible repeat (first | apply Kd.R_alloc | apply Kd.R_drewN | apply Kd.R_drew)); exact HO_7.out))) (Kd.R_lt (by (with_reducible repeat (first | apply Kd.R_alloc | apply Kd.R_drewN | apply Kd.R_drew)); exact HO_8.out))) (Kd.R_lt (by (with_reducible repeat (first | apply Kd.R_alloc | apply Kd.R_drewN | apply Kd.R_drew)); exact HO257.out))) (Kd.R_lt (by (with_reducible repeat (first | apply Kd.R_alloc | apply Kd.R_drewN | apply Kd.R_drew)); exact HO261.out))) (below_size (by repeat (first | (with_reducible first | exact HB.out | apply below_alloc | apply pw_below_drewN | apply below_drew1 | refine below_set ?_ GE227.out) | exact HB.out)))); have n6_ := Aside0.mk (blk_below (g := gb227) (o := .cells #[.slice A0_0 l0_0.length c0_0, .slice A0_1 l0_1.length c0_1, .slice A0_2 l0_2.length c0_2, .int .i64 a0_3, .int .i64 a0_4] 25 (0, 0)) (by (with_reducible repeat (first | refine blk_drewN ?_ _ | refine blk_drew ?_ | refine blk_alloc ?_ _)); exact BK227.out) hb); have n7_ := Aside0.mk (below_step (by repeat (first | (with_reducible first | exact HB.out | apply below_alloc | apply pw_below_drewN | apply below_drew1 | refine below_set ?_ GE227.out) | exact HB.out)) hb); clear HO_5; clear HO_7; clear HO_8; clear HO257; clear HO261; clear BK227; clear HB; have HO_5 := n0_; have HO_7 := n1_; have HO_8 := n2_; have HO257 := n3_; have HO261 := n4_; have HO264 := n5_; have BK227 := n6_; have HB := n7_; clear n0_ n1_ n2_ n3_ n4_ n5_ n6_ n7_; (try clear hb); (try clear hb2); (try clear hk); (try clear hi); (try clear ho0); obtain ⟨Ao65, co65, eo65⟩ := Kd.R_slice HO264.out; subst eo65) | ((with_reducible refine gate_callee (f := 23) rfl ?_); refine goesL_ (some 116) rfl rfl Try.func23 (by kernel_rfl) rfl #[.slice Ao65 t262.length co65, .int .i64 a0_3, .int .i64 a0_4] rfl (by (try simp only [List.map_toArray, List.map_cons, List.map_nil]); first | done | rfl | (simp only [List.length_drop, List.length_take]; rfl)) ?_; (with_reducible refine (span_Through.calls kj45 _ _ t262 a0_3 a0_4 t265 t266 _ ?side1 ?side2 A57.out).mono ?_); (case side1 => repeat (first | exact (Kd.R_reads' HO264.out).2.2 | (with_reducible refine Kd.C_alloc ?_ _) | (with_reducible refine Kd.C_drewN ?_ _) | (with_reducible refine Kd.C_drew ?_))); (case side2 => exact (Kd.R_reads' HO264.out).2.1); rintro e w66 ⟨v267, rfl, ho0, hb⟩; refine ⟨_, rfl, ?_⟩; have n0_ := Aside0.mk (Kd.R_elder' (by (with_reducible repeat (first | apply Kd.R_alloc | apply Kd.R_drewN | apply Kd.R_drew)); exact HO_5.out) (Kd.R_base ho0) hb); have n1_ := Aside0.mk (Kd.R_elder' (by (with_reducible repeat (first | apply Kd.R_alloc | apply Kd.R_drewN | apply Kd.R_drew)); exact HO_7.out) (Kd.R_base ho0) hb); have n2_ := Aside0.mk (Kd.R_elder' (by (with_reducible repeat (first | apply Kd.R_alloc | apply Kd.R_drewN | apply Kd.R_drew)); exact HO_8.out) (Kd.R_base ho0) hb); have n3_ := Aside0.mk (Kd.R_elder' (by (with_reducible repeat (first | apply Kd.R_alloc | apply Kd.R_drewN | apply Kd.R_drew)); exact HO257.out) (Kd.R_base ho0) hb); have n4_ := Aside0.mk (Kd.R_elder' (by (with_reducible repeat (first | apply Kd.R_alloc | apply Kd.R_drewN | apply Kd.R_drew)); exact HO261.out) (Kd.R_base ho0) hb); have n5_ := Aside0.mk (Kd.R_elder' (by (with_reducible repeat (first | apply Kd.R_alloc | apply Kd.R_drewN | apply Kd.R_drew)); exact HO264.out) (Kd.R_base ho0) hb); have n6_ := Aside0.mk (Kd.R_lower (Kd.R_new' (Kd.R_new' (Kd.R_new' (Kd.R_new' (Kd.R_new' (Kd.R_new' ho0 (Kd.R_lt (by (with_reducible repeat (first | apply Kd.R_alloc | apply Kd.R_drewN | apply Kd.R_drew)); exact HO_5.out))) (Kd.R_lt (by (with_reducible repeat (first | apply Kd.R_alloc | apply Kd.R_drewN | apply Kd.R_drew)); exact HO_7.out))) (Kd.R_lt (by (with_reducible repeat (first | apply Kd.R_alloc | apply Kd.R_drewN | apply Kd.R_drew)); exact HO_8.out))) (Kd.R_lt (by (with_reducible repeat (first | apply Kd.R_alloc | apply Kd.R_drewN | apply Kd.R_drew)); exact HO257.out))) (Kd.R_lt (by (with_reducible repeat (first | apply Kd.R_alloc | apply Kd.R_drewN | apply Kd.R_drew)); exact HO261.out))) (Kd.R_lt (by (with_reducible repeat (first | apply Kd.R_alloc | apply Kd.R_drewN | apply Kd.R_drew)); exact HO264.out))) (below_size (by repeat (first | (with_reducible first | exact HB.out | apply below_alloc | apply pw_below_drewN | apply below_drew1 | refine below_set ?_ GE227.out) | exact HB.out)))); have n7_ := Aside0.mk (blk_below (g := gb227) (o := .cells #[.slice A0_0 l0_0.length c0_0, .slice A0_1 l0_1.length c0_1, .slice A0_2 l0_2.length c0_2, .int .i64 a0_3, .int .i64 a0_4] 25 (0, 0)) (by (with_reducible repeat (first | refine blk_drewN ?_ _ | refine blk_drew ?_ | refine blk_alloc ?_ _)); exact BK227.out) hb); have n8_ := Aside0.mk (below_step (by repeat (first | (with_reducible first | exact HB.out | apply below_alloc | apply pw_below_drewN | apply below_drew1 | refine below_set ?_ GE227.out) | exact HB.out)) hb); clear HO_5; clear HO_7; clear HO_8; clear HO257; clear HO261; clear HO264; clear BK227; clear HB; have HO_5 := n0_; have HO_7 := n1_; have HO_8 := n2_; have HO257 := n3_; have HO261 := n4_; have HO264 := n5_; have HO268 := n6_; have BK227 := n7_; have HB := n8_; clear n0_ n1_ n2_ n3_ n4_ n5_ n6_ n7_ n8_; (try clear hb); (try clear hb2); (try clear hk); (try clear hi); (try clear ho0)))
             (try simp only [Act.put, List.setIfInBounds_toArray, List.set_cons_zero, List.set_cons_succ])
             go_cut [126] (fun v126 wc => ∃ (kq : Nat) (x126_57 : Bool), v126 = .bool x126_57 ∧ Aside0 (redraftlaw02_SpanBackAgain.j4 kq t234 t258 t259 t265 t266 x126_57 = some r) ∧ Aside0 (kq ≤ kj45) ∧ Aside0 (Kd.R k36 36 wc w.heap.size (fun k_ => some k_ ≠ (v260 : Value).ownBlock ∧ some k_ ≠ (v267 : Value).ownBlock) (.slice Ao21 t234.length co21) t234) ∧ Aside0 (Kd.R k36 36 wc w.heap.size (fun k_ => some k_ ≠ ((.slice Ao21 t234.length co21) : Value).ownBlock ∧ some k_ ≠ (v267 : Value).ownBlock) v260 t258) ∧ Aside0 (Kd.R k36 36 wc w.heap.size (fun k_ => some k_ ≠ ((.slice Ao21 t234.length co21) : Value).ownBlock ∧ some k_ ≠ (v260 : Value).ownBlock) v267 t265) ∧ Aside0 (wc.heap[gb227]? = some (.cells #[(.slice A0_0 l0_0.length c0_0), (.slice A0_1 l0_1.length c0_1), (.slice A0_2 l0_2.length c0_2), .int .i64 a0_3, .int .i64 a0_4] 25 (0, 0))) ∧ Aside0 (Below w.heap.size w wc))
             case first =>
              have H := HC58.out
              clear HC58
              replace H := Option.bind_eq_some_iff.mp H
              obtain ⟨t269, A670, H⟩ := H
              replace H : (if t269 = 21 then (redraftlaw02_SpanBackAgain.j4 kj45 t234 t258 t259 t265 t266 ((t243.length : Int) == 32768)) else (redraftlaw02_SpanBackAgain.j4 kj45 t234 t258 t259 t265 t266 false)) = some r := H
              have A67 := Aside0.mk A670
              clear A670
              by_cases c68 : t269 = 21
              ·rw [if_pos c68] at H
               have c68b0 : (t269 == 21) = true := beq_iff_eq.mpr c68
               have c68b1 : (t269 != 21) = false := bne_eq_false_iff_eq.mpr c68
               clear c68
               (first | rw [c68b0] | (simp only [i64_w, i32_w]; rw [c68b0]) | skip)
               have H' := Aside0.mk H
               clear H
               go_wp2_with (first | ((with_reducible refine gate_callee (f := 19) rfl ?_); refine goesL_ (some 120) rfl rfl Try.func19 (by kernel_rfl) rfl #[.int .i64 t266] rfl (by (try simp only [List.map_toArray, List.map_cons, List.map_nil]); first | done | rfl | (simp only [List.length_drop, List.length_take]; rfl)) ?_; (with_reducible refine (redraftlaw02_num.calls t266 t269 _ A67.out).mono ?_); rintro e w' ⟨rfl, ⟨nd, rfl⟩⟩; refine ⟨_, rfl, ?_⟩))
               go_meet
               case rel => exact ⟨_, (((t243.length : Int) == 32768)), (by first | rfl | (simp; done) | (simp [*]; done)), H', ⟨by have := HJ4.out; have := HJ19.out; have := HJ35.out; have := HJ45.out; first | omega | exact Nat.le_refl _⟩, ⟨by (with_reducible repeat (first | apply Kd.R_alloc | apply Kd.R_drewN | apply Kd.R_drew)); exact Kd.R_mono HO_5.out (fun _ hk => ⟨hk.1.1.2, hk.2⟩)⟩, ⟨by (with_reducible repeat (first | apply Kd.R_alloc | apply Kd.R_drewN | apply Kd.R_drew)); exact Kd.R_mono HO261.out (fun _ hk => ⟨hk.1.1.1.1.1.2, hk.2⟩)⟩, ⟨by (with_reducible repeat (first | apply Kd.R_alloc | apply Kd.R_drewN | apply Kd.R_drew)); exact Kd.R_mono HO268.out (fun _ hk => ⟨hk.1.1.1.1.1.2, hk.1.2⟩)⟩, ⟨by (with_reducible repeat (first | refine blk_drewN ?_ _ | refine blk_drew ?_ | refine blk_alloc ?_ _)); exact BK227.out⟩, ⟨by repeat (first | (with_reducible first | exact HB.out | apply below_alloc | apply pw_below_drewN | apply below_drew1 | refine below_set ?_ GE227.out) | exact HB.out)⟩⟩
              ·rw [if_neg c68] at H
               have c68b0 : (t269 == 21) = false := beq_eq_false_iff_ne.mpr c68
               have c68b1 : (t269 != 21) = true := bne_iff_ne.mpr c68
               (first | rw [c68b0] | (simp only [i64_w, i32_w]; rw [c68b0]) | skip)
               have H' := Aside0.mk H
               clear H
               go_wp2_with (first | ((with_reducible refine gate_callee (f := 19) rfl ?_); refine goesL_ (some 120) rfl rfl Try.func19 (by kernel_rfl) rfl #[.int .i64 t266] rfl (by (try simp only [List.map_toArray, List.map_cons, List.map_nil]); first | done | rfl | (simp only [List.length_drop, List.length_take]; rfl)) ?_; (with_reducible refine (redraftlaw02_num.calls t266 t269 _ A67.out).mono ?_); rintro e w' ⟨rfl, ⟨nd, rfl⟩⟩; refine ⟨_, rfl, ?_⟩))
               go_meet
               case rel => exact ⟨_, (false), (by first | rfl | (simp; done) | (simp [*]; done)), H', ⟨by have := HJ4.out; have := HJ19.out; have := HJ35.out; have := HJ45.out; first | omega | exact Nat.le_refl _⟩, ⟨by (with_reducible repeat (first | apply Kd.R_alloc | apply Kd.R_drewN | apply Kd.R_drew)); exact Kd.R_mono HO_5.out (fun _ hk => ⟨hk.1.1.2, hk.2⟩)⟩, ⟨by (with_reducible repeat (first | apply Kd.R_alloc | apply Kd.R_drewN | apply Kd.R_drew)); exact Kd.R_mono HO261.out (fun _ hk => ⟨hk.1.1.1.1.1.2, hk.2⟩)⟩, ⟨by (with_reducible repeat (first | apply Kd.R_alloc | apply Kd.R_drewN | apply Kd.R_drew)); exact Kd.R_mono HO268.out (fun _ hk => ⟨hk.1.1.1.1.1.2, hk.1.2⟩)⟩, ⟨by (with_reducible repeat (first | refine blk_drewN ?_ _ | refine blk_drew ?_ | refine blk_alloc ?_ _)); exact BK227.out⟩, ⟨by repeat (first | (with_reducible first | exact HB.out | apply below_alloc | apply pw_below_drewN | apply below_drew1 | refine below_set ?_ GE227.out) | exact HB.out)⟩⟩
             case rest =>
              clear HC58
              try clear c1
              try clear c2
              try clear p2
              try clear q2
              try clear hx2
              try clear c3
              try clear c4
              try clear c5
              try clear c6
              try clear p6
              try clear c14
              try clear c14b0
              try clear c14b1
              try clear c16
              try clear c17
              try clear c18
              try clear c19
              try clear c21
              try clear c23
              try clear c25
              try clear c25b0
              try clear p25
              try clear q25
              try clear hx25
              try clear c26
              try clear c26b0
              try clear c27
              try clear c27b0
              try clear c28
              try clear c28b0
              try clear c29
              try clear c31
              try clear c31b0
              try clear c31b1
              try clear c32
              try clear c32b0
              try clear c32b1
              try clear c32b2
              try clear c38
              try clear c38b0
              try clear c38b1
              try clear c40
              try clear c45
              try clear c47
              try clear c47b0
              try clear c47b1
              try clear c49
              try clear c49b0
              try clear c50
              try clear c50b0
              try clear c53
              try clear p64
              try clear c68
              try clear c68b0
              try clear c68b1
              try clear hcz7_0
              try clear hcz7_1
              try clear hcz7_2
              try clear hcz7_3
              try clear hcz7_4
              try clear hfz7_0
              try clear hfz7_1
              try clear hfz7_2
              try clear hfz7_3
              try clear hfz7_4
              try clear hx254_0
              try clear hx254_1
              try clear p2
              try clear p25
              try clear p254
              try clear p6
              try clear q2
              try clear q25
              try clear q254
              obtain ⟨kq, x126_57, rfl, HA, HJ57, HO_5, HO_10, HO_12, BK227, HB⟩ := hcut
              cases kq with
              | zero => exact absurd HA.out (by simp [redraftlaw02_SpanBackAgain.j4])
              | succ kj57 =>
               have H := HA.out
               clear HA
               simp only [redraftlaw02_SpanBackAgain.j4] at H
               by_cases c69 : x126_57 = true
               ·subst c69
                have H1 : (some ((t265.length : Int) == 0)) = some r := by rw [if_pos rfl] at H; exact H
                clear H
                have H := H1
                clear H1
                obtain rfl := Option.some.inj H
                obtain ⟨Ao70, co70, eo70⟩ := Kd.R_slice HO_12.out
                subst eo70
                go_wp2
                go_ret
                exact ⟨by first | rfl | (simp [errW_none, errW_some] <;> rfl) | (simp [*, errW_none, errW_some] <;> rfl), by repeat (first | (with_reducible first | exact HB.out | apply below_alloc | apply pw_below_drewN | apply below_drew1 | refine below_set ?_ GE227.out) | exact HB.out)⟩
               ·replace c69 := Bool.eq_false_iff.mpr c69
                subst c69
                have H1 : ((redraftlaw02_num.f t259).bind fun t270 => (if t270 = 0 then ((redraftlaw02_num.f t266).bind fun t271 => (redraftlaw02_SpanBackAgain.j5 kj57 t234 t258 t265 (t271 != 0))) else (redraftlaw02_SpanBackAgain.j5 kj57 t234 t258 t265 true))) = some r := by rw [if_neg (show ¬ (false = true) by decide)] at H; exact H
                clear H
                have H := H1
                clear H1
                have HC71 := Aside0.mk H
                clear H
                go_upto_region 17 with (fail)
                go_cut [137] (fun v137 wc => ∃ (kq : Nat) (x137_70 : Bool), v137 = .bool x137_70 ∧ Aside0 (redraftlaw02_SpanBackAgain.j5 kq t234 t258 t265 x137_70 = some r) ∧ Aside0 (kq ≤ kj57) ∧ Aside0 (Kd.R k36 36 wc w.heap.size (fun k_ => some k_ ≠ (v260 : Value).ownBlock ∧ some k_ ≠ (v267 : Value).ownBlock) (.slice Ao21 t234.length co21) t234) ∧ Aside0 (Kd.R k36 36 wc w.heap.size (fun k_ => some k_ ≠ ((.slice Ao21 t234.length co21) : Value).ownBlock ∧ some k_ ≠ (v267 : Value).ownBlock) v260 t258) ∧ Aside0 (Kd.R k36 36 wc w.heap.size (fun k_ => some k_ ≠ ((.slice Ao21 t234.length co21) : Value).ownBlock ∧ some k_ ≠ (v260 : Value).ownBlock) v267 t265) ∧ Aside0 (wc.heap[gb227]? = some (.cells #[(.slice A0_0 l0_0.length c0_0), (.slice A0_1 l0_1.length c0_1), (.slice A0_2 l0_2.length c0_2), .int .i64 a0_3, .int .i64 a0_4] 25 (0, 0))) ∧ Aside0 (Below w.heap.size w wc))
                case first =>
                 have H := HC71.out
                 clear HC71
                 replace H := Option.bind_eq_some_iff.mp H
                 obtain ⟨t270, A720, H⟩ := H
                 replace H : (if t270 = 0 then ((redraftlaw02_num.f t266).bind fun t271 => (redraftlaw02_SpanBackAgain.j5 kj57 t234 t258 t265 (t271 != 0))) else (redraftlaw02_SpanBackAgain.j5 kj57 t234 t258 t265 true)) = some r := H
                 have A72 := Aside0.mk A720
                 clear A720
                 by_cases c73 : t270 = 0
                 ·rw [if_pos c73] at H
                  have c73b0 : (t270 == 0) = true := beq_iff_eq.mpr c73
                  have c73b1 : (t270 != 0) = false := bne_eq_false_iff_eq.mpr c73
                  clear c73
                  (first | rw [c73b0] | (simp only [i64_w, i32_w]; rw [c73b0]) | skip)
                  replace H := Option.bind_eq_some_iff.mp H
                  obtain ⟨t271, A740, H⟩ := H
                  replace H : (redraftlaw02_SpanBackAgain.j5 kj57 t234 t258 t265 (t271 != 0)) = some r := H
                  have A74 := Aside0.mk A740
                  clear A740
                  have H' := Aside0.mk H
                  clear H
                  go_wp2_with (first | ((with_reducible refine gate_callee (f := 19) rfl ?_); refine goesL_ (some 131) rfl rfl Try.func19 (by kernel_rfl) rfl #[.int .i64 t259] rfl (by (try simp only [List.map_toArray, List.map_cons, List.map_nil]); first | done | rfl | (simp only [List.length_drop, List.length_take]; rfl)) ?_; (with_reducible refine (redraftlaw02_num.calls t259 t270 _ A72.out).mono ?_); rintro e w' ⟨rfl, ⟨nd, rfl⟩⟩; refine ⟨_, rfl, ?_⟩) | (go_at_call 19; (with_reducible refine (redraftlaw02_num.calls t266 t271 _ A74.out).mono ?_); rintro e w' ⟨rfl, ⟨nd, rfl⟩⟩))
                  go_meet
                  case rel => exact ⟨_, ((t271 != 0)), (by first | rfl | (simp; done) | (simp [*]; done)), H', ⟨by have := HJ4.out; have := HJ19.out; have := HJ35.out; have := HJ45.out; have := HJ57.out; first | omega | exact Nat.le_refl _⟩, ⟨by (with_reducible repeat (first | apply Kd.R_alloc | apply Kd.R_drewN | apply Kd.R_drew)); exact HO_5.out⟩, ⟨by (with_reducible repeat (first | apply Kd.R_alloc | apply Kd.R_drewN | apply Kd.R_drew)); exact HO_10.out⟩, ⟨by (with_reducible repeat (first | apply Kd.R_alloc | apply Kd.R_drewN | apply Kd.R_drew)); exact HO_12.out⟩, ⟨by (with_reducible repeat (first | refine blk_drewN ?_ _ | refine blk_drew ?_ | refine blk_alloc ?_ _)); exact BK227.out⟩, ⟨by repeat (first | (with_reducible first | exact HB.out | apply below_alloc | apply pw_below_drewN | apply below_drew1 | refine below_set ?_ GE227.out) | exact HB.out)⟩⟩
                 ·rw [if_neg c73] at H
                  have c73b0 : (t270 == 0) = false := beq_eq_false_iff_ne.mpr c73
                  have c73b1 : (t270 != 0) = true := bne_iff_ne.mpr c73
                  (first | rw [c73b0] | (simp only [i64_w, i32_w]; rw [c73b0]) | skip)
                  have H' := Aside0.mk H
                  clear H
                  go_wp2_with (first | ((with_reducible refine gate_callee (f := 19) rfl ?_); refine goesL_ (some 131) rfl rfl Try.func19 (by kernel_rfl) rfl #[.int .i64 t259] rfl (by (try simp only [List.map_toArray, List.map_cons, List.map_nil]); first | done | rfl | (simp only [List.length_drop, List.length_take]; rfl)) ?_; (with_reducible refine (redraftlaw02_num.calls t259 t270 _ A72.out).mono ?_); rintro e w' ⟨rfl, ⟨nd, rfl⟩⟩; refine ⟨_, rfl, ?_⟩))
                  go_meet
                  case rel => exact ⟨_, (true), (by first | rfl | (simp; done) | (simp [*]; done)), H', ⟨by have := HJ4.out; have := HJ19.out; have := HJ35.out; have := HJ45.out; have := HJ57.out; first | omega | exact Nat.le_refl _⟩, ⟨by (with_reducible repeat (first | apply Kd.R_alloc | apply Kd.R_drewN | apply Kd.R_drew)); exact HO_5.out⟩, ⟨by (with_reducible repeat (first | apply Kd.R_alloc | apply Kd.R_drewN | apply Kd.R_drew)); exact HO_10.out⟩, ⟨by (with_reducible repeat (first | apply Kd.R_alloc | apply Kd.R_drewN | apply Kd.R_drew)); exact HO_12.out⟩, ⟨by (with_reducible repeat (first | refine blk_drewN ?_ _ | refine blk_drew ?_ | refine blk_alloc ?_ _)); exact BK227.out⟩, ⟨by repeat (first | (with_reducible first | exact HB.out | apply below_alloc | apply pw_below_drewN | apply below_drew1 | refine below_set ?_ GE227.out) | exact HB.out)⟩⟩
                case rest =>
                 clear HC71
                 try clear c1
                 try clear c2
                 try clear p2
                 try clear q2
                 try clear hx2
                 try clear c3
                 try clear c4
                 try clear c5
                 try clear c6
                 try clear p6
                 try clear c7
                 try clear c14
                 try clear c14b0
                 try clear c14b1
                 try clear c16
                 try clear c17
                 try clear c18
                 try clear c19
                 try clear c21
                 try clear c23
                 try clear c25
                 try clear c25b0
                 try clear p25
                 try clear q25
                 try clear hx25
                 try clear c26
                 try clear c26b0
                 try clear c27
                 try clear c27b0
                 try clear c28
                 try clear c28b0
                 try clear c29
                 try clear c31
                 try clear c31b0
                 try clear c31b1
                 try clear c32
                 try clear c32b0
                 try clear c32b1
                 try clear c32b2
                 try clear c38
                 try clear c38b0
                 try clear c38b1
                 try clear c40
                 try clear c45
                 try clear c47
                 try clear c47b0
                 try clear c47b1
                 try clear c49
                 try clear c49b0
                 try clear c50
                 try clear c50b0
                 try clear c53
                 try clear p64
                 try clear c68
                 try clear c68b0
                 try clear c68b1
                 try clear c69
                 try clear c73
                 try clear c73b0
                 try clear c73b1
                 try clear hcz7_0
                 try clear hcz7_1
                 try clear hcz7_2
                 try clear hcz7_3
                 try clear hcz7_4
                 try clear hfz7_0
                 try clear hfz7_1
                 try clear hfz7_2
                 try clear hfz7_3
                 try clear hfz7_4
                 try clear hx254_0
                 try clear hx254_1
                 try clear p2
                 try clear p25
                 try clear p254
                 try clear p6
                 try clear p64
                 try clear q2
                 try clear q25
                 try clear q254
                 obtain ⟨kq, x137_70, rfl, HA, HJ70, HO_5, HO_10, HO_12, BK227, HB⟩ := hcut
                 cases kq with
                 | zero => exact absurd HA.out (by simp [redraftlaw02_SpanBackAgain.j5])
                 | succ kj70 =>
                  have H := HA.out
                  clear HA
                  simp only [redraftlaw02_SpanBackAgain.j5] at H
                  by_cases c75 : x137_70 = true
                  ·subst c75
                   have H1 : (some false) = some r := by rw [if_pos rfl] at H; exact H
                   clear H
                   have H := H1
                   clear H1
                   obtain rfl := Option.some.inj H
                   go_wp2
                   go_ret
                   exact ⟨by first | rfl | (simp [errW_none, errW_some] <;> rfl) | (simp [*, errW_none, errW_some] <;> rfl), by repeat (first | (with_reducible first | exact HB.out | apply below_alloc | apply pw_below_drewN | apply below_drew1 | refine below_set ?_ GE227.out) | exact HB.out)⟩
                  ·replace c75 := Bool.eq_false_iff.mpr c75
                   subst c75
                   have H1 : ((span_Union.f kj70 t265 t258).bind fun bt272 => ((redraftlaw02_num.f bt272.2).bind fun t276 => (if t276 = 0 then ((redraftlaw02_same.f kj70 bt272.1 t234).bind fun t277 => (some t277)) else (some false)))) = some r := by rw [if_neg (show ¬ (false = true) by decide)] at H; exact H
                   clear H
                   have H := H1
                   clear H1
                   replace H := Option.bind_eq_some_iff.mp H
                   obtain ⟨⟨t272, t275⟩, A760, H⟩ := H
                   replace H : ((redraftlaw02_num.f t275).bind fun t276 => (if t276 = 0 then ((redraftlaw02_same.f kj70 t272 t234).bind fun t277 => (some t277)) else (some false))) = some r := H
                   have A76 := Aside0.mk A760
                   clear A760
                   replace H := Option.bind_eq_some_iff.mp H
                   obtain ⟨t276, A770, H⟩ := H
                   replace H : (if t276 = 0 then ((redraftlaw02_same.f kj70 t272 t234).bind fun t277 => (some t277)) else (some false)) = some r := H
                   have A77 := Aside0.mk A770
                   clear A770
                   by_cases c78 : t276 = 0
                   ·rw [if_pos c78] at H
                    have c78b0 : (t276 == 0) = true := beq_iff_eq.mpr c78
                    have c78b1 : (t276 != 0) = false := bne_eq_false_iff_eq.mpr c78
                    clear c78
                    replace H := Option.bind_eq_some_iff.mp H
                    obtain ⟨t277, A790, H⟩ := H
                    replace H : (some t277) = some r := H
                    have A79 := Aside0.mk A790
                    clear A790
                    obtain rfl := Option.some.inj H
                    obtain ⟨Ao80, co80, eo80⟩ := Kd.R_slice HO_12.out
                    subst eo80
                    obtain ⟨Ao81, co81, eo81⟩ := Kd.R_slice HO_10.out
                    subst eo81
                    go_wp2_with (first | ((with_reducible refine gate_callee (f := 24) rfl ?_); refine goesL_ (some 141) rfl rfl Try.func24 (by kernel_rfl) rfl #[.slice Ao80 t265.length co80, .slice Ao81 t258.length co81] rfl (by (try simp only [List.map_toArray, List.map_cons, List.map_nil]); first | done | rfl | (simp only [List.length_drop, List.length_take]; rfl)) ?_; (with_reducible refine (span_Union.calls kj70 (fun k_ => some k_ = (.slice Ao80 t265.length co80 : Value).ownBlock) _ _ t265 (fun k_ => some k_ = (.slice Ao81 t258.length co81 : Value).ownBlock) _ _ t258 t272 t275 _ ?side1 ?side2 A76.out).mono ?_); (case side1 => exact Kd.R_V (Kd.R_tight rfl (Kd.R_types (HO_12.out) BK227.out (by decide)))); (case side2 => exact Kd.R_V (Kd.R_tight rfl (Kd.R_types (HO_10.out) BK227.out (by decide)))); rintro e w82 ⟨v273, rfl, ho0, hb⟩; refine ⟨_, rfl, ?_⟩; have n0_ := Aside0.mk (Kd.R_elder' (by (with_reducible repeat (first | apply Kd.R_alloc | apply Kd.R_drewN | apply Kd.R_drew)); exact HO_5.out) (Kd.R_base ho0) hb); have n1_ := Aside0.mk (Kd.R_elder' (by (with_reducible repeat (first | apply Kd.R_alloc | apply Kd.R_drewN | apply Kd.R_drew)); exact HO_10.out) (Kd.R_base ho0) hb); have n2_ := Aside0.mk (Kd.R_elder' (by (with_reducible repeat (first | apply Kd.R_alloc | apply Kd.R_drewN | apply Kd.R_drew)); exact HO_12.out) (Kd.R_base ho0) hb); have n3_ := Aside0.mk (Kd.R_lower (Kd.R_new' (Kd.R_new' (Kd.R_new' (Kd.R_mono (ok' := fun k_ => True) ho0 (fun _ hk_ => trivial)) (Kd.R_lt (by (with_reducible repeat (first | apply Kd.R_alloc | apply Kd.R_drewN | apply Kd.R_drew)); exact HO_5.out))) (Kd.R_lt (by (with_reducible repeat (first | apply Kd.R_alloc | apply Kd.R_drewN | apply Kd.R_drew)); exact HO_10.out))) (Kd.R_lt (by (with_reducible repeat (first | apply Kd.R_alloc | apply Kd.R_drewN | apply Kd.R_drew)); exact HO_12.out))) (below_size (by repeat (first | (with_reducible first | exact HB.out | apply below_alloc | apply pw_below_drewN | apply below_drew1 | refine below_set ?_ GE227.out) | exact HB.out)))); have n4_ := Aside0.mk (blk_below (g := gb227) (o := .cells #[.slice A0_0 l0_0.length c0_0, .slice A0_1 l0_1.length c0_1, .slice A0_2 l0_2.length c0_2, .int .i64 a0_3, .int .i64 a0_4] 25 (0, 0)) (by (with_reducible repeat (first | refine blk_drewN ?_ _ | refine blk_drew ?_ | refine blk_alloc ?_ _)); exact BK227.out) hb); have n5_ := Aside0.mk (below_step (by repeat (first | (with_reducible first | exact HB.out | apply below_alloc | apply pw_below_drewN | apply below_drew1 | refine below_set ?_ GE227.out) | exact HB.out)) hb); clear HO_5; clear HO_10; clear HO_12; clear BK227; clear HB; have HO_5 := n0_; have HO_10 := n1_; have HO_12 := n2_; have HO274 := n3_; have BK227 := n4_; have HB := n5_; clear n0_ n1_ n2_ n3_ n4_ n5_; (try clear hb); (try clear hb2); (try clear hk); (try clear hi); (try clear ho0)) | ((with_reducible refine gate_callee (f := 19) rfl ?_); refine goesL_ (some 145) rfl rfl Try.func19 (by kernel_rfl) rfl #[.int .i64 t275] rfl (by (try simp only [List.map_toArray, List.map_cons, List.map_nil]); first | done | rfl | (simp only [List.length_drop, List.length_take]; rfl)) ?_; (with_reducible refine (redraftlaw02_num.calls t275 t276 _ A77.out).mono ?_); rintro e w' ⟨rfl, ⟨nd, rfl⟩⟩; refine ⟨_, rfl, ?_⟩; obtain ⟨Ao83, co83, eo83⟩ := Kd.R_slice HO274.out; subst eo83) | (go_at_call 25; (with_reducible refine (redraftlaw02_same.calls kj70 _ _ t272 _ _ t234 t277 _ ?side1 ?side2 ?side3 ?side4 A79.out).mono ?_); (case side1 => repeat (first | exact (Kd.R_reads' HO274.out).2.2 | (with_reducible refine Kd.C_alloc ?_ _) | (with_reducible refine Kd.C_drewN ?_ _) | (with_reducible refine Kd.C_drew ?_))); (case side2 => exact (Kd.R_reads' HO274.out).2.1); (case side3 => repeat (first | exact (Kd.R_reads' HO_5.out).2.2 | (with_reducible refine Kd.C_alloc ?_ _) | (with_reducible refine Kd.C_drewN ?_ _) | (with_reducible refine Kd.C_drew ?_))); (case side4 => exact (Kd.R_reads' HO_5.out).2.1); rintro e w' ⟨rfl, ⟨nd, rfl⟩⟩))
                    go_ret
                    exact ⟨by first | rfl | (simp [errW_none, errW_some] <;> rfl) | (simp [*, errW_none, errW_some] <;> rfl), by repeat (first | (with_reducible first | exact HB.out | apply below_alloc | apply pw_below_drewN | apply below_drew1 | refine below_set ?_ GE227.out) | exact HB.out)⟩
                   ·rw [if_neg c78] at H
                    have c78b0 : (t276 == 0) = false := beq_eq_false_iff_ne.mpr c78
                    have c78b1 : (t276 != 0) = true := bne_iff_ne.mpr c78
                    obtain rfl := Option.some.inj H
                    obtain ⟨Ao84, co84, eo84⟩ := Kd.R_slice HO_12.out
                    subst eo84
                    obtain ⟨Ao85, co85, eo85⟩ := Kd.R_slice HO_10.out
                    subst eo85
                    go_wp2_with (first | ((with_reducible refine gate_callee (f := 24) rfl ?_); refine goesL_ (some 141) rfl rfl Try.func24 (by kernel_rfl) rfl #[.slice Ao84 t265.length co84, .slice Ao85 t258.length co85] rfl (by (try simp only [List.map_toArray, List.map_cons, List.map_nil]); first | done | rfl | (simp only [List.length_drop, List.length_take]; rfl)) ?_; (with_reducible refine (span_Union.calls kj70 (fun k_ => some k_ = (.slice Ao84 t265.length co84 : Value).ownBlock) _ _ t265 (fun k_ => some k_ = (.slice Ao85 t258.length co85 : Value).ownBlock) _ _ t258 t272 t275 _ ?side1 ?side2 A76.out).mono ?_); (case side1 => exact Kd.R_V (Kd.R_tight rfl (Kd.R_types (HO_12.out) BK227.out (by decide)))); (case side2 => exact Kd.R_V (Kd.R_tight rfl (Kd.R_types (HO_10.out) BK227.out (by decide)))); rintro e w86 ⟨v273, rfl, ho0, hb⟩; refine ⟨_, rfl, ?_⟩; have n0_ := Aside0.mk (Kd.R_elder' (by (with_reducible repeat (first | apply Kd.R_alloc | apply Kd.R_drewN | apply Kd.R_drew)); exact HO_5.out) (Kd.R_base ho0) hb); have n1_ := Aside0.mk (Kd.R_elder' (by (with_reducible repeat (first | apply Kd.R_alloc | apply Kd.R_drewN | apply Kd.R_drew)); exact HO_10.out) (Kd.R_base ho0) hb); have n2_ := Aside0.mk (Kd.R_elder' (by (with_reducible repeat (first | apply Kd.R_alloc | apply Kd.R_drewN | apply Kd.R_drew)); exact HO_12.out) (Kd.R_base ho0) hb); have n3_ := Aside0.mk (Kd.R_lower (Kd.R_new' (Kd.R_new' (Kd.R_new' (Kd.R_mono (ok' := fun k_ => True) ho0 (fun _ hk_ => trivial)) (Kd.R_lt (by (with_reducible repeat (first | apply Kd.R_alloc | apply Kd.R_drewN | apply Kd.R_drew)); exact HO_5.out))) (Kd.R_lt (by (with_reducible repeat (first | apply Kd.R_alloc | apply Kd.R_drewN | apply Kd.R_drew)); exact HO_10.out))) (Kd.R_lt (by (with_reducible repeat (first | apply Kd.R_alloc | apply Kd.R_drewN | apply Kd.R_drew)); exact HO_12.out))) (below_size (by repeat (first | (with_reducible first | exact HB.out | apply below_alloc | apply pw_below_drewN | apply below_drew1 | refine below_set ?_ GE227.out) | exact HB.out)))); have n4_ := Aside0.mk (blk_below (g := gb227) (o := .cells #[.slice A0_0 l0_0.length c0_0, .slice A0_1 l0_1.length c0_1, .slice A0_2 l0_2.length c0_2, .int .i64 a0_3, .int .i64 a0_4] 25 (0, 0)) (by (with_reducible repeat (first | refine blk_drewN ?_ _ | refine blk_drew ?_ | refine blk_alloc ?_ _)); exact BK227.out) hb); have n5_ := Aside0.mk (below_step (by repeat (first | (with_reducible first | exact HB.out | apply below_alloc | apply pw_below_drewN | apply below_drew1 | refine below_set ?_ GE227.out) | exact HB.out)) hb); clear HO_5; clear HO_10; clear HO_12; clear BK227; clear HB; have HO_5 := n0_; have HO_10 := n1_; have HO_12 := n2_; have HO274 := n3_; have BK227 := n4_; have HB := n5_; clear n0_ n1_ n2_ n3_ n4_ n5_; (try clear hb); (try clear hb2); (try clear hk); (try clear hi); (try clear ho0)) | ((with_reducible refine gate_callee (f := 19) rfl ?_); refine goesL_ (some 145) rfl rfl Try.func19 (by kernel_rfl) rfl #[.int .i64 t275] rfl (by (try simp only [List.map_toArray, List.map_cons, List.map_nil]); first | done | rfl | (simp only [List.length_drop, List.length_take]; rfl)) ?_; (with_reducible refine (redraftlaw02_num.calls t275 t276 _ A77.out).mono ?_); rintro e w' ⟨rfl, ⟨nd, rfl⟩⟩; refine ⟨_, rfl, ?_⟩))
                    go_ret
                    exact ⟨by first | rfl | (simp [errW_none, errW_some] <;> rfl) | (simp [*, errW_none, errW_some] <;> rfl), by repeat (first | (with_reducible first | exact HB.out | apply below_alloc | apply pw_below_drewN | apply below_drew1 | refine below_set ?_ GE227.out) | exact HB.out)⟩
end Go.Proofs.Ytmidiifgdloojaa.Pr
end
section
namespace Go.Proofs.Ytmidiifgdloojaa.SpanFns
open Go.RowKit Go.Proofs.YtmidiifgdloojaaW.PrintWords Go.Proofs.YtmidiifgdloojaaW.PrintMore Go.Proofs.Ytmidiifgdloojaa.Pr Go.Proofs.Ytmidiifgdloojaa.SpanMath Go.Proofs.Ytmidiifgdloojaa.SpanReads
theorem back_union {a : List S36} (ha : Good a) {c n : Int} (hc : 0 ≤ c) (hn : 0 ≤ n) : unionS (throughS c n (oldS c n a)) (throughS 0 c (inS c n a)) = a := by
  obtain ⟨o1, o2⟩ := oldS_spec (c := c) hn ha.nrm
  obtain ⟨i1, i2⟩ := inS_spec (c := c) (n := n) ha.nrm
  obtain ⟨t1, t2⟩ := throughS_spec (c := c) hn o1
  obtain ⟨u1, u2⟩ := throughS_spec (c := 0) hc i1
  obtain ⟨v1, v2⟩ := unionS_spec t1.ris u1.ris
  refine nrm_ext v1 ha.nrm (fun q => ?_)
  rw [v2, t2, u2]
  simp only [o2, i2]
  constructor
  · rintro ((⟨h1, ⟨_, h2⟩ | ⟨h2, _⟩⟩ | ⟨h1, ⟨h2, _⟩ | ⟨_, h3⟩⟩) | (⟨h1, h2, _, _⟩ | ⟨h1, h2, h3, h4⟩))
    · exact h2
    · omega
    · omega
    · rw [show q - n + n = q from by omega] at h3; exact h3
    · omega
    · rw [show q - c + c = q from by omega] at h4; exact h4
  · intro h
    by_cases c1 : q < c
    · exact .inl (.inl ⟨c1, .inl ⟨c1, h⟩⟩)
    · by_cases c2 : q < c + n
      · exact .inr (.inr ⟨by omega, by omega, by omega, by rw [show q - c + c = q from by omega]; exact h⟩)
      · exact .inl (.inr ⟨by omega, .inr ⟨by omega, by rw [show q - n + n = q from by omega]; exact h⟩⟩)
theorem old_nogrow {a : List S36} (ha : Good a) {c n : Int} (hn : 0 ≤ n) : grows (oldS c n a) c n = false := by
  obtain ⟨o1, o2⟩ := oldS_spec (c := c) hn ha.nrm
  rw [Bool.eq_false_iff, ne_eq, grows_iff o1]
  rintro ⟨r, hr, g1, g2⟩
  have hlt := o1.2 r hr
  have hm1 : mem (oldS c n a) (r.f1 - 1) := ⟨r, hr, by omega, by omega⟩
  rcases (o2 _).1 hm1 with ⟨e1, e2⟩ | ⟨e1, e2⟩
  · omega
  · have := mem_bd ha e2
    omega
theorem in_nogrow {a : List S36} (ha : Good a) {c n : Int} (hm : c + n ≤ 1048576) : grows (inS c n a) 0 c = false := by
  obtain ⟨o1, o2⟩ := inS_spec (c := c) (n := n) ha.nrm
  rw [Bool.eq_false_iff, ne_eq, grows_iff o1]
  rintro ⟨r, hr, g1, g2⟩
  have hlt := o1.2 r hr
  have hm1 : mem (inS c n a) (r.f1 - 1) := ⟨r, hr, by omega, by omega⟩
  obtain ⟨e1, e2, e3⟩ := (o2 _).1 hm1
  omega
theorem backAgain_j5 {a t u : List S36} (hs : Short t) (hu : Short u) (hok : unionA t u = (a, 0)) (ha : Short a) : Ev (fun k => redraftlaw02_SpanBackAgain.j5 k a u t false) true := by
  refine Ev.step (f := fun k => (span_Union.f k t u).bind fun bt => (redraftlaw02_num.f bt.2).bind fun e => if e = 0 then ((redraftlaw02_same.f k bt.1 a).bind fun s => some s) else some false) (fun k => by simp only [redraftlaw02_SpanBackAgain.j5]; rw [if_neg (by simp)]) ?_
  refine Ev.bind (Union_ev hs hu) ?_
  rw [hok]
  simp only [num_f, Option.bind_some, if_true]
  refine Ev.bind (same_ev ha) ?_
  simpa using Ev.now true
theorem backAgain_j0 {a : List S36} (ha : Good a) (c n : Int) : Ev (fun k => redraftlaw02_SpanBackAgain.j0 k c n a false) true := by
  have key : ∀ b : Bool, b = decide (((c < 0 ∨ c > 1048576) ∨ (n < 0 ∨ n > 1048576)) ∨ c + n > 1048576) → Ev (fun k => redraftlaw02_SpanBackAgain.j1 k c n a (backA a c n).1 (backA a c n).2.1 (backA a c n).2.2 b) true := by
    rintro b rfl
    by_cases bad : ((c < 0 ∨ c > 1048576) ∨ (n < 0 ∨ n > 1048576)) ∨ c + n > 1048576
    · rw [backA_no ha bad, decide_eq_true bad]
      refine Ev.step (f := fun _ => some true) (fun k => ?_) (Ev.now _)
      simp only [redraftlaw02_SpanBackAgain.j1, if_true, num_f, Option.bind_some]
      simp
    · rw [decide_eq_false bad]
      have hc : 0 ≤ c ∧ c ≤ 1048576 := by omega
      have hn : 0 ≤ n ∧ n ≤ 1048576 := by omega
      have hm : c + n ≤ 1048576 := by omega
      rw [backA_good ha hc hn hm]
      have go := old_good ha hc.1 hn.1 hm
      have gi := in_good ha hc.1 hn.1 hm
      have hl := ha.1
      have lo := go.1
      have li := gi.1
      obtain ⟨i1, i2⟩ := inS_spec (c := c) (n := n) ha.nrm
      have tin : throughA (inS c n a) 0 c = (throughS 0 c (inS c n a), 0) := by
        rw [throughA_good gi (by omega) hc (in_nogrow ha hm)]
        have := (through_len (c := 0) hc.1 gi.nrm).2 (fun q hq => (mem_bd gi hq).1) (Int.le_refl _)
        exact few_ok (by omega)
      have told : throughA (oldS c n a) c n = few (throughS c n (oldS c n a)) := throughA_good go hc hn (old_nogrow ha hn.1)
      have gin : Good (throughS 0 c (inS c n a)) := by
        have := (through_len (c := 0) hc.1 gi.nrm).2 (fun q hq => (mem_bd gi hq).1) (Int.le_refl _)
        exact through_good gi (Int.le_refl _) hc.1 (in_nogrow ha hm) (by omega)
      have j3 : Ev (fun k => redraftlaw02_SpanBackAgain.j3 k c n a (oldS c n a) (inS c n a) false) true := by
        refine Ev.step (f := fun k => (span_Through.f k (inS c n a) 0 c).bind fun x => (span_Through.f k (oldS c n a) c n).bind fun y => (redraftlaw02_num.f y.2).bind fun e => if e = 21 then redraftlaw02_SpanBackAgain.j4 k a x.1 x.2 y.1 y.2 (((oldS c n a).length : Int) == 32768) else redraftlaw02_SpanBackAgain.j4 k a x.1 x.2 y.1 y.2 false) (fun k => by simp only [redraftlaw02_SpanBackAgain.j3]; rw [if_neg (by simp), copied_f gi.short, copied_f go.short]; rfl) ?_
        refine Ev.bind (Through_ev gi.short 0 c) (Ev.bind (Through_ev go.short c n) ?_)
        rw [tin, told]
        simp only [num_f, Option.bind_some]
        by_cases full : (throughS c n (oldS c n a)).length ≤ 32768
        · rw [few_ok full]
          have gt := through_good go hc.1 hn.1 (old_nogrow ha hn.1) full
          simp only [show ¬ ((0 : Int) = 21) from by omega, if_false]
          refine Ev.step (f := fun k => redraftlaw02_SpanBackAgain.j5 k a (throughS 0 c (inS c n a)) (throughS c n (oldS c n a)) false) (fun k => ?_) ?_
          · simp only [redraftlaw02_SpanBackAgain.j4]
            rw [if_neg (by simp)]
            simp [num_f]
          · refine backAgain_j5 gt.short gin.short ?_ ha.short
            rw [unionA_good gt gin, back_union ha hc.1 hn.1, few_ok hl]
        · rw [few_no full]
          have := (through_len (c := c) hn.1 go.nrm).1
          have e : (oldS c n a).length = 32768 := by omega
          simp only [if_true, e]
          refine Ev.step (f := fun _ => some true) (fun k => ?_) (Ev.now _)
          simp only [redraftlaw02_SpanBackAgain.j4]
          simp
      have j2 : Ev (fun k => redraftlaw02_SpanBackAgain.j2 k c n a (oldS c n a) (inS c n a) false) true := by
        refine Ev.step (fun k => ?_) j3
        simp only [redraftlaw02_SpanBackAgain.j2]
        rw [if_neg (by simp)]
        rcases concat_cases (inS c n a) with e | ⟨i, r, e⟩
        · rw [e, if_neg (by simp)]
        · have hr : r ∈ inS c n a := by rw [e]; simp
          have hil : (i ++ [r]).length = i.length + 1 := by simp
          have hlt := i1.2 r hr
          have hm1 : mem (inS c n a) (r.f1 - 1) := ⟨r, hr, by omega, by omega⟩
          obtain ⟨e1, e2, e3⟩ := (i2 _).1 hm1
          have hrd : rd_T36 (i ++ [r]) (((i ++ [r]).length : Int) - 1) = r := by have := rd_last i r []; rwa [List.append_nil] at this
          have hle := congrArg List.length e
          rw [e, w64 (n := ((i ++ [r]).length : Int) - 1) (by omega) (by omega), if_pos (by omega), if_pos (by omega), if_pos (by omega), hrd, decide_eq_false (by omega)]
      refine Ev.step (f := fun k => (redraftlaw02_normal.f k (oldS c n a)).bind fun t => if t = true then ((redraftlaw02_normal.f k (inS c n a)).bind fun u => redraftlaw02_SpanBackAgain.j2 k c n a (oldS c n a) (inS c n a) (!u)) else redraftlaw02_SpanBackAgain.j2 k c n a (oldS c n a) (inS c n a) true) (fun k => ?_) ?_
      · simp only [redraftlaw02_SpanBackAgain.j1]
        rw [if_neg (by simp)]
        simp [num_f]
      · refine Ev.bind (normal_ev go) ?_
        simp only [if_true]
        refine Ev.bind (normal_ev gi) ?_
        exact j2
  refine Ev.step (f := fun k => (span_Back.f k a c n).bind fun bt => (if c < 0 then (redraftlaw02_SpanBackAgain.j1 k c n a bt.1 bt.2.1 bt.2.2 true) else (if n < 0 then (redraftlaw02_SpanBackAgain.j1 k c n a bt.1 bt.2.1 bt.2.2 true) else (if c > 1048576 then (redraftlaw02_SpanBackAgain.j1 k c n a bt.1 bt.2.1 bt.2.2 true) else (if n > 1048576 then (redraftlaw02_SpanBackAgain.j1 k c n a bt.1 bt.2.1 bt.2.2 true) else (redraftlaw02_SpanBackAgain.j1 k c n a bt.1 bt.2.1 bt.2.2 (decide ((wrap64 (c + n)) > 1048576)))))))) (fun k => by simp only [redraftlaw02_SpanBackAgain.j0]; rw [if_neg (by simp), copied_f ha.short]; rfl) ?_
  refine Ev.bind (Back_ev ha.short c n) ?_
  by_cases a1 : c < 0
  · simp only [if_pos a1]; exact key true (by simp [a1])
  · simp only [if_neg a1]
    by_cases a2 : n < 0
    · simp only [if_pos a2]; exact key true (by simp [a2])
    · simp only [if_neg a2]
      by_cases a3 : c > 1048576
      · simp only [if_pos a3]; exact key true (by simp [a3])
      · simp only [if_neg a3]
        by_cases a4 : n > 1048576
        · simp only [if_pos a4]; exact key true (by simp [a4])
        · simp only [if_neg a4]
          exact key _ (by rw [w64 (n := c + n) (by omega) (by omega), Bool.eq_iff_iff, decide_eq_true_iff, decide_eq_true_iff]; omega)
theorem SpanBackAgain_pure (x : SIn) (h : WfIn x) : ∃ k, redraftlaw02_SpanBackAgain.f k x.1 x.2.1 x.2.2.1 x.2.2.2.1 x.2.2.2.2 = some true := by
  refine Ev.rounds (g := fun k => redraftlaw02_SpanBackAgain.f k x.1 x.2.1 x.2.2.1 x.2.2.2.1 x.2.2.2.2) ?_
  unfold redraftlaw02_SpanBackAgain.f
  obtain ⟨p, p1, p2, p3⟩ := right_ev (wfl_short h.1)
  have hps : Short p := by show p.length < _; omega
  refine Ev.bind p1 ?_
  simp only [copied_f hps, Option.bind_some, Make_f, makeA_good p2 p3, num_f, if_true]
  refine Ev.bind awake_ev ?_
  exact backAgain_j0 (ofParts_good p2 p3) _ _
end Go.Proofs.Ytmidiifgdloojaa.SpanFns
end
