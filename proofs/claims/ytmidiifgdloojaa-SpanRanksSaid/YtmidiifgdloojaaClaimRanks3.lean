/- SpanRanks, for every input: the law answers true and its argument reads as before; no condition. -/
import Derived.Test.YtmidiifgdloojaaClaimRanks2
section
namespace Go.Proofs.Ytmidiifgdloojaa.Kq
open Go.Proofs.Ytmidiifgdloojaa.Pr
open Go.RowKit Go.Proofs.YtmidiifgdloojaaW.PrintWords Go.Proofs.YtmidiifgdloojaaW.PrintLast Go.Proofs.YtmidiifgdloojaaW.PrintMore
attribute [local go_sem] max2_int min2_int max_two min_two max_three min_three max_four min_four
set_option linter.unusedVariables false
set_option linter.unusedSimpArgs false
abbrev rA := @Kd.R_alloc
abbrev rB := @Kd.R_drewN
abbrev rC := @Kd.R_drew
abbrev bA := @below_alloc
abbrev bB := @pw_below_drewN
abbrev bC := @below_drew1
abbrev bD := @below_set
abbrev aM := @Aside0.mk
abbrev rE := @Kd.R_elder'
mutual
def sRanks.j0 : Nat → Int → List (S36) → List (S36) → Bool → Option (Bool)
 | 0, _, _, _, _ => none
 | k + 1, x3, x4, x6, x73 => if x73 = true then (some false) else ((redraftlaw02_copied.f x4).bind fun t221 => ((span_Count.f k t221).bind fun bt224 => ((redraftlaw02_copied.f x6).bind fun t226 => ((span_Count.f k t226).bind fun bt229 => ((redraftlaw02_num.f bt224.2).bind fun t231 => (if t231 = 0 then ((redraftlaw02_num.f bt229.2).bind fun t232 => (sRanks.j1 k x3 x4 x6 bt224.1 bt229.1 (t232 != 0))) else (sRanks.j1 k x3 x4 x6 bt224.1 bt229.1 true)))))))
def sRanks.j1 : Nat → Int → List (S36) → List (S36) → Int → Int → Bool → Option (Bool)
 | 0, _, _, _, _, _, _ => none
 | k + 1, x3, x4, x6, x10, x12, x93 => if x93 = true then (some false) else (sRanks.l0 k x3 x4 x6 x10 x12 0 0)
def sRanks.l0 : Nat → Int → List (S36) → List (S36) → Int → Int → Int → Int → Option (Bool)
 | 0, _, _, _, _, _, _, _ => none
 | k + 1, x3, x4, x6, x10, x12, x14, x15 => if x15 < (x4.length : Int) then (if x15 < 40 then (sRanks.j3 k x3 x4 x6 x10 x12 x14 x15 true) else (sRanks.j3 k x3 x4 x6 x10 x12 x14 x15 (x15 == (wrap64 ((x4.length : Int) - 1))))) else ((redraftlaw02_copied.f x4).bind fun t244 => ((span_Rank.f k t244 1048576).bind fun bt247 => (if x10 = x14 then (if bt247.1 = x10 then ((redraftlaw02_num.f bt247.2).bind fun t249 => (sRanks.j5 k x3 x4 x6 x10 x12 (t249 != 0))) else (sRanks.j5 k x3 x4 x6 x10 x12 true)) else (sRanks.j5 k x3 x4 x6 x10 x12 true))))
def sRanks.j3 : Nat → Int → List (S36) → List (S36) → Int → Int → Int → Int → Bool → Option (Bool)
 | 0, _, _, _, _, _, _, _, _ => none
 | k + 1, x3, x4, x6, x10, x12, x14, x15, x108 => if x108 = true then ((redraftlaw02_copied.f x4).bind fun t233 => (if 0 ≤ x15 then (if x15 < (x4.length : Int) then ((span_Rank.f k t233 ((rd_T36 x4 x15).f0)).bind fun bt237 => ((redraftlaw02_num.f bt237.2).bind fun t239 => (if t239 = 0 then (sRanks.j4 k x3 x4 x6 x10 x12 x14 x15 (bt237.1 != x14)) else (sRanks.j4 k x3 x4 x6 x10 x12 x14 x15 true)))) else (none)) else (none))) else (if 0 ≤ x15 then (if x15 < (x4.length : Int) then (sRanks.l0 k x3 x4 x6 x10 x12 (wrap64 ((wrap64 (x14 + ((rd_T36 x4 x15).f1))) - ((rd_T36 x4 x15).f0))) (wrap64 (x15 + 1))) else (none)) else (none))
def sRanks.j4 : Nat → Int → List (S36) → List (S36) → Int → Int → Int → Int → Bool → Option (Bool)
 | 0, _, _, _, _, _, _, _, _ => none
 | k + 1, x3, x4, x6, x10, x12, x14, x15, x127 => if x127 = true then (some false) else (if 0 ≤ x15 then (if x15 < (x4.length : Int) then (sRanks.l0 k x3 x4 x6 x10 x12 (wrap64 ((wrap64 (x14 + ((rd_T36 x4 x15).f1))) - ((rd_T36 x4 x15).f0))) (wrap64 (x15 + 1))) else (none)) else (none))
def sRanks.j5 : Nat → Int → List (S36) → List (S36) → Int → Int → Bool → Option (Bool)
 | 0, _, _, _, _, _, _ => none
 | k + 1, x3, x4, x6, x10, x12, x159 => if x159 = true then (some false) else ((redraftlaw02_copied.f x4).bind fun t250 => ((span_Nth.f k t250 x3).bind fun bt253 => (if x3 < 0 then (sRanks.j6 k x3 x4 x6 x10 x12 bt253.1 bt253.2 true) else (sRanks.j6 k x3 x4 x6 x10 x12 bt253.1 bt253.2 (decide (x3 ≥ x10))))))
def sRanks.j6 : Nat → Int → List (S36) → List (S36) → Int → Int → Int → Int → Bool → Option (Bool)
 | 0, _, _, _, _, _, _, _, _ => none
 | k + 1, x3, x4, x6, x10, x12, x20, x21, x173 => if x173 = true then ((redraftlaw02_num.f x21).bind fun t255 => (if t255 = 12 then (sRanks.j7 k x4 x6 x10 x12 (x20 != 0)) else (sRanks.j7 k x4 x6 x10 x12 true))) else ((redraftlaw02_copied.f x4).bind fun t256 => ((span_Rank.f k t256 x20).bind fun bt259 => ((redraftlaw02_num.f x21).bind fun t261 => (if t261 = 0 then ((redraftlaw02_num.f bt259.2).bind fun t262 => (if t262 = 0 then (if bt259.1 = x3 then ((redraftlaw02_lies.f k x4 x20).bind fun t263 => (sRanks.j8 k x4 x6 x10 x12 (!t263))) else (sRanks.j8 k x4 x6 x10 x12 true)) else (sRanks.j8 k x4 x6 x10 x12 true))) else (sRanks.j8 k x4 x6 x10 x12 true)))))
def sRanks.j9 : Nat → List (S36) → List (S36) → Int → Int → Option (Bool)
 | 0, _, _, _, _ => none
 | k + 1, x4, x6, x10, x12 => if (wrap64 ((x4.length : Int) + (x6.length : Int))) > 32768 then (some true) else ((redraftlaw02_copied.f x4).bind fun t264 => ((redraftlaw02_copied.f x6).bind fun t267 => ((span_Union.f k t264 t267).bind fun bt270 => ((redraftlaw02_copied.f x4).bind fun t274 => ((redraftlaw02_copied.f x6).bind fun t277 => ((span_Meet.f k t274 t277).bind fun bt280 => ((span_Count.f k bt270.1).bind fun bt284 => ((span_Count.f k bt280.1).bind fun bt286 => ((redraftlaw02_num.f bt270.2).bind fun t288 => (if t288 = 0 then ((redraftlaw02_num.f bt280.2).bind fun t289 => (if t289 = 0 then ((redraftlaw02_num.f bt284.2).bind fun t290 => (if t290 = 0 then ((redraftlaw02_num.f bt286.2).bind fun t291 => (if t291 = 0 then (some ((wrap64 (bt284.1 + bt286.1)) == (wrap64 (x10 + x12)))) else (some false))) else (some false))) else (some false))) else (some false)))))))))))
def sRanks.j7 : Nat → List (S36) → List (S36) → Int → Int → Bool → Option (Bool)
 | 0, _, _, _, _, _ => none
 | k + 1, x4, x6, x10, x12, x180 => if x180 = true then (some false) else (sRanks.j9 k x4 x6 x10 x12)
def sRanks.j8 : Nat → List (S36) → List (S36) → Int → Int → Bool → Option (Bool)
 | 0, _, _, _, _, _ => none
 | k + 1, x4, x6, x10, x12, x206 => if x206 = true then (some false) else (sRanks.j9 k x4 x6 x10 x12)
end
def sRanks.f (k : Nat) (l0_0 : List (S36)) (l0_1 : List (S36)) (l0_2 : List Int) (a0_3 : Int) (a0_4 : Int) : Option (Bool) := (redraftlaw02_right.f k l0_0).bind fun t193 => ((redraftlaw02_copied.f t193).bind fun t196 => ((span_Make.f t196).bind fun bt199 => ((redraftlaw02_right.f k l0_1).bind fun t203 => ((redraftlaw02_copied.f t203).bind fun t206 => ((span_Make.f t206).bind fun bt209 => ((span_Count.f k (([(⟨2, 5⟩ : S36), (⟨6, 9⟩ : S36)] : List (S36)))).bind fun bt216 => ((redraftlaw02_num.f bt199.2).bind fun t218 => (if t218 = 0 then ((redraftlaw02_num.f bt209.2).bind fun t219 => (if t219 = 0 then ((redraftlaw02_num.f bt216.2).bind fun t220 => (if t220 = 0 then (sRanks.j0 k a0_3 bt199.1 bt209.1 (bt216.1 != 6)) else (sRanks.j0 k a0_3 bt199.1 bt209.1 true))) else (sRanks.j0 k a0_3 bt199.1 bt209.1 true))) else (sRanks.j0 k a0_3 bt199.1 bt209.1 true)))))))))
theorem sRanks.mono_l : ∀ k, (∀ y0 y1 y2 y3, LeO (sRanks.j0 k y0 y1 y2 y3) (sRanks.j0 (k + 1) y0 y1 y2 y3)) ∧ (∀ y0 y1 y2 y3 y4 y5, LeO (sRanks.j1 k y0 y1 y2 y3 y4 y5) (sRanks.j1 (k + 1) y0 y1 y2 y3 y4 y5)) ∧ (∀ y0 y1 y2 y3 y4 y5 y6, LeO (sRanks.l0 k y0 y1 y2 y3 y4 y5 y6) (sRanks.l0 (k + 1) y0 y1 y2 y3 y4 y5 y6)) ∧ (∀ y0 y1 y2 y3 y4 y5 y6 y7, LeO (sRanks.j3 k y0 y1 y2 y3 y4 y5 y6 y7) (sRanks.j3 (k + 1) y0 y1 y2 y3 y4 y5 y6 y7)) ∧ (∀ y0 y1 y2 y3 y4 y5 y6 y7, LeO (sRanks.j4 k y0 y1 y2 y3 y4 y5 y6 y7) (sRanks.j4 (k + 1) y0 y1 y2 y3 y4 y5 y6 y7)) ∧ (∀ y0 y1 y2 y3 y4 y5, LeO (sRanks.j5 k y0 y1 y2 y3 y4 y5) (sRanks.j5 (k + 1) y0 y1 y2 y3 y4 y5)) ∧ (∀ y0 y1 y2 y3 y4 y5 y6 y7, LeO (sRanks.j6 k y0 y1 y2 y3 y4 y5 y6 y7) (sRanks.j6 (k + 1) y0 y1 y2 y3 y4 y5 y6 y7)) ∧ (∀ y0 y1 y2 y3, LeO (sRanks.j9 k y0 y1 y2 y3) (sRanks.j9 (k + 1) y0 y1 y2 y3)) ∧ (∀ y0 y1 y2 y3 y4, LeO (sRanks.j7 k y0 y1 y2 y3 y4) (sRanks.j7 (k + 1) y0 y1 y2 y3 y4)) ∧ (∀ y0 y1 y2 y3 y4, LeO (sRanks.j8 k y0 y1 y2 y3 y4) (sRanks.j8 (k + 1) y0 y1 y2 y3 y4))
 | 0 => ⟨fun _ _ _ _ r h => by simp [sRanks.j0] at h, fun _ _ _ _ _ _ r h => by simp [sRanks.j1] at h, fun _ _ _ _ _ _ _ r h => by simp [sRanks.l0] at h, fun _ _ _ _ _ _ _ _ r h => by simp [sRanks.j3] at h, fun _ _ _ _ _ _ _ _ r h => by simp [sRanks.j4] at h, fun _ _ _ _ _ _ r h => by simp [sRanks.j5] at h, fun _ _ _ _ _ _ _ _ r h => by simp [sRanks.j6] at h, fun _ _ _ _ r h => by simp [sRanks.j9] at h, fun _ _ _ _ _ r h => by simp [sRanks.j7] at h, fun _ _ _ _ _ r h => by simp [sRanks.j8] at h⟩
 | k + 1 => by
  obtain ⟨ih0, ih1, ih2, ih3, ih4, ih5, ih6, ih7, ih8, ih9⟩ := sRanks.mono_l k
  refine ⟨?_, ?_, ?_, ?_, ?_, ?_, ?_, ?_, ?_, ?_⟩
  ·intro y0 y1 y2 y3
   unfold sRanks.j0
   repeat' first
   | (with_reducible first | exact ih0 _ _ _ _ | exact ih1 _ _ _ _ _ _ | exact ih2 _ _ _ _ _ _ _ | exact ih3 _ _ _ _ _ _ _ _ | exact ih4 _ _ _ _ _ _ _ _ | exact ih5 _ _ _ _ _ _ | exact ih6 _ _ _ _ _ _ _ _ | exact ih7 _ _ _ _ | exact ih8 _ _ _ _ _ | exact ih9 _ _ _ _ _ | exact redraftlaw02_lies.mono _ _ _ | exact redraftlaw02_right.mono _ _ | exact span_Count.mono _ _ | exact span_Meet.mono _ _ _ | exact span_Nth.mono _ _ _ | exact span_Rank.mono _ _ _ | exact span_Union.mono _ _ _ | exact LeO.refl _ | exact LeO.none _)
   | (with_reducible refine LeO.ite ?_ ?_)
   | (with_reducible refine LeO.bind ?_ (fun _ => ?_))
   | exact ih0 _ _ _ _
   | exact ih1 _ _ _ _ _ _
   | exact ih2 _ _ _ _ _ _ _
   | exact ih3 _ _ _ _ _ _ _ _
   | exact ih4 _ _ _ _ _ _ _ _
   | exact ih5 _ _ _ _ _ _
   | exact ih6 _ _ _ _ _ _ _ _
   | exact ih7 _ _ _ _
   | exact ih8 _ _ _ _ _
   | exact ih9 _ _ _ _ _
   | exact redraftlaw02_lies.mono _ _ _
   | exact redraftlaw02_right.mono _ _
   | exact span_Count.mono _ _
   | exact span_Meet.mono _ _ _
   | exact span_Nth.mono _ _ _
   | exact span_Rank.mono _ _ _
   | exact span_Union.mono _ _ _
   | exact LeO.none _
   | refine LeO.ite ?_ ?_
   | refine LeO.bind ?_ (fun _ => ?_)
  ·intro y0 y1 y2 y3 y4 y5
   unfold sRanks.j1
   repeat' first
   | (with_reducible first | exact ih0 _ _ _ _ | exact ih1 _ _ _ _ _ _ | exact ih2 _ _ _ _ _ _ _ | exact ih3 _ _ _ _ _ _ _ _ | exact ih4 _ _ _ _ _ _ _ _ | exact ih5 _ _ _ _ _ _ | exact ih6 _ _ _ _ _ _ _ _ | exact ih7 _ _ _ _ | exact ih8 _ _ _ _ _ | exact ih9 _ _ _ _ _ | exact redraftlaw02_lies.mono _ _ _ | exact redraftlaw02_right.mono _ _ | exact span_Count.mono _ _ | exact span_Meet.mono _ _ _ | exact span_Nth.mono _ _ _ | exact span_Rank.mono _ _ _ | exact span_Union.mono _ _ _ | exact LeO.refl _ | exact LeO.none _)
   | (with_reducible refine LeO.ite ?_ ?_)
   | (with_reducible refine LeO.bind ?_ (fun _ => ?_))
   | exact ih0 _ _ _ _
   | exact ih1 _ _ _ _ _ _
   | exact ih2 _ _ _ _ _ _ _
   | exact ih3 _ _ _ _ _ _ _ _
   | exact ih4 _ _ _ _ _ _ _ _
   | exact ih5 _ _ _ _ _ _
   | exact ih6 _ _ _ _ _ _ _ _
   | exact ih7 _ _ _ _
   | exact ih8 _ _ _ _ _
   | exact ih9 _ _ _ _ _
   | exact redraftlaw02_lies.mono _ _ _
   | exact redraftlaw02_right.mono _ _
   | exact span_Count.mono _ _
   | exact span_Meet.mono _ _ _
   | exact span_Nth.mono _ _ _
   | exact span_Rank.mono _ _ _
   | exact span_Union.mono _ _ _
   | exact LeO.none _
   | refine LeO.ite ?_ ?_
   | refine LeO.bind ?_ (fun _ => ?_)
  ·intro y0 y1 y2 y3 y4 y5 y6
   unfold sRanks.l0
   repeat' first
   | (with_reducible first | exact ih0 _ _ _ _ | exact ih1 _ _ _ _ _ _ | exact ih2 _ _ _ _ _ _ _ | exact ih3 _ _ _ _ _ _ _ _ | exact ih4 _ _ _ _ _ _ _ _ | exact ih5 _ _ _ _ _ _ | exact ih6 _ _ _ _ _ _ _ _ | exact ih7 _ _ _ _ | exact ih8 _ _ _ _ _ | exact ih9 _ _ _ _ _ | exact redraftlaw02_lies.mono _ _ _ | exact redraftlaw02_right.mono _ _ | exact span_Count.mono _ _ | exact span_Meet.mono _ _ _ | exact span_Nth.mono _ _ _ | exact span_Rank.mono _ _ _ | exact span_Union.mono _ _ _ | exact LeO.refl _ | exact LeO.none _)
   | (with_reducible refine LeO.ite ?_ ?_)
   | (with_reducible refine LeO.bind ?_ (fun _ => ?_))
   | exact ih0 _ _ _ _
   | exact ih1 _ _ _ _ _ _
   | exact ih2 _ _ _ _ _ _ _
   | exact ih3 _ _ _ _ _ _ _ _
   | exact ih4 _ _ _ _ _ _ _ _
   | exact ih5 _ _ _ _ _ _
   | exact ih6 _ _ _ _ _ _ _ _
   | exact ih7 _ _ _ _
   | exact ih8 _ _ _ _ _
   | exact ih9 _ _ _ _ _
   | exact redraftlaw02_lies.mono _ _ _
   | exact redraftlaw02_right.mono _ _
   | exact span_Count.mono _ _
   | exact span_Meet.mono _ _ _
   | exact span_Nth.mono _ _ _
   | exact span_Rank.mono _ _ _
   | exact span_Union.mono _ _ _
   | exact LeO.none _
   | refine LeO.ite ?_ ?_
   | refine LeO.bind ?_ (fun _ => ?_)
  ·intro y0 y1 y2 y3 y4 y5 y6 y7
   unfold sRanks.j3
   repeat' first
   | (with_reducible first | exact ih0 _ _ _ _ | exact ih1 _ _ _ _ _ _ | exact ih2 _ _ _ _ _ _ _ | exact ih3 _ _ _ _ _ _ _ _ | exact ih4 _ _ _ _ _ _ _ _ | exact ih5 _ _ _ _ _ _ | exact ih6 _ _ _ _ _ _ _ _ | exact ih7 _ _ _ _ | exact ih8 _ _ _ _ _ | exact ih9 _ _ _ _ _ | exact redraftlaw02_lies.mono _ _ _ | exact redraftlaw02_right.mono _ _ | exact span_Count.mono _ _ | exact span_Meet.mono _ _ _ | exact span_Nth.mono _ _ _ | exact span_Rank.mono _ _ _ | exact span_Union.mono _ _ _ | exact LeO.refl _ | exact LeO.none _)
   | (with_reducible refine LeO.ite ?_ ?_)
   | (with_reducible refine LeO.bind ?_ (fun _ => ?_))
   | exact ih0 _ _ _ _
   | exact ih1 _ _ _ _ _ _
   | exact ih2 _ _ _ _ _ _ _
   | exact ih3 _ _ _ _ _ _ _ _
   | exact ih4 _ _ _ _ _ _ _ _
   | exact ih5 _ _ _ _ _ _
   | exact ih6 _ _ _ _ _ _ _ _
   | exact ih7 _ _ _ _
   | exact ih8 _ _ _ _ _
   | exact ih9 _ _ _ _ _
   | exact redraftlaw02_lies.mono _ _ _
   | exact redraftlaw02_right.mono _ _
   | exact span_Count.mono _ _
   | exact span_Meet.mono _ _ _
   | exact span_Nth.mono _ _ _
   | exact span_Rank.mono _ _ _
   | exact span_Union.mono _ _ _
   | exact LeO.none _
   | refine LeO.ite ?_ ?_
   | refine LeO.bind ?_ (fun _ => ?_)
  ·intro y0 y1 y2 y3 y4 y5 y6 y7
   unfold sRanks.j4
   repeat' first
   | (with_reducible first | exact ih0 _ _ _ _ | exact ih1 _ _ _ _ _ _ | exact ih2 _ _ _ _ _ _ _ | exact ih3 _ _ _ _ _ _ _ _ | exact ih4 _ _ _ _ _ _ _ _ | exact ih5 _ _ _ _ _ _ | exact ih6 _ _ _ _ _ _ _ _ | exact ih7 _ _ _ _ | exact ih8 _ _ _ _ _ | exact ih9 _ _ _ _ _ | exact redraftlaw02_lies.mono _ _ _ | exact redraftlaw02_right.mono _ _ | exact span_Count.mono _ _ | exact span_Meet.mono _ _ _ | exact span_Nth.mono _ _ _ | exact span_Rank.mono _ _ _ | exact span_Union.mono _ _ _ | exact LeO.refl _ | exact LeO.none _)
   | (with_reducible refine LeO.ite ?_ ?_)
   | (with_reducible refine LeO.bind ?_ (fun _ => ?_))
   | exact ih0 _ _ _ _
   | exact ih1 _ _ _ _ _ _
   | exact ih2 _ _ _ _ _ _ _
   | exact ih3 _ _ _ _ _ _ _ _
   | exact ih4 _ _ _ _ _ _ _ _
   | exact ih5 _ _ _ _ _ _
   | exact ih6 _ _ _ _ _ _ _ _
   | exact ih7 _ _ _ _
   | exact ih8 _ _ _ _ _
   | exact ih9 _ _ _ _ _
   | exact redraftlaw02_lies.mono _ _ _
   | exact redraftlaw02_right.mono _ _
   | exact span_Count.mono _ _
   | exact span_Meet.mono _ _ _
   | exact span_Nth.mono _ _ _
   | exact span_Rank.mono _ _ _
   | exact span_Union.mono _ _ _
   | exact LeO.none _
   | refine LeO.ite ?_ ?_
   | refine LeO.bind ?_ (fun _ => ?_)
  ·intro y0 y1 y2 y3 y4 y5
   unfold sRanks.j5
   repeat' first
   | (with_reducible first | exact ih0 _ _ _ _ | exact ih1 _ _ _ _ _ _ | exact ih2 _ _ _ _ _ _ _ | exact ih3 _ _ _ _ _ _ _ _ | exact ih4 _ _ _ _ _ _ _ _ | exact ih5 _ _ _ _ _ _ | exact ih6 _ _ _ _ _ _ _ _ | exact ih7 _ _ _ _ | exact ih8 _ _ _ _ _ | exact ih9 _ _ _ _ _ | exact redraftlaw02_lies.mono _ _ _ | exact redraftlaw02_right.mono _ _ | exact span_Count.mono _ _ | exact span_Meet.mono _ _ _ | exact span_Nth.mono _ _ _ | exact span_Rank.mono _ _ _ | exact span_Union.mono _ _ _ | exact LeO.refl _ | exact LeO.none _)
   | (with_reducible refine LeO.ite ?_ ?_)
   | (with_reducible refine LeO.bind ?_ (fun _ => ?_))
   | exact ih0 _ _ _ _
   | exact ih1 _ _ _ _ _ _
   | exact ih2 _ _ _ _ _ _ _
   | exact ih3 _ _ _ _ _ _ _ _
   | exact ih4 _ _ _ _ _ _ _ _
   | exact ih5 _ _ _ _ _ _
   | exact ih6 _ _ _ _ _ _ _ _
   | exact ih7 _ _ _ _
   | exact ih8 _ _ _ _ _
   | exact ih9 _ _ _ _ _
   | exact redraftlaw02_lies.mono _ _ _
   | exact redraftlaw02_right.mono _ _
   | exact span_Count.mono _ _
   | exact span_Meet.mono _ _ _
   | exact span_Nth.mono _ _ _
   | exact span_Rank.mono _ _ _
   | exact span_Union.mono _ _ _
   | exact LeO.none _
   | refine LeO.ite ?_ ?_
   | refine LeO.bind ?_ (fun _ => ?_)
  ·intro y0 y1 y2 y3 y4 y5 y6 y7
   unfold sRanks.j6
   repeat' first
   | (with_reducible first | exact ih0 _ _ _ _ | exact ih1 _ _ _ _ _ _ | exact ih2 _ _ _ _ _ _ _ | exact ih3 _ _ _ _ _ _ _ _ | exact ih4 _ _ _ _ _ _ _ _ | exact ih5 _ _ _ _ _ _ | exact ih6 _ _ _ _ _ _ _ _ | exact ih7 _ _ _ _ | exact ih8 _ _ _ _ _ | exact ih9 _ _ _ _ _ | exact redraftlaw02_lies.mono _ _ _ | exact redraftlaw02_right.mono _ _ | exact span_Count.mono _ _ | exact span_Meet.mono _ _ _ | exact span_Nth.mono _ _ _ | exact span_Rank.mono _ _ _ | exact span_Union.mono _ _ _ | exact LeO.refl _ | exact LeO.none _)
   | (with_reducible refine LeO.ite ?_ ?_)
   | (with_reducible refine LeO.bind ?_ (fun _ => ?_))
   | exact ih0 _ _ _ _
   | exact ih1 _ _ _ _ _ _
   | exact ih2 _ _ _ _ _ _ _
   | exact ih3 _ _ _ _ _ _ _ _
   | exact ih4 _ _ _ _ _ _ _ _
   | exact ih5 _ _ _ _ _ _
   | exact ih6 _ _ _ _ _ _ _ _
   | exact ih7 _ _ _ _
   | exact ih8 _ _ _ _ _
   | exact ih9 _ _ _ _ _
   | exact redraftlaw02_lies.mono _ _ _
   | exact redraftlaw02_right.mono _ _
   | exact span_Count.mono _ _
   | exact span_Meet.mono _ _ _
   | exact span_Nth.mono _ _ _
   | exact span_Rank.mono _ _ _
   | exact span_Union.mono _ _ _
   | exact LeO.none _
   | refine LeO.ite ?_ ?_
   | refine LeO.bind ?_ (fun _ => ?_)
  ·intro y0 y1 y2 y3
   unfold sRanks.j9
   repeat' first
   | (with_reducible first | exact ih0 _ _ _ _ | exact ih1 _ _ _ _ _ _ | exact ih2 _ _ _ _ _ _ _ | exact ih3 _ _ _ _ _ _ _ _ | exact ih4 _ _ _ _ _ _ _ _ | exact ih5 _ _ _ _ _ _ | exact ih6 _ _ _ _ _ _ _ _ | exact ih7 _ _ _ _ | exact ih8 _ _ _ _ _ | exact ih9 _ _ _ _ _ | exact redraftlaw02_lies.mono _ _ _ | exact redraftlaw02_right.mono _ _ | exact span_Count.mono _ _ | exact span_Meet.mono _ _ _ | exact span_Nth.mono _ _ _ | exact span_Rank.mono _ _ _ | exact span_Union.mono _ _ _ | exact LeO.refl _ | exact LeO.none _)
   | (with_reducible refine LeO.ite ?_ ?_)
   | (with_reducible refine LeO.bind ?_ (fun _ => ?_))
   | exact ih0 _ _ _ _
   | exact ih1 _ _ _ _ _ _
   | exact ih2 _ _ _ _ _ _ _
   | exact ih3 _ _ _ _ _ _ _ _
   | exact ih4 _ _ _ _ _ _ _ _
   | exact ih5 _ _ _ _ _ _
   | exact ih6 _ _ _ _ _ _ _ _
   | exact ih7 _ _ _ _
   | exact ih8 _ _ _ _ _
   | exact ih9 _ _ _ _ _
   | exact redraftlaw02_lies.mono _ _ _
   | exact redraftlaw02_right.mono _ _
   | exact span_Count.mono _ _
   | exact span_Meet.mono _ _ _
   | exact span_Nth.mono _ _ _
   | exact span_Rank.mono _ _ _
   | exact span_Union.mono _ _ _
   | exact LeO.none _
   | refine LeO.ite ?_ ?_
   | refine LeO.bind ?_ (fun _ => ?_)
  ·intro y0 y1 y2 y3 y4
   unfold sRanks.j7
   repeat' first
   | (with_reducible first | exact ih0 _ _ _ _ | exact ih1 _ _ _ _ _ _ | exact ih2 _ _ _ _ _ _ _ | exact ih3 _ _ _ _ _ _ _ _ | exact ih4 _ _ _ _ _ _ _ _ | exact ih5 _ _ _ _ _ _ | exact ih6 _ _ _ _ _ _ _ _ | exact ih7 _ _ _ _ | exact ih8 _ _ _ _ _ | exact ih9 _ _ _ _ _ | exact redraftlaw02_lies.mono _ _ _ | exact redraftlaw02_right.mono _ _ | exact span_Count.mono _ _ | exact span_Meet.mono _ _ _ | exact span_Nth.mono _ _ _ | exact span_Rank.mono _ _ _ | exact span_Union.mono _ _ _ | exact LeO.refl _ | exact LeO.none _)
   | (with_reducible refine LeO.ite ?_ ?_)
   | (with_reducible refine LeO.bind ?_ (fun _ => ?_))
   | exact ih0 _ _ _ _
   | exact ih1 _ _ _ _ _ _
   | exact ih2 _ _ _ _ _ _ _
   | exact ih3 _ _ _ _ _ _ _ _
   | exact ih4 _ _ _ _ _ _ _ _
   | exact ih5 _ _ _ _ _ _
   | exact ih6 _ _ _ _ _ _ _ _
   | exact ih7 _ _ _ _
   | exact ih8 _ _ _ _ _
   | exact ih9 _ _ _ _ _
   | exact redraftlaw02_lies.mono _ _ _
   | exact redraftlaw02_right.mono _ _
   | exact span_Count.mono _ _
   | exact span_Meet.mono _ _ _
   | exact span_Nth.mono _ _ _
   | exact span_Rank.mono _ _ _
   | exact span_Union.mono _ _ _
   | exact LeO.none _
   | refine LeO.ite ?_ ?_
   | refine LeO.bind ?_ (fun _ => ?_)
  ·intro y0 y1 y2 y3 y4
   unfold sRanks.j8
   repeat' first
   | (with_reducible first | exact ih0 _ _ _ _ | exact ih1 _ _ _ _ _ _ | exact ih2 _ _ _ _ _ _ _ | exact ih3 _ _ _ _ _ _ _ _ | exact ih4 _ _ _ _ _ _ _ _ | exact ih5 _ _ _ _ _ _ | exact ih6 _ _ _ _ _ _ _ _ | exact ih7 _ _ _ _ | exact ih8 _ _ _ _ _ | exact ih9 _ _ _ _ _ | exact redraftlaw02_lies.mono _ _ _ | exact redraftlaw02_right.mono _ _ | exact span_Count.mono _ _ | exact span_Meet.mono _ _ _ | exact span_Nth.mono _ _ _ | exact span_Rank.mono _ _ _ | exact span_Union.mono _ _ _ | exact LeO.refl _ | exact LeO.none _)
   | (with_reducible refine LeO.ite ?_ ?_)
   | (with_reducible refine LeO.bind ?_ (fun _ => ?_))
   | exact ih0 _ _ _ _
   | exact ih1 _ _ _ _ _ _
   | exact ih2 _ _ _ _ _ _ _
   | exact ih3 _ _ _ _ _ _ _ _
   | exact ih4 _ _ _ _ _ _ _ _
   | exact ih5 _ _ _ _ _ _
   | exact ih6 _ _ _ _ _ _ _ _
   | exact ih7 _ _ _ _
   | exact ih8 _ _ _ _ _
   | exact ih9 _ _ _ _ _
   | exact redraftlaw02_lies.mono _ _ _
   | exact redraftlaw02_right.mono _ _
   | exact span_Count.mono _ _
   | exact span_Meet.mono _ _ _
   | exact span_Nth.mono _ _ _
   | exact span_Rank.mono _ _ _
   | exact span_Union.mono _ _ _
   | exact LeO.none _
   | refine LeO.ite ?_ ?_
   | refine LeO.bind ?_ (fun _ => ?_)
theorem sRanks.mono : ∀ a0 a1 a2 a3 a4 k, LeO (sRanks.f k a0 a1 a2 a3 a4) (sRanks.f (k + 1) a0 a1 a2 a3 a4) := by
 intro a0 a1 a2 a3 a4 k
 obtain ⟨ih0, ih1, ih2, ih3, ih4, ih5, ih6, ih7, ih8, ih9⟩ := sRanks.mono_l k
 unfold sRanks.f
 repeat' first
   | (with_reducible first | exact ih0 _ _ _ _ | exact ih1 _ _ _ _ _ _ | exact ih2 _ _ _ _ _ _ _ | exact ih3 _ _ _ _ _ _ _ _ | exact ih4 _ _ _ _ _ _ _ _ | exact ih5 _ _ _ _ _ _ | exact ih6 _ _ _ _ _ _ _ _ | exact ih7 _ _ _ _ | exact ih8 _ _ _ _ _ | exact ih9 _ _ _ _ _ | exact redraftlaw02_lies.mono _ _ _ | exact redraftlaw02_right.mono _ _ | exact span_Count.mono _ _ | exact span_Meet.mono _ _ _ | exact span_Nth.mono _ _ _ | exact span_Rank.mono _ _ _ | exact span_Union.mono _ _ _ | exact LeO.refl _ | exact LeO.none _)
   | (with_reducible refine LeO.ite ?_ ?_)
   | (with_reducible refine LeO.bind ?_ (fun _ => ?_))
   | exact ih0 _ _ _ _
   | exact ih1 _ _ _ _ _ _
   | exact ih2 _ _ _ _ _ _ _
   | exact ih3 _ _ _ _ _ _ _ _
   | exact ih4 _ _ _ _ _ _ _ _
   | exact ih5 _ _ _ _ _ _
   | exact ih6 _ _ _ _ _ _ _ _
   | exact ih7 _ _ _ _
   | exact ih8 _ _ _ _ _
   | exact ih9 _ _ _ _ _
   | exact redraftlaw02_lies.mono _ _ _
   | exact redraftlaw02_right.mono _ _
   | exact span_Count.mono _ _
   | exact span_Meet.mono _ _ _
   | exact span_Nth.mono _ _ _
   | exact span_Rank.mono _ _ _
   | exact span_Union.mono _ _ _
   | exact LeO.none _
   | refine LeO.ite ?_ ?_
   | refine LeO.bind ?_ (fun _ => ?_)
def sRanks.T16 : Bool × List (List Nat × List Nat) := (true, [([], []), ([0], [0]), ([], []), ([], []), ([2, 3], [2, 3]), ([4], [4]), ([5], [5]), ([1, 6, 1], [1, 6]), ([7], [7]), ([8], [8]), ([8], [8]), ([9, 7, 0, 1, 2, 3, 4, 5, 6, 7, 8, 9], [9]), ([10, 11, 0, 1, 2, 3, 4, 5, 6, 7, 8, 9, 10, 11], [10])])
def sRanks.B16 : List Nat := [0, 1, 0, 0, 12, 28, 60, 127, 255, 511, 511, 1023, 4095]
theorem sRanks.tab16 : rtab .any (opsOf Try.f7 16) = sRanks.T16 := by kernel_rfl
theorem sRanks.bits16 : waitsOk sRanks.T16.2 sRanks.B16 = true := by kernel_rfl
def sRanks.T19 : Bool × List (List Nat × List Nat) := (true, [([], []), ([], []), ([], []), ([1, 2], [1, 2]), ([3], [3]), ([4], [4]), ([0, 5], [0, 5]), ([], []), ([], []), ([7, 8], [7, 8]), ([9], [9]), ([10], [10]), ([6, 11], [6, 11]), ([12, 0, 1, 2, 3, 4, 5, 6, 7, 8, 9, 10, 11, 12], [0, 12])])
def sRanks.B19 : List Nat := [0, 0, 0, 6, 14, 30, 63, 0, 0, 384, 896, 1920, 4095, 8191]
theorem sRanks.tab19 : rtab .any (opsOf Try.f7 19) = sRanks.T19 := by kernel_rfl
theorem sRanks.bits19 : waitsOk sRanks.T19.2 sRanks.B19 = true := by kernel_rfl
set_option maxHeartbeats 8000000 in
set_option maxRecDepth 100000 in
theorem sRanks.calls (k : Nat) (A0_0 : Option Addr) (c0_0 : Nat) (l0_0 : List (S36)) (A0_1 : Option Addr) (c0_1 : Nat) (l0_1 : List (S36)) (A0_2 : Option Addr) (c0_2 : Nat) (l0_2 : List Int) (a0_3 : Int) (a0_4 : Int) (r : Bool) (w : World) (hr0_0 : Kd.C k36 w A0_0 l0_0.length l0_0) (hc0_0 : l0_0.length ≤ c0_0) (hr0_1 : Kd.C k36 w A0_1 l0_1.length l0_1) (hc0_1 : l0_1.length ≤ c0_1) (hr0_2 : Kd.C (Kd.int .i64) w A0_2 l0_2.length l0_2) (hc0_2 : l0_2.length ≤ c0_2) (h : sRanks.f k l0_0 l0_1 l0_2 a0_3 a0_4 = some r) :
  Calls Try.prog 7 #[.agg #[.slice A0_0 l0_0.length c0_0, .slice A0_1 l0_1.length c0_1, .slice A0_2 l0_2.length c0_2, .int .i64 a0_3, .int .i64 a0_4]] w fun e w' => e = .returned (.bool r) ∧ Below w.heap.size w w' := by
 have hu25 := Try.underlying25
 have hu36 := Try.underlying36
 have HR0_0 := aM hr0_0
 have HC0_0 := aM hc0_0
 clear hr0_0 hc0_0
 have HR0_1 := aM hr0_1
 have HC0_1 := aM hc0_1
 clear hr0_1 hc0_1
 have HR0_2 := aM hr0_2
 have HC0_2 := aM hc0_2
 clear hr0_2 hc0_2
 have HB := aM (Below.refl w.heap.size w)
 have H : ((redraftlaw02_right.f k l0_0).bind fun t193 => ((redraftlaw02_copied.f t193).bind fun t196 => ((span_Make.f t196).bind fun bt199 => ((redraftlaw02_right.f k l0_1).bind fun t203 => ((redraftlaw02_copied.f t203).bind fun t206 => ((span_Make.f t206).bind fun bt209 => ((span_Count.f k (([(⟨2, 5⟩ : S36), (⟨6, 9⟩ : S36)] : List (S36)))).bind fun bt216 => ((redraftlaw02_num.f bt199.2).bind fun t218 => (if t218 = 0 then ((redraftlaw02_num.f bt209.2).bind fun t219 => (if t219 = 0 then ((redraftlaw02_num.f bt216.2).bind fun t220 => (if t220 = 0 then (sRanks.j0 k a0_3 bt199.1 bt209.1 (bt216.1 != 6)) else (sRanks.j0 k a0_3 bt199.1 bt209.1 true))) else (sRanks.j0 k a0_3 bt199.1 bt209.1 true))) else (sRanks.j0 k a0_3 bt199.1 bt209.1 true)))))))))) = some r := h
 clear h
 replace H := Option.bind_eq_some_iff.mp H
 obtain ⟨t193, A20, H⟩ := H
 replace H : ((redraftlaw02_copied.f t193).bind fun t196 => ((span_Make.f t196).bind fun bt199 => ((redraftlaw02_right.f k l0_1).bind fun t203 => ((redraftlaw02_copied.f t203).bind fun t206 => ((span_Make.f t206).bind fun bt209 => ((span_Count.f k (([(⟨2, 5⟩ : S36), (⟨6, 9⟩ : S36)] : List (S36)))).bind fun bt216 => ((redraftlaw02_num.f bt199.2).bind fun t218 => (if t218 = 0 then ((redraftlaw02_num.f bt209.2).bind fun t219 => (if t219 = 0 then ((redraftlaw02_num.f bt216.2).bind fun t220 => (if t220 = 0 then (sRanks.j0 k a0_3 bt199.1 bt209.1 (bt216.1 != 6)) else (sRanks.j0 k a0_3 bt199.1 bt209.1 true))) else (sRanks.j0 k a0_3 bt199.1 bt209.1 true))) else (sRanks.j0 k a0_3 bt199.1 bt209.1 true))))))))) = some r := H
 have A2 := aM A20
 clear A20
 replace H := Option.bind_eq_some_iff.mp H
 obtain ⟨t196, A30, H⟩ := H
 replace H : ((span_Make.f t196).bind fun bt199 => ((redraftlaw02_right.f k l0_1).bind fun t203 => ((redraftlaw02_copied.f t203).bind fun t206 => ((span_Make.f t206).bind fun bt209 => ((span_Count.f k (([(⟨2, 5⟩ : S36), (⟨6, 9⟩ : S36)] : List (S36)))).bind fun bt216 => ((redraftlaw02_num.f bt199.2).bind fun t218 => (if t218 = 0 then ((redraftlaw02_num.f bt209.2).bind fun t219 => (if t219 = 0 then ((redraftlaw02_num.f bt216.2).bind fun t220 => (if t220 = 0 then (sRanks.j0 k a0_3 bt199.1 bt209.1 (bt216.1 != 6)) else (sRanks.j0 k a0_3 bt199.1 bt209.1 true))) else (sRanks.j0 k a0_3 bt199.1 bt209.1 true))) else (sRanks.j0 k a0_3 bt199.1 bt209.1 true)))))))) = some r := H
 have A3 := aM A30
 clear A30
 replace H := Option.bind_eq_some_iff.mp H
 obtain ⟨⟨t199, t200⟩, A40, H⟩ := H
 replace H : ((redraftlaw02_right.f k l0_1).bind fun t203 => ((redraftlaw02_copied.f t203).bind fun t206 => ((span_Make.f t206).bind fun bt209 => ((span_Count.f k (([(⟨2, 5⟩ : S36), (⟨6, 9⟩ : S36)] : List (S36)))).bind fun bt216 => ((redraftlaw02_num.f t200).bind fun t218 => (if t218 = 0 then ((redraftlaw02_num.f bt209.2).bind fun t219 => (if t219 = 0 then ((redraftlaw02_num.f bt216.2).bind fun t220 => (if t220 = 0 then (sRanks.j0 k a0_3 t199 bt209.1 (bt216.1 != 6)) else (sRanks.j0 k a0_3 t199 bt209.1 true))) else (sRanks.j0 k a0_3 t199 bt209.1 true))) else (sRanks.j0 k a0_3 t199 bt209.1 true))))))) = some r := H
 have A4 := aM A40
 clear A40
 replace H := Option.bind_eq_some_iff.mp H
 obtain ⟨t203, A50, H⟩ := H
 replace H : ((redraftlaw02_copied.f t203).bind fun t206 => ((span_Make.f t206).bind fun bt209 => ((span_Count.f k (([(⟨2, 5⟩ : S36), (⟨6, 9⟩ : S36)] : List (S36)))).bind fun bt216 => ((redraftlaw02_num.f t200).bind fun t218 => (if t218 = 0 then ((redraftlaw02_num.f bt209.2).bind fun t219 => (if t219 = 0 then ((redraftlaw02_num.f bt216.2).bind fun t220 => (if t220 = 0 then (sRanks.j0 k a0_3 t199 bt209.1 (bt216.1 != 6)) else (sRanks.j0 k a0_3 t199 bt209.1 true))) else (sRanks.j0 k a0_3 t199 bt209.1 true))) else (sRanks.j0 k a0_3 t199 bt209.1 true)))))) = some r := H
 have A5 := aM A50
 clear A50
 replace H := Option.bind_eq_some_iff.mp H
 obtain ⟨t206, A60, H⟩ := H
 replace H : ((span_Make.f t206).bind fun bt209 => ((span_Count.f k (([(⟨2, 5⟩ : S36), (⟨6, 9⟩ : S36)] : List (S36)))).bind fun bt216 => ((redraftlaw02_num.f t200).bind fun t218 => (if t218 = 0 then ((redraftlaw02_num.f bt209.2).bind fun t219 => (if t219 = 0 then ((redraftlaw02_num.f bt216.2).bind fun t220 => (if t220 = 0 then (sRanks.j0 k a0_3 t199 bt209.1 (bt216.1 != 6)) else (sRanks.j0 k a0_3 t199 bt209.1 true))) else (sRanks.j0 k a0_3 t199 bt209.1 true))) else (sRanks.j0 k a0_3 t199 bt209.1 true))))) = some r := H
 have A6 := aM A60
 clear A60
 replace H := Option.bind_eq_some_iff.mp H
 obtain ⟨⟨t209, t210⟩, A70, H⟩ := H
 replace H : ((span_Count.f k (([(⟨2, 5⟩ : S36), (⟨6, 9⟩ : S36)] : List (S36)))).bind fun bt216 => ((redraftlaw02_num.f t200).bind fun t218 => (if t218 = 0 then ((redraftlaw02_num.f t210).bind fun t219 => (if t219 = 0 then ((redraftlaw02_num.f bt216.2).bind fun t220 => (if t220 = 0 then (sRanks.j0 k a0_3 t199 t209 (bt216.1 != 6)) else (sRanks.j0 k a0_3 t199 t209 true))) else (sRanks.j0 k a0_3 t199 t209 true))) else (sRanks.j0 k a0_3 t199 t209 true)))) = some r := H
 have A7 := aM A70
 clear A70
 obtain ⟨y213, hy213⟩ : ∃ y_ : List (S36), y_ = (([(⟨2, 5⟩ : S36), (⟨6, 9⟩ : S36)] : List (S36))) := ⟨_, rfl⟩
 replace H : ((span_Count.f k y213).bind fun bt216 => ((redraftlaw02_num.f t200).bind fun t218 => (if t218 = 0 then ((redraftlaw02_num.f t210).bind fun t219 => (if t219 = 0 then ((redraftlaw02_num.f bt216.2).bind fun t220 => (if t220 = 0 then (sRanks.j0 k a0_3 t199 t209 (bt216.1 != 6)) else (sRanks.j0 k a0_3 t199 t209 true))) else (sRanks.j0 k a0_3 t199 t209 true))) else (sRanks.j0 k a0_3 t199 t209 true)))) = some r := by first | (rw [hy213]; with_reducible exact H) | (have H2_ := (Option.bind_some _ _).symm.trans H; rw [hy213]; with_reducible exact H2_) | (have H2_ := (Option.bind_some _ _).symm.trans H; with_reducible exact H2_) | with_reducible exact H | (rw [hy213]; exact H) | exact H
 have Ny213 := aM hy213
 clear hy213
 replace H := Option.bind_eq_some_iff.mp H
 obtain ⟨⟨t216, t217⟩, A80, H⟩ := H
 replace H : ((redraftlaw02_num.f t200).bind fun t218 => (if t218 = 0 then ((redraftlaw02_num.f t210).bind fun t219 => (if t219 = 0 then ((redraftlaw02_num.f t217).bind fun t220 => (if t220 = 0 then (sRanks.j0 k a0_3 t199 t209 (t216 != 6)) else (sRanks.j0 k a0_3 t199 t209 true))) else (sRanks.j0 k a0_3 t199 t209 true))) else (sRanks.j0 k a0_3 t199 t209 true))) = some r := H
 have A8 := aM A80
 clear A80
 have HC9 := aM H
 clear H
 go_enter Try.func7, Try.ntmps7
 go_upto_region 5 with (first | ((with_reducible refine gate_dst (N := 1) rfl ?_); (try (refine gate_guard (by rfl) ?_; dsimp only)); refine box_event ?hg (N := 1) ?hd (cs := #[.slice A0_0 l0_0.length c0_0, .slice A0_1 l0_1.length c0_1, .slice A0_2 l0_2.length c0_2, .int .i64 a0_3, .int .i64 a0_4]) (t := 25) ?hr ?_; (case hd => rfl); (case hg => rfl); (case hr => first | (go_simp; done) | (go_simp; rfl)); intro gb192 hg w10 hbox hb; have n0_ := aM (below_step (by repeat (first | (with_reducible first | exact HB.out | apply bA | apply bB | apply bC) | exact HB.out)) hb); have n1_ := aM (hbox); have n2_ := aM ((by rw [hg]; exact (below_size (by repeat (first | (with_reducible first | exact HB.out | apply bA | apply bB | apply bC) | exact HB.out))) : w.heap.size ≤ gb192)); have n3_ := aM ((by rw [hg]; exact (below_size (by repeat (first | (with_reducible first | exact HB.out | apply bA | apply bB | apply bC) | exact HB.out))) : w.heap.size ≤ gb192)); clear HB; have HB := n0_; have BK192 := n1_; have GW192 := n2_; have GE192 := n3_; clear n0_ n1_ n2_ n3_; clear hb hbox hg; have hcz11_0 : w10.cell? ⟨gb192, 0, none⟩ = some (.slice A0_0 l0_0.length c0_0) := (blk_cell BK192.out 0).trans rfl; have hcz11_1 : w10.cell? ⟨gb192, 1, none⟩ = some (.slice A0_1 l0_1.length c0_1) := (blk_cell BK192.out 1).trans rfl; have hcz11_2 : w10.cell? ⟨gb192, 2, none⟩ = some (.slice A0_2 l0_2.length c0_2) := (blk_cell BK192.out 2).trans rfl; have hcz11_3 : w10.cell? ⟨gb192, 3, none⟩ = some (.int .i64 a0_3) := (blk_cell BK192.out 3).trans rfl; have hcz11_4 : w10.cell? ⟨gb192, 4, none⟩ = some (.int .i64 a0_4) := (blk_cell BK192.out 4).trans rfl; have hfz11_0 := blk_frozen BK192.out 0; have hfz11_1 := blk_frozen BK192.out 1; have hfz11_2 := blk_frozen BK192.out 2; have hfz11_3 := blk_frozen BK192.out 3; have hfz11_4 := blk_frozen BK192.out 4) | ((with_reducible refine gate_callee (f := 18) rfl ?_); refine goesL_ (some 37) rfl rfl Try.func18 (by kernel_rfl) rfl #[.slice A0_0 l0_0.length c0_0] rfl (by (try simp only [List.map_toArray, List.map_cons, List.map_nil]); first | done | rfl) ?_; (with_reducible refine (redraftlaw02_right.calls k _ _ l0_0 t193 _ ?side1 ?side2 A2.out).mono ?_); (case side1 => repeat (first | exact (Kd.C_below HR0_0.out HB.out) | (with_reducible refine Kd.C_alloc ?_ _) | (with_reducible refine Kd.C_drewN ?_ _) | (with_reducible refine Kd.C_drew ?_))); (case side2 => exact HC0_0.out); rintro e w12 ⟨v194, rfl, ho0, hb⟩; refine ⟨_, rfl, ?_⟩; have n0_ := aM (Kd.R_lower ho0 (below_size (by repeat (first | (with_reducible first | exact HB.out | apply bA | apply bB | apply bC | refine bD ?_ GE192.out) | exact HB.out)))); have n1_ := aM (blk_below (g := gb192) (o := .cells #[.slice A0_0 l0_0.length c0_0, .slice A0_1 l0_1.length c0_1, .slice A0_2 l0_2.length c0_2, .int .i64 a0_3, .int .i64 a0_4] 25 (0, 0)) (by (with_reducible repeat (first | refine blk_drewN ?_ _ | refine blk_drew ?_ | refine blk_alloc ?_ _)); exact BK192.out) hb); have n2_ := aM (below_step (by repeat (first | (with_reducible first | exact HB.out | apply bA | apply bB | apply bC | refine bD ?_ GE192.out) | exact HB.out)) hb); clear BK192; clear HB; have HO195 := n0_; have BK192 := n1_; have HB := n2_; clear n0_ n1_ n2_; (try clear hb); (try clear hb2); (try clear hk); (try clear hi); (try clear ho0); obtain ⟨Ao13, co13, eo13⟩ := Kd.R_slice HO195.out; subst eo13) | ((with_reducible refine gate_callee (f := 17) rfl ?_); refine goesL_ (some 38) rfl rfl Try.func17 (by kernel_rfl) rfl #[.slice Ao13 t193.length co13] rfl (by (try simp only [List.map_toArray, List.map_cons, List.map_nil]); first | done | rfl) ?_; (with_reducible refine (redraftlaw02_copied.calls _ _ t193 t196 _ ?side1 ?side2 A3.out).mono ?_); (case side1 => repeat (first | exact (Kd.R_reads' HO195.out).2.2 | (with_reducible refine Kd.C_alloc ?_ _) | (with_reducible refine Kd.C_drewN ?_ _) | (with_reducible refine Kd.C_drew ?_))); (case side2 => exact (Kd.R_reads' HO195.out).2.1); rintro e w14 ⟨v197, rfl, ho0, hb⟩; refine ⟨_, rfl, ?_⟩; have n0_ := aM (rE (by (with_reducible repeat (first | apply rA | apply rB | apply rC)); exact HO195.out) (Kd.R_base ho0) hb); have n1_ := aM (Kd.R_lower (Kd.R_new' ho0 (Kd.R_lt (by (with_reducible repeat (first | apply rA | apply rB | apply rC)); exact HO195.out))) (below_size (by repeat (first | (with_reducible first | exact HB.out | apply bA | apply bB | apply bC | refine bD ?_ GE192.out) | exact HB.out)))); have n2_ := aM (blk_below (g := gb192) (o := .cells #[.slice A0_0 l0_0.length c0_0, .slice A0_1 l0_1.length c0_1, .slice A0_2 l0_2.length c0_2, .int .i64 a0_3, .int .i64 a0_4] 25 (0, 0)) (by (with_reducible repeat (first | refine blk_drewN ?_ _ | refine blk_drew ?_ | refine blk_alloc ?_ _)); exact BK192.out) hb); have n3_ := aM (below_step (by repeat (first | (with_reducible first | exact HB.out | apply bA | apply bB | apply bC | refine bD ?_ GE192.out) | exact HB.out)) hb); clear HO195; clear BK192; clear HB; have HO195 := n0_; have HO198 := n1_; have BK192 := n2_; have HB := n3_; clear n0_ n1_ n2_ n3_; (try clear hb); (try clear hb2); (try clear hk); (try clear hi); (try clear ho0); obtain ⟨Ao15, co15, eo15⟩ := Kd.R_slice HO198.out; subst eo15) | ((with_reducible refine gate_callee (f := 16) rfl ?_); refine goesL_ (some 39) rfl rfl Try.func16 (by kernel_rfl) rfl #[.slice Ao15 t196.length co15] rfl (by (try simp only [List.map_toArray, List.map_cons, List.map_nil]); first | done | rfl) ?_; (with_reducible refine (span_Make.calls _ _ t196 t199 t200 _ ?side1 ?side2 A4.out).mono ?_); (case side1 => repeat (first | exact (Kd.R_reads' HO198.out).2.2 | (with_reducible refine Kd.C_alloc ?_ _) | (with_reducible refine Kd.C_drewN ?_ _) | (with_reducible refine Kd.C_drew ?_))); (case side2 => exact (Kd.R_reads' HO198.out).2.1); rintro e w16 ⟨v201, rfl, ho0, hb⟩; refine ⟨_, rfl, ?_⟩; have n0_ := aM (rE (by (with_reducible repeat (first | apply rA | apply rB | apply rC)); exact HO195.out) (Kd.R_base ho0) hb); have n1_ := aM (rE (by (with_reducible repeat (first | apply rA | apply rB | apply rC)); exact HO198.out) (Kd.R_base ho0) hb); have n2_ := aM (Kd.R_lower (Kd.R_new' (Kd.R_new' ho0 (Kd.R_lt (by (with_reducible repeat (first | apply rA | apply rB | apply rC)); exact HO195.out))) (Kd.R_lt (by (with_reducible repeat (first | apply rA | apply rB | apply rC)); exact HO198.out))) (below_size (by repeat (first | (with_reducible first | exact HB.out | apply bA | apply bB | apply bC | refine bD ?_ GE192.out) | exact HB.out)))); have n3_ := aM (blk_below (g := gb192) (o := .cells #[.slice A0_0 l0_0.length c0_0, .slice A0_1 l0_1.length c0_1, .slice A0_2 l0_2.length c0_2, .int .i64 a0_3, .int .i64 a0_4] 25 (0, 0)) (by (with_reducible repeat (first | refine blk_drewN ?_ _ | refine blk_drew ?_ | refine blk_alloc ?_ _)); exact BK192.out) hb); have n4_ := aM (below_step (by repeat (first | (with_reducible first | exact HB.out | apply bA | apply bB | apply bC | refine bD ?_ GE192.out) | exact HB.out)) hb); clear HO195; clear HO198; clear BK192; clear HB; have HO195 := n0_; have HO198 := n1_; have HO202 := n2_; have BK192 := n3_; have HB := n4_; clear n0_ n1_ n2_ n3_ n4_; (try clear hb); (try clear hb2); (try clear hk); (try clear hi); (try clear ho0); have hcz17_0 : w16.cell? ⟨gb192, 0, none⟩ = some (.slice A0_0 l0_0.length c0_0) := (blk_cell BK192.out 0).trans rfl; have hcz17_1 : w16.cell? ⟨gb192, 1, none⟩ = some (.slice A0_1 l0_1.length c0_1) := (blk_cell BK192.out 1).trans rfl; have hcz17_2 : w16.cell? ⟨gb192, 2, none⟩ = some (.slice A0_2 l0_2.length c0_2) := (blk_cell BK192.out 2).trans rfl; have hcz17_3 : w16.cell? ⟨gb192, 3, none⟩ = some (.int .i64 a0_3) := (blk_cell BK192.out 3).trans rfl; have hcz17_4 : w16.cell? ⟨gb192, 4, none⟩ = some (.int .i64 a0_4) := (blk_cell BK192.out 4).trans rfl; have hfz17_0 := blk_frozen BK192.out 0; have hfz17_1 := blk_frozen BK192.out 1; have hfz17_2 := blk_frozen BK192.out 2; have hfz17_3 := blk_frozen BK192.out 3; have hfz17_4 := blk_frozen BK192.out 4) | ((with_reducible refine gate_callee (f := 18) rfl ?_); refine goesL_ (some 45) rfl rfl Try.func18 (by kernel_rfl) rfl #[.slice A0_1 l0_1.length c0_1] rfl (by (try simp only [List.map_toArray, List.map_cons, List.map_nil]); first | done | rfl) ?_; (with_reducible refine (redraftlaw02_right.calls k _ _ l0_1 t203 _ ?side1 ?side2 A5.out).mono ?_); (case side1 => repeat (first | exact (Kd.C_below HR0_1.out HB.out) | (with_reducible refine Kd.C_alloc ?_ _) | (with_reducible refine Kd.C_drewN ?_ _) | (with_reducible refine Kd.C_drew ?_))); (case side2 => exact HC0_1.out); rintro e w18 ⟨v204, rfl, ho0, hb⟩; refine ⟨_, rfl, ?_⟩; have n0_ := aM (rE (by (with_reducible repeat (first | apply rA | apply rB | apply rC)); exact HO195.out) (Kd.R_base ho0) hb); have n1_ := aM (rE (by (with_reducible repeat (first | apply rA | apply rB | apply rC)); exact HO198.out) (Kd.R_base ho0) hb); have n2_ := aM (rE (by (with_reducible repeat (first | apply rA | apply rB | apply rC)); exact HO202.out) (Kd.R_base ho0) hb); have n3_ := aM (Kd.R_lower (Kd.R_new' (Kd.R_new' (Kd.R_new' ho0 (Kd.R_lt (by (with_reducible repeat (first | apply rA | apply rB | apply rC)); exact HO195.out))) (Kd.R_lt (by (with_reducible repeat (first | apply rA | apply rB | apply rC)); exact HO198.out))) (Kd.R_lt (by (with_reducible repeat (first | apply rA | apply rB | apply rC)); exact HO202.out))) (below_size (by repeat (first | (with_reducible first | exact HB.out | apply bA | apply bB | apply bC | refine bD ?_ GE192.out) | exact HB.out)))); have n4_ := aM (blk_below (g := gb192) (o := .cells #[.slice A0_0 l0_0.length c0_0, .slice A0_1 l0_1.length c0_1, .slice A0_2 l0_2.length c0_2, .int .i64 a0_3, .int .i64 a0_4] 25 (0, 0)) (by (with_reducible repeat (first | refine blk_drewN ?_ _ | refine blk_drew ?_ | refine blk_alloc ?_ _)); exact BK192.out) hb); have n5_ := aM (below_step (by repeat (first | (with_reducible first | exact HB.out | apply bA | apply bB | apply bC | refine bD ?_ GE192.out) | exact HB.out)) hb); clear HO195; clear HO198; clear HO202; clear BK192; clear HB; have HO195 := n0_; have HO198 := n1_; have HO202 := n2_; have HO205 := n3_; have BK192 := n4_; have HB := n5_; clear n0_ n1_ n2_ n3_ n4_ n5_; (try clear hb); (try clear hb2); (try clear hk); (try clear hi); (try clear ho0); obtain ⟨Ao19, co19, eo19⟩ := Kd.R_slice HO205.out; subst eo19) | ((with_reducible refine gate_callee (f := 17) rfl ?_); refine goesL_ (some 46) rfl rfl Try.func17 (by kernel_rfl) rfl #[.slice Ao19 t203.length co19] rfl (by (try simp only [List.map_toArray, List.map_cons, List.map_nil]); first | done | rfl) ?_; (with_reducible refine (redraftlaw02_copied.calls _ _ t203 t206 _ ?side1 ?side2 A6.out).mono ?_); (case side1 => repeat (first | exact (Kd.R_reads' HO205.out).2.2 | (with_reducible refine Kd.C_alloc ?_ _) | (with_reducible refine Kd.C_drewN ?_ _) | (with_reducible refine Kd.C_drew ?_))); (case side2 => exact (Kd.R_reads' HO205.out).2.1); rintro e w20 ⟨v207, rfl, ho0, hb⟩; refine ⟨_, rfl, ?_⟩; have n0_ := aM (rE (by (with_reducible repeat (first | apply rA | apply rB | apply rC)); exact HO195.out) (Kd.R_base ho0) hb); have n1_ := aM (rE (by (with_reducible repeat (first | apply rA | apply rB | apply rC)); exact HO198.out) (Kd.R_base ho0) hb); have n2_ := aM (rE (by (with_reducible repeat (first | apply rA | apply rB | apply rC)); exact HO202.out) (Kd.R_base ho0) hb); have n3_ := aM (rE (by (with_reducible repeat (first | apply rA | apply rB | apply rC)); exact HO205.out) (Kd.R_base ho0) hb); have n4_ := aM (Kd.R_lower (Kd.R_new' (Kd.R_new' (Kd.R_new' (Kd.R_new' ho0 (Kd.R_lt (by (with_reducible repeat (first | apply rA | apply rB | apply rC)); exact HO195.out))) (Kd.R_lt (by (with_reducible repeat (first | apply rA | apply rB | apply rC)); exact HO198.out))) (Kd.R_lt (by (with_reducible repeat (first | apply rA | apply rB | apply rC)); exact HO202.out))) (Kd.R_lt (by (with_reducible repeat (first | apply rA | apply rB | apply rC)); exact HO205.out))) (below_size (by repeat (first | (with_reducible first | exact HB.out | apply bA | apply bB | apply bC | refine bD ?_ GE192.out) | exact HB.out)))); have n5_ := aM (blk_below (g := gb192) (o := .cells #[.slice A0_0 l0_0.length c0_0, .slice A0_1 l0_1.length c0_1, .slice A0_2 l0_2.length c0_2, .int .i64 a0_3, .int .i64 a0_4] 25 (0, 0)) (by (with_reducible repeat (first | refine blk_drewN ?_ _ | refine blk_drew ?_ | refine blk_alloc ?_ _)); exact BK192.out) hb); have n6_ := aM (below_step (by repeat (first | (with_reducible first | exact HB.out | apply bA | apply bB | apply bC | refine bD ?_ GE192.out) | exact HB.out)) hb); clear HO195; clear HO198; clear HO202; clear HO205; clear BK192; clear HB; have HO195 := n0_; have HO198 := n1_; have HO202 := n2_; have HO205 := n3_; have HO208 := n4_; have BK192 := n5_; have HB := n6_; clear n0_ n1_ n2_ n3_ n4_ n5_ n6_; (try clear hb); (try clear hb2); (try clear hk); (try clear hi); (try clear ho0); obtain ⟨Ao21, co21, eo21⟩ := Kd.R_slice HO208.out; subst eo21) | ((with_reducible refine gate_callee (f := 16) rfl ?_); refine goesL_ (some 47) rfl rfl Try.func16 (by kernel_rfl) rfl #[.slice Ao21 t206.length co21] rfl (by (try simp only [List.map_toArray, List.map_cons, List.map_nil]); first | done | rfl) ?_; (with_reducible refine (span_Make.calls _ _ t206 t209 t210 _ ?side1 ?side2 A7.out).mono ?_); (case side1 => repeat (first | exact (Kd.R_reads' HO208.out).2.2 | (with_reducible refine Kd.C_alloc ?_ _) | (with_reducible refine Kd.C_drewN ?_ _) | (with_reducible refine Kd.C_drew ?_))); (case side2 => exact (Kd.R_reads' HO208.out).2.1); rintro e w22 ⟨v211, rfl, ho0, hb⟩; refine ⟨_, rfl, ?_⟩; have n0_ := aM (rE (by (with_reducible repeat (first | apply rA | apply rB | apply rC)); exact HO195.out) (Kd.R_base ho0) hb); have n1_ := aM (rE (by (with_reducible repeat (first | apply rA | apply rB | apply rC)); exact HO198.out) (Kd.R_base ho0) hb); have n2_ := aM (rE (by (with_reducible repeat (first | apply rA | apply rB | apply rC)); exact HO202.out) (Kd.R_base ho0) hb); have n3_ := aM (rE (by (with_reducible repeat (first | apply rA | apply rB | apply rC)); exact HO205.out) (Kd.R_base ho0) hb); have n4_ := aM (rE (by (with_reducible repeat (first | apply rA | apply rB | apply rC)); exact HO208.out) (Kd.R_base ho0) hb); have n5_ := aM (Kd.R_lower (Kd.R_new' (Kd.R_new' (Kd.R_new' (Kd.R_new' (Kd.R_new' ho0 (Kd.R_lt (by (with_reducible repeat (first | apply rA | apply rB | apply rC)); exact HO195.out))) (Kd.R_lt (by (with_reducible repeat (first | apply rA | apply rB | apply rC)); exact HO198.out))) (Kd.R_lt (by (with_reducible repeat (first | apply rA | apply rB | apply rC)); exact HO202.out))) (Kd.R_lt (by (with_reducible repeat (first | apply rA | apply rB | apply rC)); exact HO205.out))) (Kd.R_lt (by (with_reducible repeat (first | apply rA | apply rB | apply rC)); exact HO208.out))) (below_size (by repeat (first | (with_reducible first | exact HB.out | apply bA | apply bB | apply bC | refine bD ?_ GE192.out) | exact HB.out)))); have n6_ := aM (blk_below (g := gb192) (o := .cells #[.slice A0_0 l0_0.length c0_0, .slice A0_1 l0_1.length c0_1, .slice A0_2 l0_2.length c0_2, .int .i64 a0_3, .int .i64 a0_4] 25 (0, 0)) (by (with_reducible repeat (first | refine blk_drewN ?_ _ | refine blk_drew ?_ | refine blk_alloc ?_ _)); exact BK192.out) hb); have n7_ := aM (below_step (by repeat (first | (with_reducible first | exact HB.out | apply bA | apply bB | apply bC | refine bD ?_ GE192.out) | exact HB.out)) hb); clear HO195; clear HO198; clear HO202; clear HO205; clear HO208; clear BK192; clear HB; have HO195 := n0_; have HO198 := n1_; have HO202 := n2_; have HO205 := n3_; have HO208 := n4_; have HO212 := n5_; have BK192 := n6_; have HB := n7_; clear n0_ n1_ n2_ n3_ n4_ n5_ n6_ n7_; (try clear hb); (try clear hb2); (try clear hk); (try clear hi); (try clear ho0)) | ((with_reducible refine gate_dst (N := 53) rfl ?_); (try (refine gate_guard (by rfl) ?_; dsimp only)); refine Kd.R_lit k36 _ 36 ?hg (N := 53) ?hd (xs := ([(⟨2, 5⟩ : S36), (⟨6, 9⟩ : S36)] : List (S36))) (inner := [.int .i64 2, .int .i64 5, .int .i64 6, .int .i64 9]) (ok := fun _ => True) (okp := fun _ => True) ?hr ?hp (fun _ hk => hk) trivial (Below.refl _ _) (Nat.le_refl _) (by simp) ?_; (case hd => rfl); (case hg => rfl); (case hr => first | (go_simp; done) | (go_simp; rfl)); (case hp => exact (Reps.c2 (show Kd.M k36 _ _ _ (⟨2, 5⟩ : S36) [.int .i64 2, .int .i64 5] from (k36_mkM _ _ _ (⟨2, 5⟩ : S36) )) (Reps.c2 (show Kd.M k36 _ _ _ (⟨6, 9⟩ : S36) [.int .i64 6, .int .i64 9] from (k36_mkM _ _ _ (⟨6, 9⟩ : S36) )) (Reps.none _ _)))); intro v214 w23 ho24 hb hg_ hnew_; clear hg_ hnew_; (first | rw [← Ny213.out] at ho24 | (simp only [Int.reduceToNat] at ho24; rw [← Ny213.out] at ho24)); have n0_ := aM (rE (by (with_reducible repeat (first | apply rA | apply rB | apply rC)); exact HO195.out) (Kd.R_base ho24) hb); have n1_ := aM (rE (by (with_reducible repeat (first | apply rA | apply rB | apply rC)); exact HO198.out) (Kd.R_base ho24) hb); have n2_ := aM (rE (by (with_reducible repeat (first | apply rA | apply rB | apply rC)); exact HO202.out) (Kd.R_base ho24) hb); have n3_ := aM (rE (by (with_reducible repeat (first | apply rA | apply rB | apply rC)); exact HO205.out) (Kd.R_base ho24) hb); have n4_ := aM (rE (by (with_reducible repeat (first | apply rA | apply rB | apply rC)); exact HO208.out) (Kd.R_base ho24) hb); have n5_ := aM (rE (by (with_reducible repeat (first | apply rA | apply rB | apply rC)); exact HO212.out) (Kd.R_base ho24) hb); have n6_ := aM (Kd.R_lower (Kd.R_new' (Kd.R_new' (Kd.R_new' (Kd.R_new' (Kd.R_new' (Kd.R_new' ho24 (Kd.R_lt (by (with_reducible repeat (first | apply rA | apply rB | apply rC)); exact HO195.out))) (Kd.R_lt (by (with_reducible repeat (first | apply rA | apply rB | apply rC)); exact HO198.out))) (Kd.R_lt (by (with_reducible repeat (first | apply rA | apply rB | apply rC)); exact HO202.out))) (Kd.R_lt (by (with_reducible repeat (first | apply rA | apply rB | apply rC)); exact HO205.out))) (Kd.R_lt (by (with_reducible repeat (first | apply rA | apply rB | apply rC)); exact HO208.out))) (Kd.R_lt (by (with_reducible repeat (first | apply rA | apply rB | apply rC)); exact HO212.out))) (below_size (by repeat (first | (with_reducible first | exact HB.out | apply bA | apply bB | apply bC | refine bD ?_ GE192.out) | exact HB.out)))); have n7_ := aM (blk_below (g := gb192) (o := .cells #[.slice A0_0 l0_0.length c0_0, .slice A0_1 l0_1.length c0_1, .slice A0_2 l0_2.length c0_2, .int .i64 a0_3, .int .i64 a0_4] 25 (0, 0)) (by (with_reducible repeat (first | refine blk_drewN ?_ _ | refine blk_drew ?_ | refine blk_alloc ?_ _)); exact BK192.out) hb); have n8_ := aM (below_step (by repeat (first | (with_reducible first | exact HB.out | apply bA | apply bB | apply bC | refine bD ?_ GE192.out) | exact HB.out)) hb); clear HO195; clear HO198; clear HO202; clear HO205; clear HO208; clear HO212; clear BK192; clear HB; have HO195 := n0_; have HO198 := n1_; have HO202 := n2_; have HO205 := n3_; have HO208 := n4_; have HO212 := n5_; have HO215 := n6_; have BK192 := n7_; have HB := n8_; clear n0_ n1_ n2_ n3_ n4_ n5_ n6_ n7_ n8_; clear hb ho24; obtain ⟨Ao25, co25, eo25⟩ := Kd.R_slice HO215.out; subst eo25) | ((with_reducible refine gate_callee (f := 33) rfl ?_); refine goesL_ (some 54) rfl rfl Try.func33 (by kernel_rfl) rfl #[.slice Ao25 y213.length co25] rfl (by (try simp only [List.map_toArray, List.map_cons, List.map_nil]); first | done | rfl) ?_; (with_reducible refine (span_Count.calls k _ _ y213 t216 t217 _ ?side1 ?side2 A8.out).mono ?_); (case side1 => repeat (first | exact (Kd.R_reads' HO215.out).2.2 | (with_reducible refine Kd.C_alloc ?_ _) | (with_reducible refine Kd.C_drewN ?_ _) | (with_reducible refine Kd.C_drew ?_))); (case side2 => exact (Kd.R_reads' HO215.out).2.1); rintro e w26 ⟨rfl, hb⟩; refine ⟨_, rfl, ?_⟩; have n0_ := aM (Kd.R_below (by (with_reducible repeat (first | apply rA | apply rB | apply rC)); exact HO195.out) hb); have n1_ := aM (Kd.R_below (by (with_reducible repeat (first | apply rA | apply rB | apply rC)); exact HO198.out) hb); have n2_ := aM (Kd.R_below (by (with_reducible repeat (first | apply rA | apply rB | apply rC)); exact HO202.out) hb); have n3_ := aM (Kd.R_below (by (with_reducible repeat (first | apply rA | apply rB | apply rC)); exact HO205.out) hb); have n4_ := aM (Kd.R_below (by (with_reducible repeat (first | apply rA | apply rB | apply rC)); exact HO208.out) hb); have n5_ := aM (Kd.R_below (by (with_reducible repeat (first | apply rA | apply rB | apply rC)); exact HO212.out) hb); have n6_ := aM (Kd.R_below (by (with_reducible repeat (first | apply rA | apply rB | apply rC)); exact HO215.out) hb); have n7_ := aM (blk_below (g := gb192) (o := .cells #[.slice A0_0 l0_0.length c0_0, .slice A0_1 l0_1.length c0_1, .slice A0_2 l0_2.length c0_2, .int .i64 a0_3, .int .i64 a0_4] 25 (0, 0)) (by (with_reducible repeat (first | refine blk_drewN ?_ _ | refine blk_drew ?_ | refine blk_alloc ?_ _)); exact BK192.out) hb); have n8_ := aM (below_step (by repeat (first | (with_reducible first | exact HB.out | apply bA | apply bB | apply bC | refine bD ?_ GE192.out) | exact HB.out)) hb); clear HO195; clear HO198; clear HO202; clear HO205; clear HO208; clear HO212; clear HO215; clear BK192; clear HB; have HO195 := n0_; have HO198 := n1_; have HO202 := n2_; have HO205 := n3_; have HO208 := n4_; have HO212 := n5_; have HO215 := n6_; have BK192 := n7_; have HB := n8_; clear n0_ n1_ n2_ n3_ n4_ n5_ n6_ n7_ n8_; (try clear hb); (try clear hb2); (try clear hk); (try clear hi)))
 (try simp only [Act.put, List.setIfInBounds_toArray, List.set_cons_zero, List.set_cons_succ])
 go_cut [73] (fun v73 wc => ∃ (kq : Nat) (x73_8 : Bool), v73 = .bool x73_8 ∧ Aside0 (sRanks.j0 kq a0_3 t199 t209 x73_8 = some r) ∧ Aside0 (kq ≤ k) ∧ Aside0 (Kd.R k36 36 wc w.heap.size (fun k_ => some k_ ≠ (v211 : Value).ownBlock) v201 t199) ∧ Aside0 (Kd.R k36 36 wc w.heap.size (fun k_ => some k_ ≠ (v201 : Value).ownBlock) v211 t209) ∧ Aside0 (wc.heap[gb192]? = some (.cells #[(.slice A0_0 l0_0.length c0_0), (.slice A0_1 l0_1.length c0_1), (.slice A0_2 l0_2.length c0_2), .int .i64 a0_3, .int .i64 a0_4] 25 (0, 0))) ∧ Aside0 (Below w.heap.size w wc))
 case first => as_aux_lemma =>
  have H := HC9.out
  clear HC9
  replace H := Option.bind_eq_some_iff.mp H
  obtain ⟨t218, A270, H⟩ := H
  replace H : (if t218 = 0 then ((redraftlaw02_num.f t210).bind fun t219 => (if t219 = 0 then ((redraftlaw02_num.f t217).bind fun t220 => (if t220 = 0 then (sRanks.j0 k a0_3 t199 t209 (t216 != 6)) else (sRanks.j0 k a0_3 t199 t209 true))) else (sRanks.j0 k a0_3 t199 t209 true))) else (sRanks.j0 k a0_3 t199 t209 true)) = some r := H
  have A27 := aM A270
  clear A270
  by_cases c28 : t218 = 0
  case neg =>
   rw [if_neg c28] at H
   have c28b0 : (t218 == 0) = false := beq_eq_false_iff_ne.mpr c28
   have c28b1 : (t218 != 0) = true := bne_iff_ne.mpr c28
   (first | rw [c28b0] | (simp only [i64_w, i32_w]; rw [c28b0]) | skip)
   have H' := aM H
   clear H
   go_wp2_with (first | ((with_reducible refine gate_callee (f := 19) rfl ?_); refine goesL_ (some 58) rfl rfl Try.func19 (by kernel_rfl) rfl #[.int .i64 t200] rfl (by (try simp only [List.map_toArray, List.map_cons, List.map_nil]); first | done | rfl) ?_; (with_reducible refine (redraftlaw02_num.calls t200 t218 _ A27.out).mono ?_); rintro e w' ⟨rfl, ⟨nd, rfl⟩⟩; refine ⟨_, rfl, ?_⟩))
   go_meet
   case rel => exact ⟨_, (true), (by first | rfl | (simp; done) | (simp [*]; done)), H', ⟨by first | omega | exact Nat.le_refl _⟩, ⟨by (with_reducible repeat (first | apply rA | apply rB | apply rC)); exact Kd.R_mono HO202.out (fun _ hk => hk.1.2)⟩, ⟨by (with_reducible repeat (first | apply rA | apply rB | apply rC)); exact Kd.R_mono HO212.out (fun _ hk => hk.1.1.1.2)⟩, ⟨by (with_reducible repeat (first | refine blk_drewN ?_ _ | refine blk_drew ?_ | refine blk_alloc ?_ _)); exact BK192.out⟩, ⟨by repeat (first | (with_reducible first | exact HB.out | apply bA | apply bB | apply bC | refine bD ?_ GE192.out) | exact HB.out)⟩⟩
  rw [if_pos c28] at H
  have c28b0 : (t218 == 0) = true := beq_iff_eq.mpr c28
  have c28b1 : (t218 != 0) = false := bne_eq_false_iff_eq.mpr c28
  clear c28
  (first | rw [c28b0] | (simp only [i64_w, i32_w]; rw [c28b0]) | skip)
  replace H := Option.bind_eq_some_iff.mp H
  obtain ⟨t219, A290, H⟩ := H
  replace H : (if t219 = 0 then ((redraftlaw02_num.f t217).bind fun t220 => (if t220 = 0 then (sRanks.j0 k a0_3 t199 t209 (t216 != 6)) else (sRanks.j0 k a0_3 t199 t209 true))) else (sRanks.j0 k a0_3 t199 t209 true)) = some r := H
  have A29 := aM A290
  clear A290
  by_cases c30 : t219 = 0
  case neg =>
   rw [if_neg c30] at H
   have c30b0 : (t219 == 0) = false := beq_eq_false_iff_ne.mpr c30
   have c30b1 : (t219 != 0) = true := bne_iff_ne.mpr c30
   have H' := aM H
   clear H
   go_wp2_with (first | ((with_reducible refine gate_callee (f := 19) rfl ?_); refine goesL_ (some 58) rfl rfl Try.func19 (by kernel_rfl) rfl #[.int .i64 t200] rfl (by (try simp only [List.map_toArray, List.map_cons, List.map_nil]); first | done | rfl) ?_; (with_reducible refine (redraftlaw02_num.calls t200 t218 _ A27.out).mono ?_); rintro e w' ⟨rfl, ⟨nd, rfl⟩⟩; refine ⟨_, rfl, ?_⟩) | (go_at_call 19; (with_reducible refine (redraftlaw02_num.calls t210 t219 _ A29.out).mono ?_); rintro e w' ⟨rfl, ⟨nd, rfl⟩⟩))
   go_meet
   case rel => exact ⟨_, (true), (by first | rfl | (simp; done) | (simp [*]; done)), H', ⟨by first | omega | exact Nat.le_refl _⟩, ⟨by (with_reducible repeat (first | apply rA | apply rB | apply rC)); exact Kd.R_mono HO202.out (fun _ hk => hk.1.2)⟩, ⟨by (with_reducible repeat (first | apply rA | apply rB | apply rC)); exact Kd.R_mono HO212.out (fun _ hk => hk.1.1.1.2)⟩, ⟨by (with_reducible repeat (first | refine blk_drewN ?_ _ | refine blk_drew ?_ | refine blk_alloc ?_ _)); exact BK192.out⟩, ⟨by repeat (first | (with_reducible first | exact HB.out | apply bA | apply bB | apply bC | refine bD ?_ GE192.out) | exact HB.out)⟩⟩
  rw [if_pos c30] at H
  have c30b0 : (t219 == 0) = true := beq_iff_eq.mpr c30
  have c30b1 : (t219 != 0) = false := bne_eq_false_iff_eq.mpr c30
  clear c30
  replace H := Option.bind_eq_some_iff.mp H
  obtain ⟨t220, A310, H⟩ := H
  replace H : (if t220 = 0 then (sRanks.j0 k a0_3 t199 t209 (t216 != 6)) else (sRanks.j0 k a0_3 t199 t209 true)) = some r := H
  have A31 := aM A310
  clear A310
  by_cases c32 : t220 = 0
  case neg =>
   rw [if_neg c32] at H
   have c32b0 : (t220 == 0) = false := beq_eq_false_iff_ne.mpr c32
   have c32b1 : (t220 != 0) = true := bne_iff_ne.mpr c32
   have H' := aM H
   clear H
   go_wp2_with (first | ((with_reducible refine gate_callee (f := 19) rfl ?_); refine goesL_ (some 58) rfl rfl Try.func19 (by kernel_rfl) rfl #[.int .i64 t200] rfl (by (try simp only [List.map_toArray, List.map_cons, List.map_nil]); first | done | rfl) ?_; (with_reducible refine (redraftlaw02_num.calls t200 t218 _ A27.out).mono ?_); rintro e w' ⟨rfl, ⟨nd, rfl⟩⟩; refine ⟨_, rfl, ?_⟩) | (go_at_call 19; (with_reducible refine (redraftlaw02_num.calls t210 t219 _ A29.out).mono ?_); rintro e w' ⟨rfl, ⟨nd, rfl⟩⟩) | (go_at_call 19; (with_reducible refine (redraftlaw02_num.calls t217 t220 _ A31.out).mono ?_); rintro e w' ⟨rfl, ⟨nd, rfl⟩⟩))
   go_meet
   case rel => exact ⟨_, (true), (by first | rfl | (simp; done) | (simp [*]; done)), H', ⟨by first | omega | exact Nat.le_refl _⟩, ⟨by (with_reducible repeat (first | apply rA | apply rB | apply rC)); exact Kd.R_mono HO202.out (fun _ hk => hk.1.2)⟩, ⟨by (with_reducible repeat (first | apply rA | apply rB | apply rC)); exact Kd.R_mono HO212.out (fun _ hk => hk.1.1.1.2)⟩, ⟨by (with_reducible repeat (first | refine blk_drewN ?_ _ | refine blk_drew ?_ | refine blk_alloc ?_ _)); exact BK192.out⟩, ⟨by repeat (first | (with_reducible first | exact HB.out | apply bA | apply bB | apply bC | refine bD ?_ GE192.out) | exact HB.out)⟩⟩
  rw [if_pos c32] at H
  have c32b0 : (t220 == 0) = true := beq_iff_eq.mpr c32
  have c32b1 : (t220 != 0) = false := bne_eq_false_iff_eq.mpr c32
  clear c32
  have H' := aM H
  clear H
  go_wp2_with (first | ((with_reducible refine gate_callee (f := 19) rfl ?_); refine goesL_ (some 58) rfl rfl Try.func19 (by kernel_rfl) rfl #[.int .i64 t200] rfl (by (try simp only [List.map_toArray, List.map_cons, List.map_nil]); first | done | rfl) ?_; (with_reducible refine (redraftlaw02_num.calls t200 t218 _ A27.out).mono ?_); rintro e w' ⟨rfl, ⟨nd, rfl⟩⟩; refine ⟨_, rfl, ?_⟩) | (go_at_call 19; (with_reducible refine (redraftlaw02_num.calls t210 t219 _ A29.out).mono ?_); rintro e w' ⟨rfl, ⟨nd, rfl⟩⟩) | (go_at_call 19; (with_reducible refine (redraftlaw02_num.calls t217 t220 _ A31.out).mono ?_); rintro e w' ⟨rfl, ⟨nd, rfl⟩⟩))
  go_meet
  case rel => exact ⟨_, ((t216 != 6)), (by first | rfl | (simp; done) | (simp [*]; done)), H', ⟨by first | omega | exact Nat.le_refl _⟩, ⟨by (with_reducible repeat (first | apply rA | apply rB | apply rC)); exact Kd.R_mono HO202.out (fun _ hk => hk.1.2)⟩, ⟨by (with_reducible repeat (first | apply rA | apply rB | apply rC)); exact Kd.R_mono HO212.out (fun _ hk => hk.1.1.1.2)⟩, ⟨by (with_reducible repeat (first | refine blk_drewN ?_ _ | refine blk_drew ?_ | refine blk_alloc ?_ _)); exact BK192.out⟩, ⟨by repeat (first | (with_reducible first | exact HB.out | apply bA | apply bB | apply bC | refine bD ?_ GE192.out) | exact HB.out)⟩⟩
 case rest => as_aux_lemma =>
  clear HC9
  obtain ⟨kq, x73_8, rfl, HA, HJ8, HO_4, HO_6, BK192, HB⟩ := hcut
  cases kq with
  | zero => exact absurd HA.out (by simp [sRanks.j0])
  | succ kj8 =>
   have H := HA.out
   clear HA
   simp only [sRanks.j0] at H
   by_cases c33 : x73_8 = true
   case pos =>
    subst c33
    have H1 : (some false) = some r := by rw [if_pos rfl] at H; exact H
    clear H
    have H := H1
    clear H1
    obtain rfl := Option.some.inj H
    go_wp2
    go_ret
    exact ⟨by first | rfl | (simp [errW_none, errW_some] <;> rfl) | (simp [*, errW_none, errW_some] <;> rfl), by repeat (first | (with_reducible first | exact HB.out | apply bA | apply bB | apply bC | refine bD ?_ GE192.out) | exact HB.out)⟩
   replace c33 := Bool.eq_false_iff.mpr c33
   subst c33
   have H1 : ((redraftlaw02_copied.f t199).bind fun t221 => ((span_Count.f kj8 t221).bind fun bt224 => ((redraftlaw02_copied.f t209).bind fun t226 => ((span_Count.f kj8 t226).bind fun bt229 => ((redraftlaw02_num.f bt224.2).bind fun t231 => (if t231 = 0 then ((redraftlaw02_num.f bt229.2).bind fun t232 => (sRanks.j1 kj8 a0_3 t199 t209 bt224.1 bt229.1 (t232 != 0))) else (sRanks.j1 kj8 a0_3 t199 t209 bt224.1 bt229.1 true))))))) = some r := by rw [if_neg (show ¬ (false = true) by decide)] at H; exact H
   clear H
   have H := H1
   clear H1
   replace H := Option.bind_eq_some_iff.mp H
   obtain ⟨t221, A340, H⟩ := H
   replace H : ((span_Count.f kj8 t221).bind fun bt224 => ((redraftlaw02_copied.f t209).bind fun t226 => ((span_Count.f kj8 t226).bind fun bt229 => ((redraftlaw02_num.f bt224.2).bind fun t231 => (if t231 = 0 then ((redraftlaw02_num.f bt229.2).bind fun t232 => (sRanks.j1 kj8 a0_3 t199 t209 bt224.1 bt229.1 (t232 != 0))) else (sRanks.j1 kj8 a0_3 t199 t209 bt224.1 bt229.1 true)))))) = some r := H
   have A34 := aM A340
   clear A340
   replace H := Option.bind_eq_some_iff.mp H
   obtain ⟨⟨t224, t225⟩, A350, H⟩ := H
   replace H : ((redraftlaw02_copied.f t209).bind fun t226 => ((span_Count.f kj8 t226).bind fun bt229 => ((redraftlaw02_num.f t225).bind fun t231 => (if t231 = 0 then ((redraftlaw02_num.f bt229.2).bind fun t232 => (sRanks.j1 kj8 a0_3 t199 t209 t224 bt229.1 (t232 != 0))) else (sRanks.j1 kj8 a0_3 t199 t209 t224 bt229.1 true))))) = some r := H
   have A35 := aM A350
   clear A350
   replace H := Option.bind_eq_some_iff.mp H
   obtain ⟨t226, A360, H⟩ := H
   replace H : ((span_Count.f kj8 t226).bind fun bt229 => ((redraftlaw02_num.f t225).bind fun t231 => (if t231 = 0 then ((redraftlaw02_num.f bt229.2).bind fun t232 => (sRanks.j1 kj8 a0_3 t199 t209 t224 bt229.1 (t232 != 0))) else (sRanks.j1 kj8 a0_3 t199 t209 t224 bt229.1 true)))) = some r := H
   have A36 := aM A360
   clear A360
   replace H := Option.bind_eq_some_iff.mp H
   obtain ⟨⟨t229, t230⟩, A370, H⟩ := H
   replace H : ((redraftlaw02_num.f t225).bind fun t231 => (if t231 = 0 then ((redraftlaw02_num.f t230).bind fun t232 => (sRanks.j1 kj8 a0_3 t199 t209 t224 t229 (t232 != 0))) else (sRanks.j1 kj8 a0_3 t199 t209 t224 t229 true))) = some r := H
   have A37 := aM A370
   clear A370
   have HC38 := aM H
   clear H
   obtain ⟨Ao39, co39, eo39⟩ := Kd.R_slice HO_4.out
   subst eo39
   go_upto_region 9 with (first | ((with_reducible refine gate_callee (f := 17) rfl ?_); refine goesL_ (some 76) rfl rfl Try.func17 (by kernel_rfl) rfl #[.slice Ao39 t199.length co39] rfl (by (try simp only [List.map_toArray, List.map_cons, List.map_nil]); first | done | rfl) ?_; (with_reducible refine (redraftlaw02_copied.calls _ _ t199 t221 _ ?side1 ?side2 A34.out).mono ?_); (case side1 => repeat (first | exact (Kd.R_reads' HO_4.out).2.2 | (with_reducible refine Kd.C_alloc ?_ _) | (with_reducible refine Kd.C_drewN ?_ _) | (with_reducible refine Kd.C_drew ?_))); (case side2 => exact (Kd.R_reads' HO_4.out).2.1); rintro e w40 ⟨v222, rfl, ho0, hb⟩; refine ⟨_, rfl, ?_⟩; have n0_ := aM (rE (by (with_reducible repeat (first | apply rA | apply rB | apply rC)); exact HO_4.out) (Kd.R_base ho0) hb); have n1_ := aM (rE (by (with_reducible repeat (first | apply rA | apply rB | apply rC)); exact HO_6.out) (Kd.R_base ho0) hb); have n2_ := aM (Kd.R_lower (Kd.R_new' (Kd.R_new' ho0 (Kd.R_lt (by (with_reducible repeat (first | apply rA | apply rB | apply rC)); exact HO_4.out))) (Kd.R_lt (by (with_reducible repeat (first | apply rA | apply rB | apply rC)); exact HO_6.out))) (below_size (by repeat (first | (with_reducible first | exact HB.out | apply bA | apply bB | apply bC | refine bD ?_ GE192.out) | exact HB.out)))); have n3_ := aM (blk_below (g := gb192) (o := .cells #[.slice A0_0 l0_0.length c0_0, .slice A0_1 l0_1.length c0_1, .slice A0_2 l0_2.length c0_2, .int .i64 a0_3, .int .i64 a0_4] 25 (0, 0)) (by (with_reducible repeat (first | refine blk_drewN ?_ _ | refine blk_drew ?_ | refine blk_alloc ?_ _)); exact BK192.out) hb); have n4_ := aM (below_step (by repeat (first | (with_reducible first | exact HB.out | apply bA | apply bB | apply bC | refine bD ?_ GE192.out) | exact HB.out)) hb); clear HO_4; clear HO_6; clear BK192; clear HB; have HO_4 := n0_; have HO_6 := n1_; have HO223 := n2_; have BK192 := n3_; have HB := n4_; clear n0_ n1_ n2_ n3_ n4_; (try clear hb); (try clear hb2); (try clear hk); (try clear hi); (try clear ho0); obtain ⟨Ao41, co41, eo41⟩ := Kd.R_slice HO223.out; subst eo41) | ((with_reducible refine gate_callee (f := 33) rfl ?_); refine goesL_ (some 77) rfl rfl Try.func33 (by kernel_rfl) rfl #[.slice Ao41 t221.length co41] rfl (by (try simp only [List.map_toArray, List.map_cons, List.map_nil]); first | done | rfl) ?_; (with_reducible refine (span_Count.calls kj8 _ _ t221 t224 t225 _ ?side1 ?side2 A35.out).mono ?_); (case side1 => repeat (first | exact (Kd.R_reads' HO223.out).2.2 | (with_reducible refine Kd.C_alloc ?_ _) | (with_reducible refine Kd.C_drewN ?_ _) | (with_reducible refine Kd.C_drew ?_))); (case side2 => exact (Kd.R_reads' HO223.out).2.1); rintro e w42 ⟨rfl, hb⟩; refine ⟨_, rfl, ?_⟩; have n0_ := aM (Kd.R_below (by (with_reducible repeat (first | apply rA | apply rB | apply rC)); exact HO_4.out) hb); have n1_ := aM (Kd.R_below (by (with_reducible repeat (first | apply rA | apply rB | apply rC)); exact HO_6.out) hb); have n2_ := aM (Kd.R_below (by (with_reducible repeat (first | apply rA | apply rB | apply rC)); exact HO223.out) hb); have n3_ := aM (blk_below (g := gb192) (o := .cells #[.slice A0_0 l0_0.length c0_0, .slice A0_1 l0_1.length c0_1, .slice A0_2 l0_2.length c0_2, .int .i64 a0_3, .int .i64 a0_4] 25 (0, 0)) (by (with_reducible repeat (first | refine blk_drewN ?_ _ | refine blk_drew ?_ | refine blk_alloc ?_ _)); exact BK192.out) hb); have n4_ := aM (below_step (by repeat (first | (with_reducible first | exact HB.out | apply bA | apply bB | apply bC | refine bD ?_ GE192.out) | exact HB.out)) hb); clear HO_4; clear HO_6; clear HO223; clear BK192; clear HB; have HO_4 := n0_; have HO_6 := n1_; have HO223 := n2_; have BK192 := n3_; have HB := n4_; clear n0_ n1_ n2_ n3_ n4_; (try clear hb); (try clear hb2); (try clear hk); (try clear hi); obtain ⟨Ao43, co43, eo43⟩ := Kd.R_slice HO_6.out; subst eo43) | ((with_reducible refine gate_callee (f := 17) rfl ?_); refine goesL_ (some 82) rfl rfl Try.func17 (by kernel_rfl) rfl #[.slice Ao43 t209.length co43] rfl (by (try simp only [List.map_toArray, List.map_cons, List.map_nil]); first | done | rfl) ?_; (with_reducible refine (redraftlaw02_copied.calls _ _ t209 t226 _ ?side1 ?side2 A36.out).mono ?_); (case side1 => repeat (first | exact (Kd.R_reads' HO_6.out).2.2 | (with_reducible refine Kd.C_alloc ?_ _) | (with_reducible refine Kd.C_drewN ?_ _) | (with_reducible refine Kd.C_drew ?_))); (case side2 => exact (Kd.R_reads' HO_6.out).2.1); rintro e w44 ⟨v227, rfl, ho0, hb⟩; refine ⟨_, rfl, ?_⟩; have n0_ := aM (rE (by (with_reducible repeat (first | apply rA | apply rB | apply rC)); exact HO_4.out) (Kd.R_base ho0) hb); have n1_ := aM (rE (by (with_reducible repeat (first | apply rA | apply rB | apply rC)); exact HO_6.out) (Kd.R_base ho0) hb); have n2_ := aM (rE (by (with_reducible repeat (first | apply rA | apply rB | apply rC)); exact HO223.out) (Kd.R_base ho0) hb); have n3_ := aM (Kd.R_lower (Kd.R_new' (Kd.R_new' (Kd.R_new' ho0 (Kd.R_lt (by (with_reducible repeat (first | apply rA | apply rB | apply rC)); exact HO_4.out))) (Kd.R_lt (by (with_reducible repeat (first | apply rA | apply rB | apply rC)); exact HO_6.out))) (Kd.R_lt (by (with_reducible repeat (first | apply rA | apply rB | apply rC)); exact HO223.out))) (below_size (by repeat (first | (with_reducible first | exact HB.out | apply bA | apply bB | apply bC | refine bD ?_ GE192.out) | exact HB.out)))); have n4_ := aM (blk_below (g := gb192) (o := .cells #[.slice A0_0 l0_0.length c0_0, .slice A0_1 l0_1.length c0_1, .slice A0_2 l0_2.length c0_2, .int .i64 a0_3, .int .i64 a0_4] 25 (0, 0)) (by (with_reducible repeat (first | refine blk_drewN ?_ _ | refine blk_drew ?_ | refine blk_alloc ?_ _)); exact BK192.out) hb); have n5_ := aM (below_step (by repeat (first | (with_reducible first | exact HB.out | apply bA | apply bB | apply bC | refine bD ?_ GE192.out) | exact HB.out)) hb); clear HO_4; clear HO_6; clear HO223; clear BK192; clear HB; have HO_4 := n0_; have HO_6 := n1_; have HO223 := n2_; have HO228 := n3_; have BK192 := n4_; have HB := n5_; clear n0_ n1_ n2_ n3_ n4_ n5_; (try clear hb); (try clear hb2); (try clear hk); (try clear hi); (try clear ho0); obtain ⟨Ao45, co45, eo45⟩ := Kd.R_slice HO228.out; subst eo45) | ((with_reducible refine gate_callee (f := 33) rfl ?_); refine goesL_ (some 83) rfl rfl Try.func33 (by kernel_rfl) rfl #[.slice Ao45 t226.length co45] rfl (by (try simp only [List.map_toArray, List.map_cons, List.map_nil]); first | done | rfl) ?_; (with_reducible refine (span_Count.calls kj8 _ _ t226 t229 t230 _ ?side1 ?side2 A37.out).mono ?_); (case side1 => repeat (first | exact (Kd.R_reads' HO228.out).2.2 | (with_reducible refine Kd.C_alloc ?_ _) | (with_reducible refine Kd.C_drewN ?_ _) | (with_reducible refine Kd.C_drew ?_))); (case side2 => exact (Kd.R_reads' HO228.out).2.1); rintro e w46 ⟨rfl, hb⟩; refine ⟨_, rfl, ?_⟩; have n0_ := aM (Kd.R_below (by (with_reducible repeat (first | apply rA | apply rB | apply rC)); exact HO_4.out) hb); have n1_ := aM (Kd.R_below (by (with_reducible repeat (first | apply rA | apply rB | apply rC)); exact HO_6.out) hb); have n2_ := aM (Kd.R_below (by (with_reducible repeat (first | apply rA | apply rB | apply rC)); exact HO223.out) hb); have n3_ := aM (Kd.R_below (by (with_reducible repeat (first | apply rA | apply rB | apply rC)); exact HO228.out) hb); have n4_ := aM (blk_below (g := gb192) (o := .cells #[.slice A0_0 l0_0.length c0_0, .slice A0_1 l0_1.length c0_1, .slice A0_2 l0_2.length c0_2, .int .i64 a0_3, .int .i64 a0_4] 25 (0, 0)) (by (with_reducible repeat (first | refine blk_drewN ?_ _ | refine blk_drew ?_ | refine blk_alloc ?_ _)); exact BK192.out) hb); have n5_ := aM (below_step (by repeat (first | (with_reducible first | exact HB.out | apply bA | apply bB | apply bC | refine bD ?_ GE192.out) | exact HB.out)) hb); clear HO_4; clear HO_6; clear HO223; clear HO228; clear BK192; clear HB; have HO_4 := n0_; have HO_6 := n1_; have HO223 := n2_; have HO228 := n3_; have BK192 := n4_; have HB := n5_; clear n0_ n1_ n2_ n3_ n4_ n5_; (try clear hb); (try clear hb2); (try clear hk); (try clear hi)))
   (try simp only [Act.put, List.setIfInBounds_toArray, List.set_cons_zero, List.set_cons_succ])
   go_cut [93] (fun v93 wc => ∃ (kq : Nat) (x93_37 : Bool), v93 = .bool x93_37 ∧ Aside0 (sRanks.j1 kq a0_3 t199 t209 t224 t229 x93_37 = some r) ∧ Aside0 (kq ≤ kj8) ∧ Aside0 (Kd.R k36 36 wc w.heap.size (fun k_ => some k_ ≠ ((.slice Ao43 t209.length co43) : Value).ownBlock) (.slice Ao39 t199.length co39) t199) ∧ Aside0 (Kd.R k36 36 wc w.heap.size (fun k_ => some k_ ≠ ((.slice Ao39 t199.length co39) : Value).ownBlock) (.slice Ao43 t209.length co43) t209) ∧ Aside0 (wc.heap[gb192]? = some (.cells #[(.slice A0_0 l0_0.length c0_0), (.slice A0_1 l0_1.length c0_1), (.slice A0_2 l0_2.length c0_2), .int .i64 a0_3, .int .i64 a0_4] 25 (0, 0))) ∧ Aside0 (Below w.heap.size w wc))
   case first => as_aux_lemma =>
    have H := HC38.out
    clear HC38
    replace H := Option.bind_eq_some_iff.mp H
    obtain ⟨t231, A470, H⟩ := H
    replace H : (if t231 = 0 then ((redraftlaw02_num.f t230).bind fun t232 => (sRanks.j1 kj8 a0_3 t199 t209 t224 t229 (t232 != 0))) else (sRanks.j1 kj8 a0_3 t199 t209 t224 t229 true)) = some r := H
    have A47 := aM A470
    clear A470
    by_cases c48 : t231 = 0
    case neg =>
     rw [if_neg c48] at H
     have c48b0 : (t231 == 0) = false := beq_eq_false_iff_ne.mpr c48
     have c48b1 : (t231 != 0) = true := bne_iff_ne.mpr c48
     (first | rw [c48b0] | (simp only [i64_w, i32_w]; rw [c48b0]) | skip)
     have H' := aM H
     clear H
     go_wp2_with (first | ((with_reducible refine gate_callee (f := 19) rfl ?_); refine goesL_ (some 87) rfl rfl Try.func19 (by kernel_rfl) rfl #[.int .i64 t225] rfl (by (try simp only [List.map_toArray, List.map_cons, List.map_nil]); first | done | rfl) ?_; (with_reducible refine (redraftlaw02_num.calls t225 t231 _ A47.out).mono ?_); rintro e w' ⟨rfl, ⟨nd, rfl⟩⟩; refine ⟨_, rfl, ?_⟩))
     go_meet
     case rel => exact ⟨_, (true), (by first | rfl | (simp; done) | (simp [*]; done)), H', ⟨by have := HJ8.out; first | omega | exact Nat.le_refl _⟩, ⟨by (with_reducible repeat (first | apply rA | apply rB | apply rC)); exact Kd.R_mono HO_4.out (fun _ hk => hk.1.1)⟩, ⟨by (with_reducible repeat (first | apply rA | apply rB | apply rC)); exact Kd.R_mono HO_6.out (fun _ hk => hk.1.1)⟩, ⟨by (with_reducible repeat (first | refine blk_drewN ?_ _ | refine blk_drew ?_ | refine blk_alloc ?_ _)); exact BK192.out⟩, ⟨by repeat (first | (with_reducible first | exact HB.out | apply bA | apply bB | apply bC | refine bD ?_ GE192.out) | exact HB.out)⟩⟩
    rw [if_pos c48] at H
    have c48b0 : (t231 == 0) = true := beq_iff_eq.mpr c48
    have c48b1 : (t231 != 0) = false := bne_eq_false_iff_eq.mpr c48
    clear c48
    (first | rw [c48b0] | (simp only [i64_w, i32_w]; rw [c48b0]) | skip)
    replace H := Option.bind_eq_some_iff.mp H
    obtain ⟨t232, A490, H⟩ := H
    replace H : (sRanks.j1 kj8 a0_3 t199 t209 t224 t229 (t232 != 0)) = some r := H
    have A49 := aM A490
    clear A490
    have H' := aM H
    clear H
    go_wp2_with (first | ((with_reducible refine gate_callee (f := 19) rfl ?_); refine goesL_ (some 87) rfl rfl Try.func19 (by kernel_rfl) rfl #[.int .i64 t225] rfl (by (try simp only [List.map_toArray, List.map_cons, List.map_nil]); first | done | rfl) ?_; (with_reducible refine (redraftlaw02_num.calls t225 t231 _ A47.out).mono ?_); rintro e w' ⟨rfl, ⟨nd, rfl⟩⟩; refine ⟨_, rfl, ?_⟩) | (go_at_call 19; (with_reducible refine (redraftlaw02_num.calls t230 t232 _ A49.out).mono ?_); rintro e w' ⟨rfl, ⟨nd, rfl⟩⟩))
    go_meet
    case rel => exact ⟨_, ((t232 != 0)), (by first | rfl | (simp; done) | (simp [*]; done)), H', ⟨by have := HJ8.out; first | omega | exact Nat.le_refl _⟩, ⟨by (with_reducible repeat (first | apply rA | apply rB | apply rC)); exact Kd.R_mono HO_4.out (fun _ hk => hk.1.1)⟩, ⟨by (with_reducible repeat (first | apply rA | apply rB | apply rC)); exact Kd.R_mono HO_6.out (fun _ hk => hk.1.1)⟩, ⟨by (with_reducible repeat (first | refine blk_drewN ?_ _ | refine blk_drew ?_ | refine blk_alloc ?_ _)); exact BK192.out⟩, ⟨by repeat (first | (with_reducible first | exact HB.out | apply bA | apply bB | apply bC | refine bD ?_ GE192.out) | exact HB.out)⟩⟩
   case rest => as_aux_lemma =>
    clear HC38
    obtain ⟨kq, x93_37, rfl, HA, HJ37, HO_4, HO_6, BK192, HB⟩ := hcut
    cases kq with
    | zero => exact absurd HA.out (by simp [sRanks.j1])
    | succ kj37 =>
     have H := HA.out
     clear HA
     simp only [sRanks.j1] at H
     by_cases c50 : x93_37 = true
     case pos =>
      subst c50
      have H1 : (some false) = some r := by rw [if_pos rfl] at H; exact H
      clear H
      have H := H1
      clear H1
      obtain rfl := Option.some.inj H
      go_wp2
      go_ret
      exact ⟨by first | rfl | (simp [errW_none, errW_some] <;> rfl) | (simp [*, errW_none, errW_some] <;> rfl), by repeat (first | (with_reducible first | exact HB.out | apply bA | apply bB | apply bC | refine bD ?_ GE192.out) | exact HB.out)⟩
     replace c50 := Bool.eq_false_iff.mpr c50
     subst c50
     have H1 : (sRanks.l0 kj37 a0_3 t199 t209 t224 t229 0 0) = some r := by rw [if_neg (show ¬ (false = true) by decide)] at H; exact H
     clear H
     have H := H1
     clear H1
     have H' := aM H
     clear H
     go_wp2
     go_loopg [14, 15] kj37 (fun kq v14 v15 w' => ∃ (x14_3 : Int) (x15_3 : Int), v14 = .int .i64 x14_3 ∧ v15 = .int .i64 x15_3 ∧ Aside0 (sRanks.l0 kq a0_3 t199 t209 t224 t229 x14_3 x15_3 = some r) ∧ Aside0 (kq ≤ kj37) ∧ Aside0 (Kd.R k36 36 w' w.heap.size (fun k_ => some k_ ≠ ((.slice Ao43 t209.length co43) : Value).ownBlock) (.slice Ao39 t199.length co39) t199) ∧ Aside0 (Kd.R k36 36 w' w.heap.size (fun k_ => some k_ ≠ ((.slice Ao39 t199.length co39) : Value).ownBlock) (.slice Ao43 t209.length co43) t209) ∧ Aside0 (w'.heap[gb192]? = some (.cells #[(.slice A0_0 l0_0.length c0_0), (.slice A0_1 l0_1.length c0_1), (.slice A0_2 l0_2.length c0_2), .int .i64 a0_3, .int .i64 a0_4] 25 (0, 0))) ∧ Aside0 (Below w.heap.size w w'))
     case atStart => exact ⟨(0), (0), (by first | rfl | (simp; done) | (simp [*]; done)), (by first | rfl | (simp; done) | (simp [*]; done)), H', ⟨Nat.le_refl _⟩, ⟨by (with_reducible repeat (first | apply rA | apply rB | apply rC)); exact HO_4.out⟩, ⟨by (with_reducible repeat (first | apply rA | apply rB | apply rC)); exact HO_6.out⟩, ⟨by (with_reducible repeat (first | refine blk_drewN ?_ _ | refine blk_drew ?_ | refine blk_alloc ?_ _)); exact BK192.out⟩, ⟨by repeat (first | (with_reducible first | exact HB.out | apply bA | apply bB | apply bC | refine bD ?_ GE192.out) | exact HB.out)⟩⟩
     case round => as_aux_lemma =>
      clear H'
      obtain ⟨x14_3, x15_3, rfl, rfl, HA, HK3, HO_4, HO_6, BK192, HB⟩ := hrel
      cases gk with
      | zero => exact absurd HA.out (by simp [sRanks.l0])
      | succ k3 =>
       have H := HA.out
       clear HA
       simp only [sRanks.l0] at H
       by_cases c51 : x15_3 < (t199.length : Int)
       case pos =>
        rw [if_pos c51] at H
        have c51b0 : decide (x15_3 < (t199.length : Int)) = true := decide_eq_true c51
        clear c51
        have HC52 := aM H
        clear H
        go_upto_region 15 with (fail)
        go_cut [108] (fun v108 wc => ∃ (kq : Nat) (x108_51 : Bool), v108 = .bool x108_51 ∧ Aside0 (sRanks.j3 kq a0_3 t199 t209 t224 t229 x14_3 x15_3 x108_51 = some r) ∧ Aside0 (kq ≤ k3) ∧ Aside0 (Kd.R k36 36 wc w.heap.size (fun k_ => some k_ ≠ ((.slice Ao43 t209.length co43) : Value).ownBlock) (.slice Ao39 t199.length co39) t199) ∧ Aside0 (Kd.R k36 36 wc w.heap.size (fun k_ => some k_ ≠ ((.slice Ao39 t199.length co39) : Value).ownBlock) (.slice Ao43 t209.length co43) t209) ∧ Aside0 (wc.heap[gb192]? = some (.cells #[(.slice A0_0 l0_0.length c0_0), (.slice A0_1 l0_1.length c0_1), (.slice A0_2 l0_2.length c0_2), .int .i64 a0_3, .int .i64 a0_4] 25 (0, 0))) ∧ Aside0 (Below w.heap.size w wc))
        case first => as_aux_lemma =>
         have H := HC52.out
         clear HC52
         by_cases c53 : x15_3 < 40
         case neg =>
          rw [if_neg c53] at H
          have c53b0 : decide (x15_3 < 40) = false := decide_eq_false c53
          clear c53
          (first | rw [c53b0] | (simp only [i64_w, i32_w]; rw [c53b0]) | skip)
          have H' := aM H
          clear H
          go_wp2
          go_meet
          case rel => exact ⟨_, ((x15_3 == (wrap64 ((t199.length : Int) - 1)))), (by first | rfl | (simp; done) | (simp [*]; done)), H', ⟨by have := HJ8.out; have := HJ37.out; have := HK3.out; first | omega | exact Nat.le_refl _⟩, ⟨by (with_reducible repeat (first | apply rA | apply rB | apply rC)); exact HO_4.out⟩, ⟨by (with_reducible repeat (first | apply rA | apply rB | apply rC)); exact HO_6.out⟩, ⟨by (with_reducible repeat (first | refine blk_drewN ?_ _ | refine blk_drew ?_ | refine blk_alloc ?_ _)); exact BK192.out⟩, ⟨by repeat (first | (with_reducible first | exact HB.out | apply bA | apply bB | apply bC | refine bD ?_ GE192.out) | exact HB.out)⟩⟩
         rw [if_pos c53] at H
         have c53b0 : decide (x15_3 < 40) = true := decide_eq_true c53
         clear c53
         (first | rw [c53b0] | (simp only [i64_w, i32_w]; rw [c53b0]) | skip)
         have H' := aM H
         clear H
         go_wp2
         go_meet
         case rel => exact ⟨_, (true), (by first | rfl | (simp; done) | (simp [*]; done)), H', ⟨by have := HJ8.out; have := HJ37.out; have := HK3.out; first | omega | exact Nat.le_refl _⟩, ⟨by (with_reducible repeat (first | apply rA | apply rB | apply rC)); exact HO_4.out⟩, ⟨by (with_reducible repeat (first | apply rA | apply rB | apply rC)); exact HO_6.out⟩, ⟨by (with_reducible repeat (first | refine blk_drewN ?_ _ | refine blk_drew ?_ | refine blk_alloc ?_ _)); exact BK192.out⟩, ⟨by repeat (first | (with_reducible first | exact HB.out | apply bA | apply bB | apply bC | refine bD ?_ GE192.out) | exact HB.out)⟩⟩
        case rest => as_aux_lemma =>
         clear HC52
         obtain ⟨kq, x108_51, rfl, HA, HJ51, HO_4, HO_6, BK192, HB⟩ := hcut
         cases kq with
         | zero => exact absurd HA.out (by simp [sRanks.j3])
         | succ kj51 =>
          have H := HA.out
          clear HA
          simp only [sRanks.j3] at H
          by_cases c54 : x108_51 = true
          case neg =>
           replace c54 := Bool.eq_false_iff.mpr c54
           subst c54
           have H1 : (if 0 ≤ x15_3 then (if x15_3 < (t199.length : Int) then (sRanks.l0 kj51 a0_3 t199 t209 t224 t229 (wrap64 ((wrap64 (x14_3 + ((rd_T36 t199 x15_3).f1))) - ((rd_T36 t199 x15_3).f0))) (wrap64 (x15_3 + 1))) else (none)) else (none)) = some r := by rw [if_neg (show ¬ (false = true) by decide)] at H; exact H
           clear H
           have H := H1
           clear H1
           by_cases c70 : 0 ≤ x15_3
           case neg =>
            rw [if_neg c70] at H
            exact absurd H (by simp)
           rw [if_pos c70] at H
           have c70b0 : decide (0 ≤ x15_3) = true := decide_eq_true c70
           clear c70
           by_cases c71 : x15_3 < (t199.length : Int)
           case neg =>
            rw [if_neg c71] at H
            exact absurd H (by simp)
           rw [if_pos c71] at H
           have c71b0 : decide (x15_3 < (t199.length : Int)) = true := decide_eq_true c71
           clear c71
           have H' := aM H
           clear H
           try go_wp2
           have n0_ := aM (Kd.R_drew HO_4.out)
           have n1_ := aM (Kd.R_drew HO_6.out)
           have n2_ := aM (blk_drew BK192.out)
           have n3_ := aM (bC HB.out)
           clear HO_4
           clear HO_6
           clear BK192
           clear HB
           have HO_4 := n0_
           have HO_6 := n1_
           have BK192 := n2_
           have HB := n3_
           clear n0_ n1_ n2_ n3_
           have p242 : 0 ≤ (x15_3 : Int) := of_decide_eq_true (by first | (with_reducible assumption) | assumption)
           have q242 : x15_3 < (t199.length : Int) := of_decide_eq_true (by first | (with_reducible assumption) | assumption)
           obtain ⟨ad242, e242, hx242_0, hx242_1⟩ := at_T36 (Kd.R_reads' HO_4.out).2.2 x15_3 p242 q242
           cases e242
           replace p242 := eq_true p242
           replace q242 := eq_true q242
           have p243 : 0 ≤ (x15_3 : Int) := of_decide_eq_true (by first | (with_reducible assumption) | assumption)
           have q243 : x15_3 < (t199.length : Int) := of_decide_eq_true (by first | (with_reducible assumption) | assumption)
           obtain ⟨ad243, e243, hx243_0, hx243_1⟩ := at_T36 (Kd.R_reads' HO_4.out).2.2 x15_3 p243 q243
           obtain rfl : ad242 = ad243 := (by injection e243)
           replace p243 := eq_true p243
           replace q243 := eq_true q243
           refine start_ (n := 14) (S := fun w' => w'.cell? (ad242.add ((x15_3).toNat * 2)) = some (.int .i64 ((rd_T36 t199 x15_3).f0)) ∧ w'.cell? ⟨(ad242.add ((x15_3).toNat * 2)).block, (ad242.add ((x15_3).toNat * 2)).off + 1, none⟩ = some (.int .i64 ((rd_T36 t199 x15_3).f1)) ∧ w'.cell? (ad242.add ((x15_3).toNat * 2)) = some (.int .i64 ((rd_T36 t199 x15_3).f0)) ∧ w'.cell? ⟨(ad242.add ((x15_3).toNat * 2)).block, (ad242.add ((x15_3).toNat * 2)).off + 1, none⟩ = some (.int .i64 ((rd_T36 t199 x15_3).f1))) (ds := []) #[false, false, false, false, false, false, false, false, false, false, false, false, false, false] (by kernel_rfl) rfl rfl ⟨hx242_0, hx242_1, hx243_0, hx243_1⟩ (fun hHeld => ?_); refine with_tabW sRanks.tab19 sRanks.bits19 (fun HT_ HW_ => ?_)
           generalize wc.drew = w72 at HO_4 HO_6 BK192 HB hx242_0 hx242_1 hx243_0 hx243_1 hHeld ⊢
           refine pure_ (i := 0) (N := some 128) (v := ?_) (a' := ?_) #[true, false, false, false, false, false, false, false, false, false, false, false, false, false] rfl rfl (any_of HT_.out (by kernel_rfl)) (fun _ _ _ h => h) (Or.inl ⟨by rfl, ?_⟩) ?_ ?_
           rotate_left
           ·intro w'
            go_simp
            with_reducible rfl
           rotate_left
           ·simp only [Act.put, List.setIfInBounds_toArray, List.set_cons_zero, List.set_cons_succ, i64_w, i32_w]
            rfl
           refine pure_ (i := 1) (N := some 129) (v := ?_) (a' := ?_) #[true, true, false, false, false, false, false, false, false, false, false, false, false, false] rfl rfl (any_of HT_.out (by kernel_rfl)) (fun _ _ _ h => h) (Or.inl ⟨by rfl, ?_⟩) ?_ ?_
           rotate_left
           ·intro w'
            go_simp
            with_reducible rfl
           rotate_left
           ·simp only [Act.put, List.setIfInBounds_toArray, List.set_cons_zero, List.set_cons_succ, i64_w, i32_w]
            rfl
           refine pure_ (i := 2) (N := some 130) (v := ?_) (a' := ?_) #[true, true, true, false, false, false, false, false, false, false, false, false, false, false] rfl rfl (any_of HT_.out (by kernel_rfl)) (fun _ _ _ h => h) (Or.inl ⟨by rfl, ?_⟩) ?_ ?_
           rotate_left
           ·intro w'
            go_simp
            with_reducible rfl
           rotate_left
           ·simp only [Act.put, List.setIfInBounds_toArray, List.set_cons_zero, List.set_cons_succ, i64_w, i32_w]
            rfl
           refine pure_ (i := 3) (N := some 131) (v := ?_) (a' := ?_) #[true, true, true, true, false, false, false, false, false, false, false, false, false, false] rfl rfl (any_of HT_.out (by kernel_rfl)) (fun _ _ _ h => h) (Or.inl ⟨by rfl, ?_⟩) ?_ ?_
           rotate_left
           ·intro w'
            go_simp
            with_reducible rfl
           rotate_left
           ·simp only [Act.put, List.setIfInBounds_toArray, List.set_cons_zero, List.set_cons_succ, i64_w, i32_w]
            rfl
           refine pure_ (i := 4) (N := some 132) (v := ?_) (a' := ?_) #[true, true, true, true, true, false, false, false, false, false, false, false, false, false] rfl rfl (any_of HT_.out (by kernel_rfl)) (fun _ _ _ h => h) (Or.inl ⟨by rfl, ?_⟩) ?_ ?_
           rotate_left
           ·intro w'
            go_simp
            with_reducible rfl
           rotate_left
           ·simp only [Act.put, List.setIfInBounds_toArray, List.set_cons_zero, List.set_cons_succ, i64_w, i32_w]
            rfl
           refine pure_ (i := 7) (N := some 135) (v := ?_) (a' := ?_) #[true, true, true, true, true, false, false, true, false, false, false, false, false, false] rfl rfl (any_of HT_.out (by kernel_rfl)) (fun _ _ _ h => h) (Or.inl ⟨by rfl, ?_⟩) ?_ ?_
           rotate_left
           ·intro w'
            go_simp
            with_reducible rfl
           rotate_left
           ·simp only [Act.put, List.setIfInBounds_toArray, List.set_cons_zero, List.set_cons_succ, i64_w, i32_w]
            rfl
           refine pure_ (i := 8) (N := some 136) (v := ?_) (a' := ?_) #[true, true, true, true, true, false, false, true, true, false, false, false, false, false] rfl rfl (any_of HT_.out (by kernel_rfl)) (fun _ _ _ h => h) (Or.inl ⟨by rfl, ?_⟩) ?_ ?_
           rotate_left
           ·intro w'
            go_simp
            with_reducible rfl
           rotate_left
           ·simp only [Act.put, List.setIfInBounds_toArray, List.set_cons_zero, List.set_cons_succ, i64_w, i32_w]
            rfl
           refine pure_ (i := 9) (N := some 137) (v := ?_) (a' := ?_) #[true, true, true, true, true, false, false, true, true, true, false, false, false, false] rfl rfl (any_of HT_.out (by kernel_rfl)) (fun _ _ _ h => h) (Or.inl ⟨by rfl, ?_⟩) ?_ ?_
           rotate_left
           ·intro w'
            go_simp
            with_reducible rfl
           rotate_left
           ·simp only [Act.put, List.setIfInBounds_toArray, List.set_cons_zero, List.set_cons_succ, i64_w, i32_w]
            rfl
           refine pure_ (i := 10) (N := some 138) (v := ?_) (a' := ?_) #[true, true, true, true, true, false, false, true, true, true, true, false, false, false] rfl rfl (any_of HT_.out (by kernel_rfl)) (fun _ _ _ h => h) (Or.inl ⟨by rfl, ?_⟩) ?_ ?_
           rotate_left
           ·intro w'
            go_simp
            with_reducible rfl
           rotate_left
           ·simp only [Act.put, List.setIfInBounds_toArray, List.set_cons_zero, List.set_cons_succ, i64_w, i32_w]
            rfl
           refine take_ (i := 5) (N := some 133) (v := ?_) (a' := ?_) #[true, true, true, true, true, true, false, true, true, true, true, false, false, false] rfl rfl (take_ofW HT_.out HW_.out (by kernel_rfl)) (fun _ _ _ h => h) (Or.inl ⟨by rfl, ?_⟩) hHeld ?_ ?_
           rotate_left
           ·rintro w' ⟨s0, s1, s2, s3⟩
            go_simp
            with_reducible rfl
           rotate_left
           ·simp only [Act.put, List.setIfInBounds_toArray, List.set_cons_zero, List.set_cons_succ, i64_w, i32_w]
            rfl
           refine pure_ (i := 6) (N := some 134) (v := ?_) (a' := ?_) #[true, true, true, true, true, true, true, true, true, true, true, false, false, false] rfl rfl (any_of HT_.out (by kernel_rfl)) (fun _ _ _ h => h) (Or.inl ⟨by rfl, ?_⟩) ?_ ?_
           rotate_left
           ·intro w'
            go_simp
            with_reducible rfl
           rotate_left
           ·simp only [Act.put, List.setIfInBounds_toArray, List.set_cons_zero, List.set_cons_succ, i64_w, i32_w]
            rfl
           refine take_ (i := 11) (N := some 139) (v := ?_) (a' := ?_) #[true, true, true, true, true, true, true, true, true, true, true, true, false, false] rfl rfl (take_ofW HT_.out HW_.out (by kernel_rfl)) (fun _ _ _ h => h) (Or.inl ⟨by rfl, ?_⟩) hHeld ?_ ?_
           rotate_left
           ·rintro w' ⟨s0, s1, s2, s3⟩
            go_simp
            with_reducible rfl
           rotate_left
           ·simp only [Act.put, List.setIfInBounds_toArray, List.set_cons_zero, List.set_cons_succ, i64_w, i32_w]
            rfl
           refine pure_ (i := 12) (N := some 140) (v := ?_) (a' := ?_) #[true, true, true, true, true, true, true, true, true, true, true, true, true, false] rfl rfl (any_of HT_.out (by kernel_rfl)) (fun _ _ _ h => h) (Or.inl ⟨by rfl, ?_⟩) ?_ ?_
           rotate_left
           ·intro w'
            go_simp
            with_reducible rfl
           rotate_left
           ·simp only [Act.put, List.setIfInBounds_toArray, List.set_cons_zero, List.set_cons_succ, i64_w, i32_w]
            rfl
           refine pure_ (i := 13) (N := some 14) (v := ?_) (a' := ?_) #[true, true, true, true, true, true, true, true, true, true, true, true, true, true] rfl rfl (any_of HT_.out (by kernel_rfl)) (fun _ _ _ h => h) (Or.inl ⟨by rfl, ?_⟩) ?_ ?_
           rotate_left
           ·intro w'
            go_simp
            with_reducible rfl
           rotate_left
           ·simp only [Act.put, List.setIfInBounds_toArray, List.set_cons_zero, List.set_cons_succ, i64_w, i32_w]
            rfl
           refine done_ (done_of HT_.out (by kernel_rfl)) ?_
           try go_wp2
           go_roundg kj51
           case measure => have := HJ8.out; have := HJ37.out; have := HK3.out; have := HJ51.out; omega
           case rel => exact ⟨(wrap64 ((wrap64 (x14_3 + ((rd_T36 t199 x15_3).f1))) - ((rd_T36 t199 x15_3).f0))), (wrap64 (x15_3 + 1)), (by first | rfl | (simp; done) | (simp [*]; done)), (by first | rfl | (simp; done) | (simp [*]; done)), H', ⟨by have := HJ8.out; have := HJ37.out; have := HK3.out; have := HJ51.out; omega⟩, ⟨by (with_reducible repeat (first | apply rA | apply rB | apply rC)); exact HO_4.out⟩, ⟨by (with_reducible repeat (first | apply rA | apply rB | apply rC)); exact HO_6.out⟩, ⟨by (with_reducible repeat (first | refine blk_drewN ?_ _ | refine blk_drew ?_ | refine blk_alloc ?_ _)); exact BK192.out⟩, ⟨by repeat (first | (with_reducible first | exact HB.out | apply bA | apply bB | apply bC | refine bD ?_ GE192.out) | exact HB.out)⟩⟩
          subst c54
          have H1 : ((redraftlaw02_copied.f t199).bind fun t233 => (if 0 ≤ x15_3 then (if x15_3 < (t199.length : Int) then ((span_Rank.f kj51 t233 ((rd_T36 t199 x15_3).f0)).bind fun bt237 => ((redraftlaw02_num.f bt237.2).bind fun t239 => (if t239 = 0 then (sRanks.j4 kj51 a0_3 t199 t209 t224 t229 x14_3 x15_3 (bt237.1 != x14_3)) else (sRanks.j4 kj51 a0_3 t199 t209 t224 t229 x14_3 x15_3 true)))) else (none)) else (none))) = some r := by rw [if_pos rfl] at H; exact H
          clear H
          have H := H1
          clear H1
          replace H := Option.bind_eq_some_iff.mp H
          obtain ⟨t233, A550, H⟩ := H
          replace H : (if 0 ≤ x15_3 then (if x15_3 < (t199.length : Int) then ((span_Rank.f kj51 t233 ((rd_T36 t199 x15_3).f0)).bind fun bt237 => ((redraftlaw02_num.f bt237.2).bind fun t239 => (if t239 = 0 then (sRanks.j4 kj51 a0_3 t199 t209 t224 t229 x14_3 x15_3 (bt237.1 != x14_3)) else (sRanks.j4 kj51 a0_3 t199 t209 t224 t229 x14_3 x15_3 true)))) else (none)) else (none)) = some r := H
          have A55 := aM A550
          clear A550
          by_cases c56 : 0 ≤ x15_3
          case neg =>
           rw [if_neg c56] at H
           exact absurd H (by simp)
          rw [if_pos c56] at H
          have c56b0 : decide (0 ≤ x15_3) = true := decide_eq_true c56
          clear c56
          by_cases c57 : x15_3 < (t199.length : Int)
          case neg =>
           rw [if_neg c57] at H
           exact absurd H (by simp)
          rw [if_pos c57] at H
          have c57b0 : decide (x15_3 < (t199.length : Int)) = true := decide_eq_true c57
          clear c57
          replace H := Option.bind_eq_some_iff.mp H
          obtain ⟨⟨t237, t238⟩, A580, H⟩ := H
          replace H : ((redraftlaw02_num.f t238).bind fun t239 => (if t239 = 0 then (sRanks.j4 kj51 a0_3 t199 t209 t224 t229 x14_3 x15_3 (t237 != x14_3)) else (sRanks.j4 kj51 a0_3 t199 t209 t224 t229 x14_3 x15_3 true))) = some r := H
          have A58 := aM A580
          clear A580
          have HC59 := aM H
          clear H
          try go_wp2
          have n0_ := aM (Kd.R_drew HO_4.out)
          have n1_ := aM (Kd.R_drew HO_6.out)
          have n2_ := aM (blk_drew BK192.out)
          have n3_ := aM (bC HB.out)
          clear HO_4
          clear HO_6
          clear BK192
          clear HB
          have HO_4 := n0_
          have HO_6 := n1_
          have BK192 := n2_
          have HB := n3_
          clear n0_ n1_ n2_ n3_
          have p236 : 0 ≤ (x15_3 : Int) := of_decide_eq_true (by first | (with_reducible assumption) | assumption)
          have q236 : x15_3 < (t199.length : Int) := of_decide_eq_true (by first | (with_reducible assumption) | assumption)
          obtain ⟨ad236, e236, hx236_0, hx236_1⟩ := at_T36 (Kd.R_reads' HO_4.out).2.2 x15_3 p236 q236
          cases e236
          replace p236 := eq_true p236
          replace q236 := eq_true q236
          refine start_ (n := 13) (S := fun w' => w'.cell? (ad236.add ((x15_3).toNat * 2)) = some (.int .i64 ((rd_T36 t199 x15_3).f0)) ∧ w'.cell? ⟨(ad236.add ((x15_3).toNat * 2)).block, (ad236.add ((x15_3).toNat * 2)).off + 1, none⟩ = some (.int .i64 ((rd_T36 t199 x15_3).f1))) (ds := []) #[false, false, false, false, false, false, false, false, false, false, false, false, false] (by kernel_rfl) rfl rfl ⟨hx236_0, hx236_1⟩ (fun hHeld => ?_); refine with_tabW sRanks.tab16 sRanks.bits16 (fun HT_ HW_ => ?_)
          generalize wc.drew = w60 at HO_4 HO_6 BK192 HB hx236_0 hx236_1 hHeld ⊢
          refine pure_ (i := 0) (N := some 110) (v := ?_) (a' := ?_) #[true, false, false, false, false, false, false, false, false, false, false, false, false] rfl rfl (any_of HT_.out (by kernel_rfl)) (fun _ _ _ h => h) (Or.inl ⟨by rfl, ?_⟩) ?_ ?_
          rotate_left
          ·intro w'
           go_simp
           with_reducible rfl
          rotate_left
          ·simp only [Act.put, List.setIfInBounds_toArray, List.set_cons_zero, List.set_cons_succ, i64_w, i32_w]
           rfl
          refine pure_ (i := 2) (N := some 112) (v := ?_) (a' := ?_) #[true, false, true, false, false, false, false, false, false, false, false, false, false] rfl rfl (any_of HT_.out (by kernel_rfl)) (fun _ _ _ h => h) (Or.inl ⟨by rfl, ?_⟩) ?_ ?_
          rotate_left
          ·intro w'
           go_simp
           with_reducible rfl
          rotate_left
          ·simp only [Act.put, List.setIfInBounds_toArray, List.set_cons_zero, List.set_cons_succ, i64_w, i32_w]
           rfl
          refine pure_ (i := 3) (N := some 113) (v := ?_) (a' := ?_) #[true, false, true, true, false, false, false, false, false, false, false, false, false] rfl rfl (any_of HT_.out (by kernel_rfl)) (fun _ _ _ h => h) (Or.inl ⟨by rfl, ?_⟩) ?_ ?_
          rotate_left
          ·intro w'
           go_simp
           with_reducible rfl
          rotate_left
          ·simp only [Act.put, List.setIfInBounds_toArray, List.set_cons_zero, List.set_cons_succ, i64_w, i32_w]
           rfl
          refine pure_ (i := 4) (N := some 114) (v := ?_) (a' := ?_) #[true, false, true, true, true, false, false, false, false, false, false, false, false] rfl rfl (any_of HT_.out (by kernel_rfl)) (fun _ _ _ h => h) (Or.inl ⟨by rfl, ?_⟩) ?_ ?_
          rotate_left
          ·intro w'
           go_simp
           with_reducible rfl
          rotate_left
          ·simp only [Act.put, List.setIfInBounds_toArray, List.set_cons_zero, List.set_cons_succ, i64_w, i32_w]
           rfl
          refine pure_ (i := 5) (N := some 115) (v := ?_) (a' := ?_) #[true, false, true, true, true, true, false, false, false, false, false, false, false] rfl rfl (any_of HT_.out (by kernel_rfl)) (fun _ _ _ h => h) (Or.inl ⟨by rfl, ?_⟩) ?_ ?_
          rotate_left
          ·intro w'
           go_simp
           with_reducible rfl
          rotate_left
          ·simp only [Act.put, List.setIfInBounds_toArray, List.set_cons_zero, List.set_cons_succ, i64_w, i32_w]
           rfl
          refine take_ (i := 6) (N := some 116) (v := ?_) (a' := ?_) #[true, false, true, true, true, true, true, false, false, false, false, false, false] rfl rfl (take_ofW HT_.out HW_.out (by kernel_rfl)) (fun _ _ _ h => h) (Or.inl ⟨by rfl, ?_⟩) hHeld ?_ ?_
          rotate_left
          ·rintro w' ⟨s0, s1⟩
           go_simp
           with_reducible rfl
          rotate_left
          ·simp only [Act.put, List.setIfInBounds_toArray, List.set_cons_zero, List.set_cons_succ, i64_w, i32_w]
           rfl
          refine one_ (i := 1) (N := some 111) #[true, true, true, true, true, true, true, false, false, false, false, false, false] rfl rfl (one_of HT_.out (by kernel_rfl)) (by decide) (fun K hK => ?_)
          refine goes_ Try.func17 (by kernel_rfl) rfl #[.slice (some ad236) t199.length co39] (by rfl) rfl rfl (by (try simp only [List.map_toArray, List.map_cons, List.map_nil]); first | done | rfl) ?_
          with_reducible refine (redraftlaw02_copied.calls _ _ t199 t233 _ ?side1 ?side2 A55.out).mono ?_
          (case side1 => repeat (first | exact (Kd.R_reads' HO_4.out).2.2 | (with_reducible refine Kd.C_alloc ?_ _) | (with_reducible refine Kd.C_drewN ?_ _) | (with_reducible refine Kd.C_drew ?_)))
          (case side2 => exact (Kd.R_reads' HO_4.out).2.1)
          rintro e w61 ⟨v234, rfl, ho0, hb⟩
          have HS0_ := (hb.cell (World.block_lt_of_cell? _ _ (hHeld.1))).trans (hHeld.1)
          have HS1_ := (hb.cell (World.block_lt_of_cell? _ _ (hHeld.2))).trans (hHeld.2)
          refine ⟨_, rfl, ?_⟩
          have n0_ := aM (rE (by (with_reducible repeat (first | apply rA | apply rB | apply rC)); exact HO_4.out) (Kd.R_base ho0) hb)
          have n1_ := aM (rE (by (with_reducible repeat (first | apply rA | apply rB | apply rC)); exact HO_6.out) (Kd.R_base ho0) hb)
          have n2_ := aM (Kd.R_lower (Kd.R_new' (Kd.R_new' ho0 (Kd.R_lt (by (with_reducible repeat (first | apply rA | apply rB | apply rC)); exact HO_4.out))) (Kd.R_lt (by (with_reducible repeat (first | apply rA | apply rB | apply rC)); exact HO_6.out))) (below_size (by repeat (first | (with_reducible first | exact HB.out | apply bA | apply bB | apply bC | refine bD ?_ GE192.out) | exact HB.out))))
          have n3_ := aM (blk_below (g := gb192) (o := .cells #[.slice A0_0 l0_0.length c0_0, .slice A0_1 l0_1.length c0_1, .slice A0_2 l0_2.length c0_2, .int .i64 a0_3, .int .i64 a0_4] 25 (0, 0)) (by (with_reducible repeat (first | refine blk_drewN ?_ _ | refine blk_drew ?_ | refine blk_alloc ?_ _)); exact BK192.out) hb)
          have n4_ := aM (below_step (by repeat (first | (with_reducible first | exact HB.out | apply bA | apply bB | apply bC | refine bD ?_ GE192.out) | exact HB.out)) hb)
          clear HO_4
          clear HO_6
          clear BK192
          clear HB
          have HO_4 := n0_
          have HO_6 := n1_
          have HO235 := n2_
          have BK192 := n3_
          have HB := n4_
          clear n0_ n1_ n2_ n3_ n4_
          (try clear hb)
          (try clear hb2)
          (try clear hk)
          (try clear hi)
          (try clear ho0)
          obtain ⟨Ao62, co62, eo62⟩ := Kd.R_slice HO235.out
          (first | subst eo62 | (injection eo62 with f1_ f2_ f3_; have f4_ := f1_.symm; have f5_ := f3_.symm; clear f1_ f2_ f3_; subst f4_; subst f5_))
          refine hK.out _ _ ⟨HS0_, HS1_⟩ (fun hHeld => ?_)
          clear hK K
          refine norm_ (a' := ?_) ?_ ?_
          rotate_left
          ·show Act.put _ (some 111) _ = _
           simp only [Act.put, List.setIfInBounds_toArray, List.set_cons_zero, List.set_cons_succ, i64_w, i32_w]
           rfl
          refine one_ (i := 7) (N := some 117) #[true, true, true, true, true, true, true, true, false, false, false, false, false] rfl rfl (one_of HT_.out (by kernel_rfl)) (by decide) (fun K hK => ?_)
          refine goes_ Try.func34 (by kernel_rfl) rfl #[.slice Ao62 t233.length co62, .int .i64 ((rd_T36 t199 x15_3).f0)] (by rfl) rfl rfl (by (try simp only [List.map_toArray, List.map_cons, List.map_nil]); first | done | rfl) ?_
          with_reducible refine (span_Rank.calls kj51 _ _ t233 ((rd_T36 t199 x15_3).f0) t237 t238 _ ?side1 ?side2 A58.out).mono ?_
          (case side1 => repeat (first | exact (Kd.R_reads' HO235.out).2.2 | (with_reducible refine Kd.C_alloc ?_ _) | (with_reducible refine Kd.C_drewN ?_ _) | (with_reducible refine Kd.C_drew ?_)))
          (case side2 => exact (Kd.R_reads' HO235.out).2.1)
          rintro e w63 ⟨rfl, hb⟩
          have HS0_ := (hb.cell (World.block_lt_of_cell? _ _ (hHeld.1))).trans (hHeld.1)
          have HS1_ := (hb.cell (World.block_lt_of_cell? _ _ (hHeld.2))).trans (hHeld.2)
          refine ⟨_, rfl, ?_⟩
          have n0_ := aM (Kd.R_below (by (with_reducible repeat (first | apply rA | apply rB | apply rC)); exact HO_4.out) hb)
          have n1_ := aM (Kd.R_below (by (with_reducible repeat (first | apply rA | apply rB | apply rC)); exact HO_6.out) hb)
          have n2_ := aM (Kd.R_below (by (with_reducible repeat (first | apply rA | apply rB | apply rC)); exact HO235.out) hb)
          have n3_ := aM (blk_below (g := gb192) (o := .cells #[.slice A0_0 l0_0.length c0_0, .slice A0_1 l0_1.length c0_1, .slice A0_2 l0_2.length c0_2, .int .i64 a0_3, .int .i64 a0_4] 25 (0, 0)) (by (with_reducible repeat (first | refine blk_drewN ?_ _ | refine blk_drew ?_ | refine blk_alloc ?_ _)); exact BK192.out) hb)
          have n4_ := aM (below_step (by repeat (first | (with_reducible first | exact HB.out | apply bA | apply bB | apply bC | refine bD ?_ GE192.out) | exact HB.out)) hb)
          clear HO_4
          clear HO_6
          clear HO235
          clear BK192
          clear HB
          have HO_4 := n0_
          have HO_6 := n1_
          have HO235 := n2_
          have BK192 := n3_
          have HB := n4_
          clear n0_ n1_ n2_ n3_ n4_
          (try clear hb)
          (try clear hb2)
          (try clear hk)
          (try clear hi)
          refine hK.out _ _ ⟨HS0_, HS1_⟩ (fun hHeld => ?_)
          clear hK K
          refine norm_ (a' := ?_) ?_ ?_
          rotate_left
          ·show Act.put _ (some 117) _ = _
           simp only [Act.put, List.setIfInBounds_toArray, List.set_cons_zero, List.set_cons_succ, i64_w, i32_w]
           rfl
          refine pure_ (i := 8) (N := some 109) (v := ?_) (a' := ?_) #[true, true, true, true, true, true, true, true, true, false, false, false, false] rfl rfl (any_of HT_.out (by kernel_rfl)) (fun _ _ _ h => h) (Or.inl ⟨by rfl, ?_⟩) ?_ ?_
          rotate_left
          ·intro w'
           go_simp
           with_reducible rfl
          rotate_left
          ·simp only [Act.put, List.setIfInBounds_toArray, List.set_cons_zero, List.set_cons_succ, i64_w, i32_w]
           rfl
          refine pure_ (i := 9) (N := some 118) (v := ?_) (a' := ?_) #[true, true, true, true, true, true, true, true, true, true, false, false, false] rfl rfl (any_of HT_.out (by kernel_rfl)) (fun _ _ _ h => h) (Or.inl ⟨by rfl, ?_⟩) ?_ ?_
          rotate_left
          ·intro w'
           go_simp
           with_reducible rfl
          rotate_left
          ·simp only [Act.put, List.setIfInBounds_toArray, List.set_cons_zero, List.set_cons_succ, i64_w, i32_w]
           rfl
          refine pure_ (i := 10) (N := some 119) (v := ?_) (a' := ?_) #[true, true, true, true, true, true, true, true, true, true, true, false, false] rfl rfl (any_of HT_.out (by kernel_rfl)) (fun _ _ _ h => h) (Or.inl ⟨by rfl, ?_⟩) ?_ ?_
          rotate_left
          ·intro w'
           go_simp
           with_reducible rfl
          rotate_left
          ·simp only [Act.put, List.setIfInBounds_toArray, List.set_cons_zero, List.set_cons_succ, i64_w, i32_w]
           rfl
          refine pure_ (i := 11) (N := some 16) (v := ?_) (a' := ?_) #[true, true, true, true, true, true, true, true, true, true, true, true, false] rfl rfl (any_of HT_.out (by kernel_rfl)) (fun _ _ _ h => h) (Or.inl ⟨by rfl, ?_⟩) ?_ ?_
          rotate_left
          ·intro w'
           go_simp
           with_reducible rfl
          rotate_left
          ·simp only [Act.put, List.setIfInBounds_toArray, List.set_cons_zero, List.set_cons_succ, i64_w, i32_w]
           rfl
          refine pure_ (i := 12) (N := some 17) (v := ?_) (a' := ?_) #[true, true, true, true, true, true, true, true, true, true, true, true, true] rfl rfl (any_of HT_.out (by kernel_rfl)) (fun _ _ _ h => h) (Or.inl ⟨by rfl, ?_⟩) ?_ ?_
          rotate_left
          ·intro w'
           go_simp
           with_reducible rfl
          rotate_left
          ·simp only [Act.put, List.setIfInBounds_toArray, List.set_cons_zero, List.set_cons_succ, i64_w, i32_w]
           rfl
          refine done_ (done_of HT_.out (by kernel_rfl)) ?_
          go_upto_region 17 with (fail)
          go_cut [127] (fun v127 wc => ∃ (kq : Nat) (x127_58 : Bool), v127 = .bool x127_58 ∧ Aside0 (sRanks.j4 kq a0_3 t199 t209 t224 t229 x14_3 x15_3 x127_58 = some r) ∧ Aside0 (kq ≤ kj51) ∧ Aside0 (Kd.R k36 36 wc w.heap.size (fun k_ => some k_ ≠ ((.slice Ao43 t209.length co43) : Value).ownBlock) (.slice (some ad236) t199.length co39) t199) ∧ Aside0 (Kd.R k36 36 wc w.heap.size (fun k_ => some k_ ≠ ((.slice (some ad236) t199.length co39) : Value).ownBlock) (.slice Ao43 t209.length co43) t209) ∧ Aside0 (wc.heap[gb192]? = some (.cells #[(.slice A0_0 l0_0.length c0_0), (.slice A0_1 l0_1.length c0_1), (.slice A0_2 l0_2.length c0_2), .int .i64 a0_3, .int .i64 a0_4] 25 (0, 0))) ∧ Aside0 (Below w.heap.size w wc))
          case first => as_aux_lemma =>
           have H := HC59.out
           clear HC59
           replace H := Option.bind_eq_some_iff.mp H
           obtain ⟨t239, A640, H⟩ := H
           replace H : (if t239 = 0 then (sRanks.j4 kj51 a0_3 t199 t209 t224 t229 x14_3 x15_3 (t237 != x14_3)) else (sRanks.j4 kj51 a0_3 t199 t209 t224 t229 x14_3 x15_3 true)) = some r := H
           have A64 := aM A640
           clear A640
           by_cases c65 : t239 = 0
           case neg =>
            rw [if_neg c65] at H
            have c65b0 : (t239 == 0) = false := beq_eq_false_iff_ne.mpr c65
            have c65b1 : (t239 != 0) = true := bne_iff_ne.mpr c65
            (first | rw [c65b0] | (simp only [i64_w, i32_w]; rw [c65b0]) | skip)
            have H' := aM H
            clear H
            go_wp2_with (first | ((with_reducible refine gate_callee (f := 19) rfl ?_); refine goesL_ (some 121) rfl rfl Try.func19 (by kernel_rfl) rfl #[.int .i64 t238] rfl (by (try simp only [List.map_toArray, List.map_cons, List.map_nil]); first | done | rfl) ?_; (with_reducible refine (redraftlaw02_num.calls t238 t239 _ A64.out).mono ?_); rintro e w' ⟨rfl, ⟨nd, rfl⟩⟩; refine ⟨_, rfl, ?_⟩))
            go_meet
            case rel => exact ⟨_, (true), (by first | rfl | (simp; done) | (simp [*]; done)), H', ⟨by have := HJ8.out; have := HJ37.out; have := HK3.out; have := HJ51.out; first | omega | exact Nat.le_refl _⟩, ⟨by (with_reducible repeat (first | apply rA | apply rB | apply rC)); exact Kd.R_mono HO_4.out (fun _ hk => hk.1)⟩, ⟨by (with_reducible repeat (first | apply rA | apply rB | apply rC)); exact Kd.R_mono HO_6.out (fun _ hk => hk.1)⟩, ⟨by (with_reducible repeat (first | refine blk_drewN ?_ _ | refine blk_drew ?_ | refine blk_alloc ?_ _)); exact BK192.out⟩, ⟨by repeat (first | (with_reducible first | exact HB.out | apply bA | apply bB | apply bC | refine bD ?_ GE192.out) | exact HB.out)⟩⟩
           rw [if_pos c65] at H
           have c65b0 : (t239 == 0) = true := beq_iff_eq.mpr c65
           have c65b1 : (t239 != 0) = false := bne_eq_false_iff_eq.mpr c65
           clear c65
           (first | rw [c65b0] | (simp only [i64_w, i32_w]; rw [c65b0]) | skip)
           have H' := aM H
           clear H
           go_wp2_with (first | ((with_reducible refine gate_callee (f := 19) rfl ?_); refine goesL_ (some 121) rfl rfl Try.func19 (by kernel_rfl) rfl #[.int .i64 t238] rfl (by (try simp only [List.map_toArray, List.map_cons, List.map_nil]); first | done | rfl) ?_; (with_reducible refine (redraftlaw02_num.calls t238 t239 _ A64.out).mono ?_); rintro e w' ⟨rfl, ⟨nd, rfl⟩⟩; refine ⟨_, rfl, ?_⟩))
           go_meet
           case rel => exact ⟨_, ((t237 != x14_3)), (by first | rfl | (simp; done) | (simp [*]; done)), H', ⟨by have := HJ8.out; have := HJ37.out; have := HK3.out; have := HJ51.out; first | omega | exact Nat.le_refl _⟩, ⟨by (with_reducible repeat (first | apply rA | apply rB | apply rC)); exact Kd.R_mono HO_4.out (fun _ hk => hk.1)⟩, ⟨by (with_reducible repeat (first | apply rA | apply rB | apply rC)); exact Kd.R_mono HO_6.out (fun _ hk => hk.1)⟩, ⟨by (with_reducible repeat (first | refine blk_drewN ?_ _ | refine blk_drew ?_ | refine blk_alloc ?_ _)); exact BK192.out⟩, ⟨by repeat (first | (with_reducible first | exact HB.out | apply bA | apply bB | apply bC | refine bD ?_ GE192.out) | exact HB.out)⟩⟩
          case rest => as_aux_lemma =>
           clear HC59
           obtain ⟨kq, x127_58, rfl, HA, HJ58, HO_4, HO_6, BK192, HB⟩ := hcut
           cases kq with
           | zero => exact absurd HA.out (by simp [sRanks.j4])
           | succ kj58 =>
            have H := HA.out
            clear HA
            simp only [sRanks.j4] at H
            by_cases c66 : x127_58 = true
            case pos =>
             subst c66
             have H1 : (some false) = some r := by rw [if_pos rfl] at H; exact H
             clear H
             have H := H1
             clear H1
             obtain rfl := Option.some.inj H
             go_wp2
             go_ret
             exact ⟨by first | rfl | (simp [errW_none, errW_some] <;> rfl) | (simp [*, errW_none, errW_some] <;> rfl), by repeat (first | (with_reducible first | exact HB.out | apply bA | apply bB | apply bC | refine bD ?_ GE192.out) | exact HB.out)⟩
            replace c66 := Bool.eq_false_iff.mpr c66
            subst c66
            have H1 : (if 0 ≤ x15_3 then (if x15_3 < (t199.length : Int) then (sRanks.l0 kj58 a0_3 t199 t209 t224 t229 (wrap64 ((wrap64 (x14_3 + ((rd_T36 t199 x15_3).f1))) - ((rd_T36 t199 x15_3).f0))) (wrap64 (x15_3 + 1))) else (none)) else (none)) = some r := by rw [if_neg (show ¬ (false = true) by decide)] at H; exact H
            clear H
            have H := H1
            clear H1
            by_cases c67 : 0 ≤ x15_3
            case neg =>
             rw [if_neg c67] at H
             exact absurd H (by simp)
            rw [if_pos c67] at H
            have c67b0 : decide (0 ≤ x15_3) = true := decide_eq_true c67
            clear c67
            by_cases c68 : x15_3 < (t199.length : Int)
            case neg =>
             rw [if_neg c68] at H
             exact absurd H (by simp)
            rw [if_pos c68] at H
            have c68b0 : decide (x15_3 < (t199.length : Int)) = true := decide_eq_true c68
            clear c68
            have H' := aM H
            clear H
            try go_wp2
            have n0_ := aM (Kd.R_drew HO_4.out)
            have n1_ := aM (Kd.R_drew HO_6.out)
            have n2_ := aM (blk_drew BK192.out)
            have n3_ := aM (bC HB.out)
            clear HO_4
            clear HO_6
            clear BK192
            clear HB
            have HO_4 := n0_
            have HO_6 := n1_
            have BK192 := n2_
            have HB := n3_
            clear n0_ n1_ n2_ n3_
            have p240 : 0 ≤ (x15_3 : Int) := of_decide_eq_true (by first | (with_reducible assumption) | assumption)
            have q240 : x15_3 < (t199.length : Int) := of_decide_eq_true (by first | (with_reducible assumption) | assumption)
            obtain ⟨ad240, e240, hx240_0, hx240_1⟩ := at_T36 (Kd.R_reads' HO_4.out).2.2 x15_3 p240 q240
            obtain rfl : ad236 = ad240 := (by injection e240)
            replace p240 := eq_true p240
            replace q240 := eq_true q240
            have p241 : 0 ≤ (x15_3 : Int) := of_decide_eq_true (by first | (with_reducible assumption) | assumption)
            have q241 : x15_3 < (t199.length : Int) := of_decide_eq_true (by first | (with_reducible assumption) | assumption)
            obtain ⟨ad241, e241, hx241_0, hx241_1⟩ := at_T36 (Kd.R_reads' HO_4.out).2.2 x15_3 p241 q241
            obtain rfl : ad236 = ad241 := (by injection e241)
            replace p241 := eq_true p241
            replace q241 := eq_true q241
            refine start_ (n := 14) (S := fun w' => w'.cell? (ad236.add ((x15_3).toNat * 2)) = some (.int .i64 ((rd_T36 t199 x15_3).f0)) ∧ w'.cell? ⟨(ad236.add ((x15_3).toNat * 2)).block, (ad236.add ((x15_3).toNat * 2)).off + 1, none⟩ = some (.int .i64 ((rd_T36 t199 x15_3).f1)) ∧ w'.cell? (ad236.add ((x15_3).toNat * 2)) = some (.int .i64 ((rd_T36 t199 x15_3).f0)) ∧ w'.cell? ⟨(ad236.add ((x15_3).toNat * 2)).block, (ad236.add ((x15_3).toNat * 2)).off + 1, none⟩ = some (.int .i64 ((rd_T36 t199 x15_3).f1))) (ds := []) #[false, false, false, false, false, false, false, false, false, false, false, false, false, false] (by kernel_rfl) rfl rfl ⟨hx240_0, hx240_1, hx241_0, hx241_1⟩ (fun hHeld => ?_); refine with_tabW sRanks.tab19 sRanks.bits19 (fun HT_ HW_ => ?_)
            generalize wc.drew = w69 at HO_4 HO_6 BK192 HB hx240_0 hx240_1 hx241_0 hx241_1 hHeld ⊢
            refine pure_ (i := 0) (N := some 128) (v := ?_) (a' := ?_) #[true, false, false, false, false, false, false, false, false, false, false, false, false, false] rfl rfl (any_of HT_.out (by kernel_rfl)) (fun _ _ _ h => h) (Or.inl ⟨by rfl, ?_⟩) ?_ ?_
            rotate_left
            ·intro w'
             go_simp
             with_reducible rfl
            rotate_left
            ·simp only [Act.put, List.setIfInBounds_toArray, List.set_cons_zero, List.set_cons_succ, i64_w, i32_w]
             rfl
            refine pure_ (i := 1) (N := some 129) (v := ?_) (a' := ?_) #[true, true, false, false, false, false, false, false, false, false, false, false, false, false] rfl rfl (any_of HT_.out (by kernel_rfl)) (fun _ _ _ h => h) (Or.inl ⟨by rfl, ?_⟩) ?_ ?_
            rotate_left
            ·intro w'
             go_simp
             with_reducible rfl
            rotate_left
            ·simp only [Act.put, List.setIfInBounds_toArray, List.set_cons_zero, List.set_cons_succ, i64_w, i32_w]
             rfl
            refine pure_ (i := 2) (N := some 130) (v := ?_) (a' := ?_) #[true, true, true, false, false, false, false, false, false, false, false, false, false, false] rfl rfl (any_of HT_.out (by kernel_rfl)) (fun _ _ _ h => h) (Or.inl ⟨by rfl, ?_⟩) ?_ ?_
            rotate_left
            ·intro w'
             go_simp
             with_reducible rfl
            rotate_left
            ·simp only [Act.put, List.setIfInBounds_toArray, List.set_cons_zero, List.set_cons_succ, i64_w, i32_w]
             rfl
            refine pure_ (i := 3) (N := some 131) (v := ?_) (a' := ?_) #[true, true, true, true, false, false, false, false, false, false, false, false, false, false] rfl rfl (any_of HT_.out (by kernel_rfl)) (fun _ _ _ h => h) (Or.inl ⟨by rfl, ?_⟩) ?_ ?_
            rotate_left
            ·intro w'
             go_simp
             with_reducible rfl
            rotate_left
            ·simp only [Act.put, List.setIfInBounds_toArray, List.set_cons_zero, List.set_cons_succ, i64_w, i32_w]
             rfl
            refine pure_ (i := 4) (N := some 132) (v := ?_) (a' := ?_) #[true, true, true, true, true, false, false, false, false, false, false, false, false, false] rfl rfl (any_of HT_.out (by kernel_rfl)) (fun _ _ _ h => h) (Or.inl ⟨by rfl, ?_⟩) ?_ ?_
            rotate_left
            ·intro w'
             go_simp
             with_reducible rfl
            rotate_left
            ·simp only [Act.put, List.setIfInBounds_toArray, List.set_cons_zero, List.set_cons_succ, i64_w, i32_w]
             rfl
            refine pure_ (i := 7) (N := some 135) (v := ?_) (a' := ?_) #[true, true, true, true, true, false, false, true, false, false, false, false, false, false] rfl rfl (any_of HT_.out (by kernel_rfl)) (fun _ _ _ h => h) (Or.inl ⟨by rfl, ?_⟩) ?_ ?_
            rotate_left
            ·intro w'
             go_simp
             with_reducible rfl
            rotate_left
            ·simp only [Act.put, List.setIfInBounds_toArray, List.set_cons_zero, List.set_cons_succ, i64_w, i32_w]
             rfl
            refine pure_ (i := 8) (N := some 136) (v := ?_) (a' := ?_) #[true, true, true, true, true, false, false, true, true, false, false, false, false, false] rfl rfl (any_of HT_.out (by kernel_rfl)) (fun _ _ _ h => h) (Or.inl ⟨by rfl, ?_⟩) ?_ ?_
            rotate_left
            ·intro w'
             go_simp
             with_reducible rfl
            rotate_left
            ·simp only [Act.put, List.setIfInBounds_toArray, List.set_cons_zero, List.set_cons_succ, i64_w, i32_w]
             rfl
            refine pure_ (i := 9) (N := some 137) (v := ?_) (a' := ?_) #[true, true, true, true, true, false, false, true, true, true, false, false, false, false] rfl rfl (any_of HT_.out (by kernel_rfl)) (fun _ _ _ h => h) (Or.inl ⟨by rfl, ?_⟩) ?_ ?_
            rotate_left
            ·intro w'
             go_simp
             with_reducible rfl
            rotate_left
            ·simp only [Act.put, List.setIfInBounds_toArray, List.set_cons_zero, List.set_cons_succ, i64_w, i32_w]
             rfl
            refine pure_ (i := 10) (N := some 138) (v := ?_) (a' := ?_) #[true, true, true, true, true, false, false, true, true, true, true, false, false, false] rfl rfl (any_of HT_.out (by kernel_rfl)) (fun _ _ _ h => h) (Or.inl ⟨by rfl, ?_⟩) ?_ ?_
            rotate_left
            ·intro w'
             go_simp
             with_reducible rfl
            rotate_left
            ·simp only [Act.put, List.setIfInBounds_toArray, List.set_cons_zero, List.set_cons_succ, i64_w, i32_w]
             rfl
            refine take_ (i := 5) (N := some 133) (v := ?_) (a' := ?_) #[true, true, true, true, true, true, false, true, true, true, true, false, false, false] rfl rfl (take_ofW HT_.out HW_.out (by kernel_rfl)) (fun _ _ _ h => h) (Or.inl ⟨by rfl, ?_⟩) hHeld ?_ ?_
            rotate_left
            ·rintro w' ⟨s0, s1, s2, s3⟩
             go_simp
             with_reducible rfl
            rotate_left
            ·simp only [Act.put, List.setIfInBounds_toArray, List.set_cons_zero, List.set_cons_succ, i64_w, i32_w]
             rfl
            refine pure_ (i := 6) (N := some 134) (v := ?_) (a' := ?_) #[true, true, true, true, true, true, true, true, true, true, true, false, false, false] rfl rfl (any_of HT_.out (by kernel_rfl)) (fun _ _ _ h => h) (Or.inl ⟨by rfl, ?_⟩) ?_ ?_
            rotate_left
            ·intro w'
             go_simp
             with_reducible rfl
            rotate_left
            ·simp only [Act.put, List.setIfInBounds_toArray, List.set_cons_zero, List.set_cons_succ, i64_w, i32_w]
             rfl
            refine take_ (i := 11) (N := some 139) (v := ?_) (a' := ?_) #[true, true, true, true, true, true, true, true, true, true, true, true, false, false] rfl rfl (take_ofW HT_.out HW_.out (by kernel_rfl)) (fun _ _ _ h => h) (Or.inl ⟨by rfl, ?_⟩) hHeld ?_ ?_
            rotate_left
            ·rintro w' ⟨s0, s1, s2, s3⟩
             go_simp
             with_reducible rfl
            rotate_left
            ·simp only [Act.put, List.setIfInBounds_toArray, List.set_cons_zero, List.set_cons_succ, i64_w, i32_w]
             rfl
            refine pure_ (i := 12) (N := some 140) (v := ?_) (a' := ?_) #[true, true, true, true, true, true, true, true, true, true, true, true, true, false] rfl rfl (any_of HT_.out (by kernel_rfl)) (fun _ _ _ h => h) (Or.inl ⟨by rfl, ?_⟩) ?_ ?_
            rotate_left
            ·intro w'
             go_simp
             with_reducible rfl
            rotate_left
            ·simp only [Act.put, List.setIfInBounds_toArray, List.set_cons_zero, List.set_cons_succ, i64_w, i32_w]
             rfl
            refine pure_ (i := 13) (N := some 14) (v := ?_) (a' := ?_) #[true, true, true, true, true, true, true, true, true, true, true, true, true, true] rfl rfl (any_of HT_.out (by kernel_rfl)) (fun _ _ _ h => h) (Or.inl ⟨by rfl, ?_⟩) ?_ ?_
            rotate_left
            ·intro w'
             go_simp
             with_reducible rfl
            rotate_left
            ·simp only [Act.put, List.setIfInBounds_toArray, List.set_cons_zero, List.set_cons_succ, i64_w, i32_w]
             rfl
            refine done_ (done_of HT_.out (by kernel_rfl)) ?_
            try go_wp2
            go_roundg kj58
            case measure => have := HJ8.out; have := HJ37.out; have := HK3.out; have := HJ51.out; have := HJ58.out; omega
            case rel => exact ⟨(wrap64 ((wrap64 (x14_3 + ((rd_T36 t199 x15_3).f1))) - ((rd_T36 t199 x15_3).f0))), (wrap64 (x15_3 + 1)), (by first | rfl | (simp; done) | (simp [*]; done)), (by first | rfl | (simp; done) | (simp [*]; done)), H', ⟨by have := HJ8.out; have := HJ37.out; have := HK3.out; have := HJ51.out; have := HJ58.out; omega⟩, ⟨by (with_reducible repeat (first | apply rA | apply rB | apply rC)); exact HO_4.out⟩, ⟨by (with_reducible repeat (first | apply rA | apply rB | apply rC)); exact HO_6.out⟩, ⟨by (with_reducible repeat (first | refine blk_drewN ?_ _ | refine blk_drew ?_ | refine blk_alloc ?_ _)); exact BK192.out⟩, ⟨by repeat (first | (with_reducible first | exact HB.out | apply bA | apply bB | apply bC | refine bD ?_ GE192.out) | exact HB.out)⟩⟩
       rw [if_neg c51] at H
       have c51b0 : decide (x15_3 < (t199.length : Int)) = false := decide_eq_false c51
       clear c51
       replace H := Option.bind_eq_some_iff.mp H
       obtain ⟨t244, A730, H⟩ := H
       replace H : ((span_Rank.f k3 t244 1048576).bind fun bt247 => (if t224 = x14_3 then (if bt247.1 = t224 then ((redraftlaw02_num.f bt247.2).bind fun t249 => (sRanks.j5 k3 a0_3 t199 t209 t224 t229 (t249 != 0))) else (sRanks.j5 k3 a0_3 t199 t209 t224 t229 true)) else (sRanks.j5 k3 a0_3 t199 t209 t224 t229 true))) = some r := H
       have A73 := aM A730
       clear A730
       replace H := Option.bind_eq_some_iff.mp H
       obtain ⟨⟨t247, t248⟩, A740, H⟩ := H
       replace H : (if t224 = x14_3 then (if t247 = t224 then ((redraftlaw02_num.f t248).bind fun t249 => (sRanks.j5 k3 a0_3 t199 t209 t224 t229 (t249 != 0))) else (sRanks.j5 k3 a0_3 t199 t209 t224 t229 true)) else (sRanks.j5 k3 a0_3 t199 t209 t224 t229 true)) = some r := H
       have A74 := aM A740
       clear A740
       have HC75 := aM H
       clear H
       go_upto_region 21 with (first | ((with_reducible refine gate_callee (f := 17) rfl ?_); refine goesL_ (some 143) rfl rfl Try.func17 (by kernel_rfl) rfl #[.slice Ao39 t199.length co39] rfl (by (try simp only [List.map_toArray, List.map_cons, List.map_nil]); first | done | rfl) ?_; (with_reducible refine (redraftlaw02_copied.calls _ _ t199 t244 _ ?side1 ?side2 A73.out).mono ?_); (case side1 => repeat (first | exact (Kd.R_reads' HO_4.out).2.2 | (with_reducible refine Kd.C_alloc ?_ _) | (with_reducible refine Kd.C_drewN ?_ _) | (with_reducible refine Kd.C_drew ?_))); (case side2 => exact (Kd.R_reads' HO_4.out).2.1); rintro e w76 ⟨v245, rfl, ho0, hb⟩; refine ⟨_, rfl, ?_⟩; have n0_ := aM (rE (by (with_reducible repeat (first | apply rA | apply rB | apply rC)); exact HO_4.out) (Kd.R_base ho0) hb); have n1_ := aM (rE (by (with_reducible repeat (first | apply rA | apply rB | apply rC)); exact HO_6.out) (Kd.R_base ho0) hb); have n2_ := aM (Kd.R_lower (Kd.R_new' (Kd.R_new' ho0 (Kd.R_lt (by (with_reducible repeat (first | apply rA | apply rB | apply rC)); exact HO_4.out))) (Kd.R_lt (by (with_reducible repeat (first | apply rA | apply rB | apply rC)); exact HO_6.out))) (below_size (by repeat (first | (with_reducible first | exact HB.out | apply bA | apply bB | apply bC | refine bD ?_ GE192.out) | exact HB.out)))); have n3_ := aM (blk_below (g := gb192) (o := .cells #[.slice A0_0 l0_0.length c0_0, .slice A0_1 l0_1.length c0_1, .slice A0_2 l0_2.length c0_2, .int .i64 a0_3, .int .i64 a0_4] 25 (0, 0)) (by (with_reducible repeat (first | refine blk_drewN ?_ _ | refine blk_drew ?_ | refine blk_alloc ?_ _)); exact BK192.out) hb); have n4_ := aM (below_step (by repeat (first | (with_reducible first | exact HB.out | apply bA | apply bB | apply bC | refine bD ?_ GE192.out) | exact HB.out)) hb); clear HO_4; clear HO_6; clear BK192; clear HB; have HO_4 := n0_; have HO_6 := n1_; have HO246 := n2_; have BK192 := n3_; have HB := n4_; clear n0_ n1_ n2_ n3_ n4_; (try clear hb); (try clear hb2); (try clear hk); (try clear hi); (try clear ho0); obtain ⟨Ao77, co77, eo77⟩ := Kd.R_slice HO246.out; subst eo77) | ((with_reducible refine gate_callee (f := 34) rfl ?_); refine goesL_ (some 144) rfl rfl Try.func34 (by kernel_rfl) rfl #[.slice Ao77 t244.length co77, .int .i64 1048576] rfl (by (try simp only [List.map_toArray, List.map_cons, List.map_nil]); first | done | rfl) ?_; (with_reducible refine (span_Rank.calls k3 _ _ t244 1048576 t247 t248 _ ?side1 ?side2 A74.out).mono ?_); (case side1 => repeat (first | exact (Kd.R_reads' HO246.out).2.2 | (with_reducible refine Kd.C_alloc ?_ _) | (with_reducible refine Kd.C_drewN ?_ _) | (with_reducible refine Kd.C_drew ?_))); (case side2 => exact (Kd.R_reads' HO246.out).2.1); rintro e w78 ⟨rfl, hb⟩; refine ⟨_, rfl, ?_⟩; have n0_ := aM (Kd.R_below (by (with_reducible repeat (first | apply rA | apply rB | apply rC)); exact HO_4.out) hb); have n1_ := aM (Kd.R_below (by (with_reducible repeat (first | apply rA | apply rB | apply rC)); exact HO_6.out) hb); have n2_ := aM (Kd.R_below (by (with_reducible repeat (first | apply rA | apply rB | apply rC)); exact HO246.out) hb); have n3_ := aM (blk_below (g := gb192) (o := .cells #[.slice A0_0 l0_0.length c0_0, .slice A0_1 l0_1.length c0_1, .slice A0_2 l0_2.length c0_2, .int .i64 a0_3, .int .i64 a0_4] 25 (0, 0)) (by (with_reducible repeat (first | refine blk_drewN ?_ _ | refine blk_drew ?_ | refine blk_alloc ?_ _)); exact BK192.out) hb); have n4_ := aM (below_step (by repeat (first | (with_reducible first | exact HB.out | apply bA | apply bB | apply bC | refine bD ?_ GE192.out) | exact HB.out)) hb); clear HO_4; clear HO_6; clear HO246; clear BK192; clear HB; have HO_4 := n0_; have HO_6 := n1_; have HO246 := n2_; have BK192 := n3_; have HB := n4_; clear n0_ n1_ n2_ n3_ n4_; (try clear hb); (try clear hb2); (try clear hk); (try clear hi)))
       (try simp only [Act.put, List.setIfInBounds_toArray, List.set_cons_zero, List.set_cons_succ])
       go_cut [159] (fun v159 wc => ∃ (kq : Nat) (x159_74 : Bool), v159 = .bool x159_74 ∧ Aside0 (sRanks.j5 kq a0_3 t199 t209 t224 t229 x159_74 = some r) ∧ Aside0 (kq ≤ k3) ∧ Aside0 (Kd.R k36 36 wc w.heap.size (fun k_ => some k_ ≠ ((.slice Ao43 t209.length co43) : Value).ownBlock) (.slice Ao39 t199.length co39) t199) ∧ Aside0 (Kd.R k36 36 wc w.heap.size (fun k_ => some k_ ≠ ((.slice Ao39 t199.length co39) : Value).ownBlock) (.slice Ao43 t209.length co43) t209) ∧ Aside0 (wc.heap[gb192]? = some (.cells #[(.slice A0_0 l0_0.length c0_0), (.slice A0_1 l0_1.length c0_1), (.slice A0_2 l0_2.length c0_2), .int .i64 a0_3, .int .i64 a0_4] 25 (0, 0))) ∧ Aside0 (Below w.heap.size w wc))
       case first => as_aux_lemma =>
        have H := HC75.out
        clear HC75
        by_cases c79 : t224 = x14_3
        case neg =>
         rw [if_neg c79] at H
         have c79b0 : (t224 == x14_3) = false := beq_eq_false_iff_ne.mpr c79
         have c79b1 : (t224 != x14_3) = true := bne_iff_ne.mpr c79
         (first | rw [c79b0] | (simp only [i64_w, i32_w]; rw [c79b0]) | skip)
         have H' := aM H
         clear H
         go_wp2
         go_meet
         case rel => exact ⟨_, (true), (by first | rfl | (simp; done) | (simp [*]; done)), H', ⟨by have := HJ8.out; have := HJ37.out; have := HK3.out; first | omega | exact Nat.le_refl _⟩, ⟨by (with_reducible repeat (first | apply rA | apply rB | apply rC)); exact Kd.R_mono HO_4.out (fun _ hk => hk.1)⟩, ⟨by (with_reducible repeat (first | apply rA | apply rB | apply rC)); exact Kd.R_mono HO_6.out (fun _ hk => hk.1)⟩, ⟨by (with_reducible repeat (first | refine blk_drewN ?_ _ | refine blk_drew ?_ | refine blk_alloc ?_ _)); exact BK192.out⟩, ⟨by repeat (first | (with_reducible first | exact HB.out | apply bA | apply bB | apply bC | refine bD ?_ GE192.out) | exact HB.out)⟩⟩
        rw [if_pos c79] at H
        have c79b0 : (t224 == x14_3) = true := beq_iff_eq.mpr c79
        have c79b1 : (t224 != x14_3) = false := bne_eq_false_iff_eq.mpr c79
        clear c79
        (first | rw [c79b0] | (simp only [i64_w, i32_w]; rw [c79b0]) | skip)
        by_cases c80 : t247 = t224
        case neg =>
         rw [if_neg c80] at H
         have c80b0 : (t247 == t224) = false := beq_eq_false_iff_ne.mpr c80
         have c80b1 : (t247 != t224) = true := bne_iff_ne.mpr c80
         have H' := aM H
         clear H
         go_wp2
         go_meet
         case rel => exact ⟨_, (true), (by first | rfl | (simp; done) | (simp [*]; done)), H', ⟨by have := HJ8.out; have := HJ37.out; have := HK3.out; first | omega | exact Nat.le_refl _⟩, ⟨by (with_reducible repeat (first | apply rA | apply rB | apply rC)); exact Kd.R_mono HO_4.out (fun _ hk => hk.1)⟩, ⟨by (with_reducible repeat (first | apply rA | apply rB | apply rC)); exact Kd.R_mono HO_6.out (fun _ hk => hk.1)⟩, ⟨by (with_reducible repeat (first | refine blk_drewN ?_ _ | refine blk_drew ?_ | refine blk_alloc ?_ _)); exact BK192.out⟩, ⟨by repeat (first | (with_reducible first | exact HB.out | apply bA | apply bB | apply bC | refine bD ?_ GE192.out) | exact HB.out)⟩⟩
        rw [if_pos c80] at H
        have c80b0 : (t247 == t224) = true := beq_iff_eq.mpr c80
        have c80b1 : (t247 != t224) = false := bne_eq_false_iff_eq.mpr c80
        clear c80
        replace H := Option.bind_eq_some_iff.mp H
        obtain ⟨t249, A810, H⟩ := H
        replace H : (sRanks.j5 k3 a0_3 t199 t209 t224 t229 (t249 != 0)) = some r := H
        have A81 := aM A810
        clear A810
        have H' := aM H
        clear H
        go_wp2_with (first | (go_at_call 19; (with_reducible refine (redraftlaw02_num.calls t248 t249 _ A81.out).mono ?_); rintro e w' ⟨rfl, ⟨nd, rfl⟩⟩))
        go_meet
        case rel => exact ⟨_, ((t249 != 0)), (by first | rfl | (simp; done) | (simp [*]; done)), H', ⟨by have := HJ8.out; have := HJ37.out; have := HK3.out; first | omega | exact Nat.le_refl _⟩, ⟨by (with_reducible repeat (first | apply rA | apply rB | apply rC)); exact Kd.R_mono HO_4.out (fun _ hk => hk.1)⟩, ⟨by (with_reducible repeat (first | apply rA | apply rB | apply rC)); exact Kd.R_mono HO_6.out (fun _ hk => hk.1)⟩, ⟨by (with_reducible repeat (first | refine blk_drewN ?_ _ | refine blk_drew ?_ | refine blk_alloc ?_ _)); exact BK192.out⟩, ⟨by repeat (first | (with_reducible first | exact HB.out | apply bA | apply bB | apply bC | refine bD ?_ GE192.out) | exact HB.out)⟩⟩
       case rest => as_aux_lemma =>
        clear HC75
        obtain ⟨kq, x159_74, rfl, HA, HJ74, HO_4, HO_6, BK192, HB⟩ := hcut
        cases kq with
        | zero => exact absurd HA.out (by simp [sRanks.j5])
        | succ kj74 =>
         have H := HA.out
         clear HA
         simp only [sRanks.j5] at H
         by_cases c82 : x159_74 = true
         case pos =>
          subst c82
          have H1 : (some false) = some r := by rw [if_pos rfl] at H; exact H
          clear H
          have H := H1
          clear H1
          obtain rfl := Option.some.inj H
          go_wp2
          go_ret
          exact ⟨by first | rfl | (simp [errW_none, errW_some] <;> rfl) | (simp [*, errW_none, errW_some] <;> rfl), by repeat (first | (with_reducible first | exact HB.out | apply bA | apply bB | apply bC | refine bD ?_ GE192.out) | exact HB.out)⟩
         replace c82 := Bool.eq_false_iff.mpr c82
         subst c82
         have H1 : ((redraftlaw02_copied.f t199).bind fun t250 => ((span_Nth.f kj74 t250 a0_3).bind fun bt253 => (if a0_3 < 0 then (sRanks.j6 kj74 a0_3 t199 t209 t224 t229 bt253.1 bt253.2 true) else (sRanks.j6 kj74 a0_3 t199 t209 t224 t229 bt253.1 bt253.2 (decide (a0_3 ≥ t224)))))) = some r := by rw [if_neg (show ¬ (false = true) by decide)] at H; exact H
         clear H
         have H := H1
         clear H1
         replace H := Option.bind_eq_some_iff.mp H
         obtain ⟨t250, A830, H⟩ := H
         replace H : ((span_Nth.f kj74 t250 a0_3).bind fun bt253 => (if a0_3 < 0 then (sRanks.j6 kj74 a0_3 t199 t209 t224 t229 bt253.1 bt253.2 true) else (sRanks.j6 kj74 a0_3 t199 t209 t224 t229 bt253.1 bt253.2 (decide (a0_3 ≥ t224))))) = some r := H
         have A83 := aM A830
         clear A830
         replace H := Option.bind_eq_some_iff.mp H
         obtain ⟨⟨t253, t254⟩, A840, H⟩ := H
         replace H : (if a0_3 < 0 then (sRanks.j6 kj74 a0_3 t199 t209 t224 t229 t253 t254 true) else (sRanks.j6 kj74 a0_3 t199 t209 t224 t229 t253 t254 (decide (a0_3 ≥ t224)))) = some r := H
         have A84 := aM A840
         clear A840
         have HC85 := aM H
         clear H
         go_upto_region 24 with (first | ((with_reducible refine gate_callee (f := 17) rfl ?_); refine goesL_ (some 162) rfl rfl Try.func17 (by kernel_rfl) rfl #[.slice Ao39 t199.length co39] rfl (by (try simp only [List.map_toArray, List.map_cons, List.map_nil]); first | done | rfl) ?_; (with_reducible refine (redraftlaw02_copied.calls _ _ t199 t250 _ ?side1 ?side2 A83.out).mono ?_); (case side1 => repeat (first | exact (Kd.R_reads' HO_4.out).2.2 | (with_reducible refine Kd.C_alloc ?_ _) | (with_reducible refine Kd.C_drewN ?_ _) | (with_reducible refine Kd.C_drew ?_))); (case side2 => exact (Kd.R_reads' HO_4.out).2.1); rintro e w86 ⟨v251, rfl, ho0, hb⟩; refine ⟨_, rfl, ?_⟩; have n0_ := aM (rE (by (with_reducible repeat (first | apply rA | apply rB | apply rC)); exact HO_4.out) (Kd.R_base ho0) hb); have n1_ := aM (rE (by (with_reducible repeat (first | apply rA | apply rB | apply rC)); exact HO_6.out) (Kd.R_base ho0) hb); have n2_ := aM (Kd.R_lower (Kd.R_new' (Kd.R_new' ho0 (Kd.R_lt (by (with_reducible repeat (first | apply rA | apply rB | apply rC)); exact HO_4.out))) (Kd.R_lt (by (with_reducible repeat (first | apply rA | apply rB | apply rC)); exact HO_6.out))) (below_size (by repeat (first | (with_reducible first | exact HB.out | apply bA | apply bB | apply bC | refine bD ?_ GE192.out) | exact HB.out)))); have n3_ := aM (blk_below (g := gb192) (o := .cells #[.slice A0_0 l0_0.length c0_0, .slice A0_1 l0_1.length c0_1, .slice A0_2 l0_2.length c0_2, .int .i64 a0_3, .int .i64 a0_4] 25 (0, 0)) (by (with_reducible repeat (first | refine blk_drewN ?_ _ | refine blk_drew ?_ | refine blk_alloc ?_ _)); exact BK192.out) hb); have n4_ := aM (below_step (by repeat (first | (with_reducible first | exact HB.out | apply bA | apply bB | apply bC | refine bD ?_ GE192.out) | exact HB.out)) hb); clear HO_4; clear HO_6; clear BK192; clear HB; have HO_4 := n0_; have HO_6 := n1_; have HO252 := n2_; have BK192 := n3_; have HB := n4_; clear n0_ n1_ n2_ n3_ n4_; (try clear hb); (try clear hb2); (try clear hk); (try clear hi); (try clear ho0); obtain ⟨Ao87, co87, eo87⟩ := Kd.R_slice HO252.out; subst eo87) | ((with_reducible refine gate_callee (f := 35) rfl ?_); refine goesL_ (some 164) rfl rfl Try.func35 (by kernel_rfl) rfl #[.slice Ao87 t250.length co87, .int .i64 a0_3] rfl (by (try simp only [List.map_toArray, List.map_cons, List.map_nil]); first | done | rfl) ?_; (with_reducible refine (span_Nth.calls kj74 _ _ t250 a0_3 t253 t254 _ ?side1 ?side2 A84.out).mono ?_); (case side1 => repeat (first | exact (Kd.R_reads' HO252.out).2.2 | (with_reducible refine Kd.C_alloc ?_ _) | (with_reducible refine Kd.C_drewN ?_ _) | (with_reducible refine Kd.C_drew ?_))); (case side2 => exact (Kd.R_reads' HO252.out).2.1); rintro e w88 ⟨rfl, hb⟩; refine ⟨_, rfl, ?_⟩; have n0_ := aM (Kd.R_below (by (with_reducible repeat (first | apply rA | apply rB | apply rC)); exact HO_4.out) hb); have n1_ := aM (Kd.R_below (by (with_reducible repeat (first | apply rA | apply rB | apply rC)); exact HO_6.out) hb); have n2_ := aM (Kd.R_below (by (with_reducible repeat (first | apply rA | apply rB | apply rC)); exact HO252.out) hb); have n3_ := aM (blk_below (g := gb192) (o := .cells #[.slice A0_0 l0_0.length c0_0, .slice A0_1 l0_1.length c0_1, .slice A0_2 l0_2.length c0_2, .int .i64 a0_3, .int .i64 a0_4] 25 (0, 0)) (by (with_reducible repeat (first | refine blk_drewN ?_ _ | refine blk_drew ?_ | refine blk_alloc ?_ _)); exact BK192.out) hb); have n4_ := aM (below_step (by repeat (first | (with_reducible first | exact HB.out | apply bA | apply bB | apply bC | refine bD ?_ GE192.out) | exact HB.out)) hb); clear HO_4; clear HO_6; clear HO252; clear BK192; clear HB; have HO_4 := n0_; have HO_6 := n1_; have HO252 := n2_; have BK192 := n3_; have HB := n4_; clear n0_ n1_ n2_ n3_ n4_; (try clear hb); (try clear hb2); (try clear hk); (try clear hi)))
         (try simp only [Act.put, List.setIfInBounds_toArray, List.set_cons_zero, List.set_cons_succ])
         go_cut [173] (fun v173 wc => ∃ (kq : Nat) (x173_84 : Bool), v173 = .bool x173_84 ∧ Aside0 (sRanks.j6 kq a0_3 t199 t209 t224 t229 t253 t254 x173_84 = some r) ∧ Aside0 (kq ≤ kj74) ∧ Aside0 (Kd.R k36 36 wc w.heap.size (fun k_ => some k_ ≠ ((.slice Ao43 t209.length co43) : Value).ownBlock) (.slice Ao39 t199.length co39) t199) ∧ Aside0 (Kd.R k36 36 wc w.heap.size (fun k_ => some k_ ≠ ((.slice Ao39 t199.length co39) : Value).ownBlock) (.slice Ao43 t209.length co43) t209) ∧ Aside0 (wc.heap[gb192]? = some (.cells #[(.slice A0_0 l0_0.length c0_0), (.slice A0_1 l0_1.length c0_1), (.slice A0_2 l0_2.length c0_2), .int .i64 a0_3, .int .i64 a0_4] 25 (0, 0))) ∧ Aside0 (Below w.heap.size w wc))
         case first => as_aux_lemma =>
          have H := HC85.out
          clear HC85
          by_cases c89 : a0_3 < 0
          case neg =>
           rw [if_neg c89] at H
           have c89b0 : decide (a0_3 < 0) = false := decide_eq_false c89
           clear c89
           (first | rw [c89b0] | (simp only [i64_w, i32_w]; rw [c89b0]) | skip)
           have H' := aM H
           clear H
           go_wp2
           go_meet
           case rel => exact ⟨_, (decide (a0_3 ≥ t224)), (by first | rfl | (simp; done) | (simp [*]; done)), H', ⟨by have := HJ8.out; have := HJ37.out; have := HK3.out; have := HJ74.out; first | omega | exact Nat.le_refl _⟩, ⟨by (with_reducible repeat (first | apply rA | apply rB | apply rC)); exact Kd.R_mono HO_4.out (fun _ hk => hk.1)⟩, ⟨by (with_reducible repeat (first | apply rA | apply rB | apply rC)); exact Kd.R_mono HO_6.out (fun _ hk => hk.1)⟩, ⟨by (with_reducible repeat (first | refine blk_drewN ?_ _ | refine blk_drew ?_ | refine blk_alloc ?_ _)); exact BK192.out⟩, ⟨by repeat (first | (with_reducible first | exact HB.out | apply bA | apply bB | apply bC | refine bD ?_ GE192.out) | exact HB.out)⟩⟩
          rw [if_pos c89] at H
          have c89b0 : decide (a0_3 < 0) = true := decide_eq_true c89
          clear c89
          (first | rw [c89b0] | (simp only [i64_w, i32_w]; rw [c89b0]) | skip)
          have H' := aM H
          clear H
          go_wp2
          go_meet
          case rel => exact ⟨_, (true), (by first | rfl | (simp; done) | (simp [*]; done)), H', ⟨by have := HJ8.out; have := HJ37.out; have := HK3.out; have := HJ74.out; first | omega | exact Nat.le_refl _⟩, ⟨by (with_reducible repeat (first | apply rA | apply rB | apply rC)); exact Kd.R_mono HO_4.out (fun _ hk => hk.1)⟩, ⟨by (with_reducible repeat (first | apply rA | apply rB | apply rC)); exact Kd.R_mono HO_6.out (fun _ hk => hk.1)⟩, ⟨by (with_reducible repeat (first | refine blk_drewN ?_ _ | refine blk_drew ?_ | refine blk_alloc ?_ _)); exact BK192.out⟩, ⟨by repeat (first | (with_reducible first | exact HB.out | apply bA | apply bB | apply bC | refine bD ?_ GE192.out) | exact HB.out)⟩⟩
         case rest => as_aux_lemma =>
          clear HC85
          obtain ⟨kq, x173_84, rfl, HA, HJ84, HO_4, HO_6, BK192, HB⟩ := hcut
          cases kq with
          | zero => exact absurd HA.out (by simp [sRanks.j6])
          | succ kj84 =>
           have H := HA.out
           clear HA
           simp only [sRanks.j6] at H
           have HC90 := aM H
           clear H
           go_upto_if 173 with (fail)
           go_cut [] (fun wc => ∃ (kq : Nat), Aside0 (sRanks.j9 kq t199 t209 t224 t229 = some r) ∧ Aside0 (kq ≤ kj84) ∧ Aside0 (Kd.R k36 36 wc w.heap.size (fun k_ => some k_ ≠ ((.slice Ao43 t209.length co43) : Value).ownBlock) (.slice Ao39 t199.length co39) t199) ∧ Aside0 (Kd.R k36 36 wc w.heap.size (fun k_ => some k_ ≠ ((.slice Ao39 t199.length co39) : Value).ownBlock) (.slice Ao43 t209.length co43) t209) ∧ Aside0 (wc.heap[gb192]? = some (.cells #[(.slice A0_0 l0_0.length c0_0), (.slice A0_1 l0_1.length c0_1), (.slice A0_2 l0_2.length c0_2), .int .i64 a0_3, .int .i64 a0_4] 25 (0, 0))) ∧ Aside0 (Below w.heap.size w wc))
           case first => as_aux_lemma =>
            have H := HC90.out
            clear HC90
            by_cases c91 : x173_84 = true
            case pos =>
             subst c91
             have H1 : ((redraftlaw02_num.f t254).bind fun t255 => (if t255 = 12 then (sRanks.j7 kj84 t199 t209 t224 t229 (t253 != 0)) else (sRanks.j7 kj84 t199 t209 t224 t229 true))) = some r := by rw [if_pos rfl] at H; exact H
             clear H
             have H := H1
             clear H1
             have HC92 := aM H
             clear H
             go_upto_region 25 with (fail)
             go_cut [180] (fun v180 wc => ∃ (kq : Nat) (x180_91 : Bool), v180 = .bool x180_91 ∧ Aside0 (sRanks.j7 kq t199 t209 t224 t229 x180_91 = some r) ∧ Aside0 (kq ≤ kj84) ∧ Aside0 (Kd.R k36 36 wc w.heap.size (fun k_ => some k_ ≠ ((.slice Ao43 t209.length co43) : Value).ownBlock) (.slice Ao39 t199.length co39) t199) ∧ Aside0 (Kd.R k36 36 wc w.heap.size (fun k_ => some k_ ≠ ((.slice Ao39 t199.length co39) : Value).ownBlock) (.slice Ao43 t209.length co43) t209) ∧ Aside0 (wc.heap[gb192]? = some (.cells #[(.slice A0_0 l0_0.length c0_0), (.slice A0_1 l0_1.length c0_1), (.slice A0_2 l0_2.length c0_2), .int .i64 a0_3, .int .i64 a0_4] 25 (0, 0))) ∧ Aside0 (Below w.heap.size w wc))
             case first => as_aux_lemma =>
              have H := HC92.out
              clear HC92
              replace H := Option.bind_eq_some_iff.mp H
              obtain ⟨t255, A930, H⟩ := H
              replace H : (if t255 = 12 then (sRanks.j7 kj84 t199 t209 t224 t229 (t253 != 0)) else (sRanks.j7 kj84 t199 t209 t224 t229 true)) = some r := H
              have A93 := aM A930
              clear A930
              by_cases c94 : t255 = 12
              case neg =>
               rw [if_neg c94] at H
               have c94b0 : (t255 == 12) = false := beq_eq_false_iff_ne.mpr c94
               have c94b1 : (t255 != 12) = true := bne_iff_ne.mpr c94
               (first | rw [c94b0] | (simp only [i64_w, i32_w]; rw [c94b0]) | skip)
               have H' := aM H
               clear H
               go_wp2_with (first | ((with_reducible refine gate_callee (f := 19) rfl ?_); refine goesL_ (some 175) rfl rfl Try.func19 (by kernel_rfl) rfl #[.int .i64 t254] rfl (by (try simp only [List.map_toArray, List.map_cons, List.map_nil]); first | done | rfl) ?_; (with_reducible refine (redraftlaw02_num.calls t254 t255 _ A93.out).mono ?_); rintro e w' ⟨rfl, ⟨nd, rfl⟩⟩; refine ⟨_, rfl, ?_⟩))
               go_meet
               case rel => exact ⟨_, (true), (by first | rfl | (simp; done) | (simp [*]; done)), H', ⟨by have := HJ8.out; have := HJ37.out; have := HK3.out; have := HJ74.out; have := HJ84.out; first | omega | exact Nat.le_refl _⟩, ⟨by (with_reducible repeat (first | apply rA | apply rB | apply rC)); exact HO_4.out⟩, ⟨by (with_reducible repeat (first | apply rA | apply rB | apply rC)); exact HO_6.out⟩, ⟨by (with_reducible repeat (first | refine blk_drewN ?_ _ | refine blk_drew ?_ | refine blk_alloc ?_ _)); exact BK192.out⟩, ⟨by repeat (first | (with_reducible first | exact HB.out | apply bA | apply bB | apply bC | refine bD ?_ GE192.out) | exact HB.out)⟩⟩
              rw [if_pos c94] at H
              have c94b0 : (t255 == 12) = true := beq_iff_eq.mpr c94
              have c94b1 : (t255 != 12) = false := bne_eq_false_iff_eq.mpr c94
              clear c94
              (first | rw [c94b0] | (simp only [i64_w, i32_w]; rw [c94b0]) | skip)
              have H' := aM H
              clear H
              go_wp2_with (first | ((with_reducible refine gate_callee (f := 19) rfl ?_); refine goesL_ (some 175) rfl rfl Try.func19 (by kernel_rfl) rfl #[.int .i64 t254] rfl (by (try simp only [List.map_toArray, List.map_cons, List.map_nil]); first | done | rfl) ?_; (with_reducible refine (redraftlaw02_num.calls t254 t255 _ A93.out).mono ?_); rintro e w' ⟨rfl, ⟨nd, rfl⟩⟩; refine ⟨_, rfl, ?_⟩))
              go_meet
              case rel => exact ⟨_, ((t253 != 0)), (by first | rfl | (simp; done) | (simp [*]; done)), H', ⟨by have := HJ8.out; have := HJ37.out; have := HK3.out; have := HJ74.out; have := HJ84.out; first | omega | exact Nat.le_refl _⟩, ⟨by (with_reducible repeat (first | apply rA | apply rB | apply rC)); exact HO_4.out⟩, ⟨by (with_reducible repeat (first | apply rA | apply rB | apply rC)); exact HO_6.out⟩, ⟨by (with_reducible repeat (first | refine blk_drewN ?_ _ | refine blk_drew ?_ | refine blk_alloc ?_ _)); exact BK192.out⟩, ⟨by repeat (first | (with_reducible first | exact HB.out | apply bA | apply bB | apply bC | refine bD ?_ GE192.out) | exact HB.out)⟩⟩
             case rest => as_aux_lemma =>
              clear HC92
              obtain ⟨kq, x180_91, rfl, HA, HJ91, HO_4, HO_6, BK192, HB⟩ := hcut
              cases kq with
              | zero => exact absurd HA.out (by simp [sRanks.j7])
              | succ kj91 =>
               have H := HA.out
               clear HA
               simp only [sRanks.j7] at H
               by_cases c95 : x180_91 = true
               case pos =>
                subst c95
                have H1 : (some false) = some r := by rw [if_pos rfl] at H; exact H
                clear H
                have H := H1
                clear H1
                obtain rfl := Option.some.inj H
                go_wp2
                go_ret
                exact ⟨by first | rfl | (simp [errW_none, errW_some] <;> rfl) | (simp [*, errW_none, errW_some] <;> rfl), by repeat (first | (with_reducible first | exact HB.out | apply bA | apply bB | apply bC | refine bD ?_ GE192.out) | exact HB.out)⟩
               replace c95 := Bool.eq_false_iff.mpr c95
               subst c95
               have H1 : (sRanks.j9 kj91 t199 t209 t224 t229) = some r := by rw [if_neg (show ¬ (false = true) by decide)] at H; exact H
               clear H
               have H := H1
               clear H1
               have H' := aM H
               clear H
               go_wp2
               go_meet
               case rel => exact ⟨_, H', ⟨by have := HJ8.out; have := HJ37.out; have := HK3.out; have := HJ74.out; have := HJ84.out; have := HJ91.out; first | omega | exact Nat.le_refl _⟩, ⟨by (with_reducible repeat (first | apply rA | apply rB | apply rC)); exact HO_4.out⟩, ⟨by (with_reducible repeat (first | apply rA | apply rB | apply rC)); exact HO_6.out⟩, ⟨by (with_reducible repeat (first | refine blk_drewN ?_ _ | refine blk_drew ?_ | refine blk_alloc ?_ _)); exact BK192.out⟩, ⟨by repeat (first | (with_reducible first | exact HB.out | apply bA | apply bB | apply bC | refine bD ?_ GE192.out) | exact HB.out)⟩⟩
            replace c91 := Bool.eq_false_iff.mpr c91
            subst c91
            have H1 : ((redraftlaw02_copied.f t199).bind fun t256 => ((span_Rank.f kj84 t256 t253).bind fun bt259 => ((redraftlaw02_num.f t254).bind fun t261 => (if t261 = 0 then ((redraftlaw02_num.f bt259.2).bind fun t262 => (if t262 = 0 then (if bt259.1 = a0_3 then ((redraftlaw02_lies.f kj84 t199 t253).bind fun t263 => (sRanks.j8 kj84 t199 t209 t224 t229 (!t263))) else (sRanks.j8 kj84 t199 t209 t224 t229 true)) else (sRanks.j8 kj84 t199 t209 t224 t229 true))) else (sRanks.j8 kj84 t199 t209 t224 t229 true))))) = some r := by rw [if_neg (show ¬ (false = true) by decide)] at H; exact H
            clear H
            have H := H1
            clear H1
            replace H := Option.bind_eq_some_iff.mp H
            obtain ⟨t256, A960, H⟩ := H
            replace H : ((span_Rank.f kj84 t256 t253).bind fun bt259 => ((redraftlaw02_num.f t254).bind fun t261 => (if t261 = 0 then ((redraftlaw02_num.f bt259.2).bind fun t262 => (if t262 = 0 then (if bt259.1 = a0_3 then ((redraftlaw02_lies.f kj84 t199 t253).bind fun t263 => (sRanks.j8 kj84 t199 t209 t224 t229 (!t263))) else (sRanks.j8 kj84 t199 t209 t224 t229 true)) else (sRanks.j8 kj84 t199 t209 t224 t229 true))) else (sRanks.j8 kj84 t199 t209 t224 t229 true)))) = some r := H
            have A96 := aM A960
            clear A960
            replace H := Option.bind_eq_some_iff.mp H
            obtain ⟨⟨t259, t260⟩, A970, H⟩ := H
            replace H : ((redraftlaw02_num.f t254).bind fun t261 => (if t261 = 0 then ((redraftlaw02_num.f t260).bind fun t262 => (if t262 = 0 then (if t259 = a0_3 then ((redraftlaw02_lies.f kj84 t199 t253).bind fun t263 => (sRanks.j8 kj84 t199 t209 t224 t229 (!t263))) else (sRanks.j8 kj84 t199 t209 t224 t229 true)) else (sRanks.j8 kj84 t199 t209 t224 t229 true))) else (sRanks.j8 kj84 t199 t209 t224 t229 true))) = some r := H
            have A97 := aM A970
            clear A970
            have HC98 := aM H
            clear H
            go_upto_region 28 with (first | ((with_reducible refine gate_callee (f := 17) rfl ?_); refine goesL_ (some 183) rfl rfl Try.func17 (by kernel_rfl) rfl #[.slice Ao39 t199.length co39] rfl (by (try simp only [List.map_toArray, List.map_cons, List.map_nil]); first | done | rfl) ?_; (with_reducible refine (redraftlaw02_copied.calls _ _ t199 t256 _ ?side1 ?side2 A96.out).mono ?_); (case side1 => repeat (first | exact (Kd.R_reads' HO_4.out).2.2 | (with_reducible refine Kd.C_alloc ?_ _) | (with_reducible refine Kd.C_drewN ?_ _) | (with_reducible refine Kd.C_drew ?_))); (case side2 => exact (Kd.R_reads' HO_4.out).2.1); rintro e w99 ⟨v257, rfl, ho0, hb⟩; refine ⟨_, rfl, ?_⟩; have n0_ := aM (rE (by (with_reducible repeat (first | apply rA | apply rB | apply rC)); exact HO_4.out) (Kd.R_base ho0) hb); have n1_ := aM (rE (by (with_reducible repeat (first | apply rA | apply rB | apply rC)); exact HO_6.out) (Kd.R_base ho0) hb); have n2_ := aM (Kd.R_lower (Kd.R_new' (Kd.R_new' ho0 (Kd.R_lt (by (with_reducible repeat (first | apply rA | apply rB | apply rC)); exact HO_4.out))) (Kd.R_lt (by (with_reducible repeat (first | apply rA | apply rB | apply rC)); exact HO_6.out))) (below_size (by repeat (first | (with_reducible first | exact HB.out | apply bA | apply bB | apply bC | refine bD ?_ GE192.out) | exact HB.out)))); have n3_ := aM (blk_below (g := gb192) (o := .cells #[.slice A0_0 l0_0.length c0_0, .slice A0_1 l0_1.length c0_1, .slice A0_2 l0_2.length c0_2, .int .i64 a0_3, .int .i64 a0_4] 25 (0, 0)) (by (with_reducible repeat (first | refine blk_drewN ?_ _ | refine blk_drew ?_ | refine blk_alloc ?_ _)); exact BK192.out) hb); have n4_ := aM (below_step (by repeat (first | (with_reducible first | exact HB.out | apply bA | apply bB | apply bC | refine bD ?_ GE192.out) | exact HB.out)) hb); clear HO_4; clear HO_6; clear BK192; clear HB; have HO_4 := n0_; have HO_6 := n1_; have HO258 := n2_; have BK192 := n3_; have HB := n4_; clear n0_ n1_ n2_ n3_ n4_; (try clear hb); (try clear hb2); (try clear hk); (try clear hi); (try clear ho0); obtain ⟨Ao100, co100, eo100⟩ := Kd.R_slice HO258.out; subst eo100) | ((with_reducible refine gate_callee (f := 34) rfl ?_); refine goesL_ (some 185) rfl rfl Try.func34 (by kernel_rfl) rfl #[.slice Ao100 t256.length co100, .int .i64 t253] rfl (by (try simp only [List.map_toArray, List.map_cons, List.map_nil]); first | done | rfl) ?_; (with_reducible refine (span_Rank.calls kj84 _ _ t256 t253 t259 t260 _ ?side1 ?side2 A97.out).mono ?_); (case side1 => repeat (first | exact (Kd.R_reads' HO258.out).2.2 | (with_reducible refine Kd.C_alloc ?_ _) | (with_reducible refine Kd.C_drewN ?_ _) | (with_reducible refine Kd.C_drew ?_))); (case side2 => exact (Kd.R_reads' HO258.out).2.1); rintro e w101 ⟨rfl, hb⟩; refine ⟨_, rfl, ?_⟩; have n0_ := aM (Kd.R_below (by (with_reducible repeat (first | apply rA | apply rB | apply rC)); exact HO_4.out) hb); have n1_ := aM (Kd.R_below (by (with_reducible repeat (first | apply rA | apply rB | apply rC)); exact HO_6.out) hb); have n2_ := aM (Kd.R_below (by (with_reducible repeat (first | apply rA | apply rB | apply rC)); exact HO258.out) hb); have n3_ := aM (blk_below (g := gb192) (o := .cells #[.slice A0_0 l0_0.length c0_0, .slice A0_1 l0_1.length c0_1, .slice A0_2 l0_2.length c0_2, .int .i64 a0_3, .int .i64 a0_4] 25 (0, 0)) (by (with_reducible repeat (first | refine blk_drewN ?_ _ | refine blk_drew ?_ | refine blk_alloc ?_ _)); exact BK192.out) hb); have n4_ := aM (below_step (by repeat (first | (with_reducible first | exact HB.out | apply bA | apply bB | apply bC | refine bD ?_ GE192.out) | exact HB.out)) hb); clear HO_4; clear HO_6; clear HO258; clear BK192; clear HB; have HO_4 := n0_; have HO_6 := n1_; have HO258 := n2_; have BK192 := n3_; have HB := n4_; clear n0_ n1_ n2_ n3_ n4_; (try clear hb); (try clear hb2); (try clear hk); (try clear hi)))
            (try simp only [Act.put, List.setIfInBounds_toArray, List.set_cons_zero, List.set_cons_succ])
            go_cut [206] (fun v206 wc => ∃ (kq : Nat) (x206_97 : Bool), v206 = .bool x206_97 ∧ Aside0 (sRanks.j8 kq t199 t209 t224 t229 x206_97 = some r) ∧ Aside0 (kq ≤ kj84) ∧ Aside0 (Kd.R k36 36 wc w.heap.size (fun k_ => some k_ ≠ ((.slice Ao43 t209.length co43) : Value).ownBlock) (.slice Ao39 t199.length co39) t199) ∧ Aside0 (Kd.R k36 36 wc w.heap.size (fun k_ => some k_ ≠ ((.slice Ao39 t199.length co39) : Value).ownBlock) (.slice Ao43 t209.length co43) t209) ∧ Aside0 (wc.heap[gb192]? = some (.cells #[(.slice A0_0 l0_0.length c0_0), (.slice A0_1 l0_1.length c0_1), (.slice A0_2 l0_2.length c0_2), .int .i64 a0_3, .int .i64 a0_4] 25 (0, 0))) ∧ Aside0 (Below w.heap.size w wc))
            case first => as_aux_lemma =>
             have H := HC98.out
             clear HC98
             replace H := Option.bind_eq_some_iff.mp H
             obtain ⟨t261, A1020, H⟩ := H
             replace H : (if t261 = 0 then ((redraftlaw02_num.f t260).bind fun t262 => (if t262 = 0 then (if t259 = a0_3 then ((redraftlaw02_lies.f kj84 t199 t253).bind fun t263 => (sRanks.j8 kj84 t199 t209 t224 t229 (!t263))) else (sRanks.j8 kj84 t199 t209 t224 t229 true)) else (sRanks.j8 kj84 t199 t209 t224 t229 true))) else (sRanks.j8 kj84 t199 t209 t224 t229 true)) = some r := H
             have A102 := aM A1020
             clear A1020
             by_cases c103 : t261 = 0
             case neg =>
              rw [if_neg c103] at H
              have c103b0 : (t261 == 0) = false := beq_eq_false_iff_ne.mpr c103
              have c103b1 : (t261 != 0) = true := bne_iff_ne.mpr c103
              (first | rw [c103b0] | (simp only [i64_w, i32_w]; rw [c103b0]) | skip)
              have H' := aM H
              clear H
              go_wp2_with (first | ((with_reducible refine gate_callee (f := 19) rfl ?_); refine goesL_ (some 189) rfl rfl Try.func19 (by kernel_rfl) rfl #[.int .i64 t254] rfl (by (try simp only [List.map_toArray, List.map_cons, List.map_nil]); first | done | rfl) ?_; (with_reducible refine (redraftlaw02_num.calls t254 t261 _ A102.out).mono ?_); rintro e w' ⟨rfl, ⟨nd, rfl⟩⟩; refine ⟨_, rfl, ?_⟩))
              go_meet
              case rel => exact ⟨_, (true), (by first | rfl | (simp; done) | (simp [*]; done)), H', ⟨by have := HJ8.out; have := HJ37.out; have := HK3.out; have := HJ74.out; have := HJ84.out; first | omega | exact Nat.le_refl _⟩, ⟨by (with_reducible repeat (first | apply rA | apply rB | apply rC)); exact Kd.R_mono HO_4.out (fun _ hk => hk.1)⟩, ⟨by (with_reducible repeat (first | apply rA | apply rB | apply rC)); exact Kd.R_mono HO_6.out (fun _ hk => hk.1)⟩, ⟨by (with_reducible repeat (first | refine blk_drewN ?_ _ | refine blk_drew ?_ | refine blk_alloc ?_ _)); exact BK192.out⟩, ⟨by repeat (first | (with_reducible first | exact HB.out | apply bA | apply bB | apply bC | refine bD ?_ GE192.out) | exact HB.out)⟩⟩
             rw [if_pos c103] at H
             have c103b0 : (t261 == 0) = true := beq_iff_eq.mpr c103
             have c103b1 : (t261 != 0) = false := bne_eq_false_iff_eq.mpr c103
             clear c103
             (first | rw [c103b0] | (simp only [i64_w, i32_w]; rw [c103b0]) | skip)
             replace H := Option.bind_eq_some_iff.mp H
             obtain ⟨t262, A1040, H⟩ := H
             replace H : (if t262 = 0 then (if t259 = a0_3 then ((redraftlaw02_lies.f kj84 t199 t253).bind fun t263 => (sRanks.j8 kj84 t199 t209 t224 t229 (!t263))) else (sRanks.j8 kj84 t199 t209 t224 t229 true)) else (sRanks.j8 kj84 t199 t209 t224 t229 true)) = some r := H
             have A104 := aM A1040
             clear A1040
             by_cases c105 : t262 = 0
             case neg =>
              rw [if_neg c105] at H
              have c105b0 : (t262 == 0) = false := beq_eq_false_iff_ne.mpr c105
              have c105b1 : (t262 != 0) = true := bne_iff_ne.mpr c105
              have H' := aM H
              clear H
              go_wp2_with (first | ((with_reducible refine gate_callee (f := 19) rfl ?_); refine goesL_ (some 189) rfl rfl Try.func19 (by kernel_rfl) rfl #[.int .i64 t254] rfl (by (try simp only [List.map_toArray, List.map_cons, List.map_nil]); first | done | rfl) ?_; (with_reducible refine (redraftlaw02_num.calls t254 t261 _ A102.out).mono ?_); rintro e w' ⟨rfl, ⟨nd, rfl⟩⟩; refine ⟨_, rfl, ?_⟩) | (go_at_call 19; (with_reducible refine (redraftlaw02_num.calls t260 t262 _ A104.out).mono ?_); rintro e w' ⟨rfl, ⟨nd, rfl⟩⟩))
              go_meet
              case rel => exact ⟨_, (true), (by first | rfl | (simp; done) | (simp [*]; done)), H', ⟨by have := HJ8.out; have := HJ37.out; have := HK3.out; have := HJ74.out; have := HJ84.out; first | omega | exact Nat.le_refl _⟩, ⟨by (with_reducible repeat (first | apply rA | apply rB | apply rC)); exact Kd.R_mono HO_4.out (fun _ hk => hk.1)⟩, ⟨by (with_reducible repeat (first | apply rA | apply rB | apply rC)); exact Kd.R_mono HO_6.out (fun _ hk => hk.1)⟩, ⟨by (with_reducible repeat (first | refine blk_drewN ?_ _ | refine blk_drew ?_ | refine blk_alloc ?_ _)); exact BK192.out⟩, ⟨by repeat (first | (with_reducible first | exact HB.out | apply bA | apply bB | apply bC | refine bD ?_ GE192.out) | exact HB.out)⟩⟩
             rw [if_pos c105] at H
             have c105b0 : (t262 == 0) = true := beq_iff_eq.mpr c105
             have c105b1 : (t262 != 0) = false := bne_eq_false_iff_eq.mpr c105
             clear c105
             by_cases c106 : t259 = a0_3
             case neg =>
              rw [if_neg c106] at H
              have c106b0 : (t259 == a0_3) = false := beq_eq_false_iff_ne.mpr c106
              have c106b1 : (t259 != a0_3) = true := bne_iff_ne.mpr c106
              have H' := aM H
              clear H
              go_wp2_with (first | ((with_reducible refine gate_callee (f := 19) rfl ?_); refine goesL_ (some 189) rfl rfl Try.func19 (by kernel_rfl) rfl #[.int .i64 t254] rfl (by (try simp only [List.map_toArray, List.map_cons, List.map_nil]); first | done | rfl) ?_; (with_reducible refine (redraftlaw02_num.calls t254 t261 _ A102.out).mono ?_); rintro e w' ⟨rfl, ⟨nd, rfl⟩⟩; refine ⟨_, rfl, ?_⟩) | (go_at_call 19; (with_reducible refine (redraftlaw02_num.calls t260 t262 _ A104.out).mono ?_); rintro e w' ⟨rfl, ⟨nd, rfl⟩⟩))
              go_meet
              case rel => exact ⟨_, (true), (by first | rfl | (simp; done) | (simp [*]; done)), H', ⟨by have := HJ8.out; have := HJ37.out; have := HK3.out; have := HJ74.out; have := HJ84.out; first | omega | exact Nat.le_refl _⟩, ⟨by (with_reducible repeat (first | apply rA | apply rB | apply rC)); exact Kd.R_mono HO_4.out (fun _ hk => hk.1)⟩, ⟨by (with_reducible repeat (first | apply rA | apply rB | apply rC)); exact Kd.R_mono HO_6.out (fun _ hk => hk.1)⟩, ⟨by (with_reducible repeat (first | refine blk_drewN ?_ _ | refine blk_drew ?_ | refine blk_alloc ?_ _)); exact BK192.out⟩, ⟨by repeat (first | (with_reducible first | exact HB.out | apply bA | apply bB | apply bC | refine bD ?_ GE192.out) | exact HB.out)⟩⟩
             rw [if_pos c106] at H
             have c106b0 : (t259 == a0_3) = true := beq_iff_eq.mpr c106
             have c106b1 : (t259 != a0_3) = false := bne_eq_false_iff_eq.mpr c106
             clear c106
             replace H := Option.bind_eq_some_iff.mp H
             obtain ⟨t263, A1070, H⟩ := H
             replace H : (sRanks.j8 kj84 t199 t209 t224 t229 (!t263)) = some r := H
             have A107 := aM A1070
             clear A1070
             have H' := aM H
             clear H
             go_wp2_with (first | ((with_reducible refine gate_callee (f := 19) rfl ?_); refine goesL_ (some 189) rfl rfl Try.func19 (by kernel_rfl) rfl #[.int .i64 t254] rfl (by (try simp only [List.map_toArray, List.map_cons, List.map_nil]); first | done | rfl) ?_; (with_reducible refine (redraftlaw02_num.calls t254 t261 _ A102.out).mono ?_); rintro e w' ⟨rfl, ⟨nd, rfl⟩⟩; refine ⟨_, rfl, ?_⟩) | (go_at_call 19; (with_reducible refine (redraftlaw02_num.calls t260 t262 _ A104.out).mono ?_); rintro e w' ⟨rfl, ⟨nd, rfl⟩⟩) | (go_at_call 36; (with_reducible refine (redraftlaw02_lies.calls kj84 _ _ t199 t253 t263 _ ?side1 ?side2 A107.out).mono ?_); (case side1 => repeat (first | exact (Kd.R_reads' HO_4.out).2.2 | (with_reducible refine Kd.C_alloc ?_ _) | (with_reducible refine Kd.C_drewN ?_ _) | (with_reducible refine Kd.C_drew ?_))); (case side2 => exact (Kd.R_reads' HO_4.out).2.1); rintro e w' ⟨rfl, ⟨nd, rfl⟩⟩))
             go_meet
             case rel => exact ⟨_, (!t263), (by first | rfl | (simp; done) | (simp [*]; done)), H', ⟨by have := HJ8.out; have := HJ37.out; have := HK3.out; have := HJ74.out; have := HJ84.out; first | omega | exact Nat.le_refl _⟩, ⟨by (with_reducible repeat (first | apply rA | apply rB | apply rC)); exact Kd.R_mono HO_4.out (fun _ hk => hk.1)⟩, ⟨by (with_reducible repeat (first | apply rA | apply rB | apply rC)); exact Kd.R_mono HO_6.out (fun _ hk => hk.1)⟩, ⟨by (with_reducible repeat (first | refine blk_drewN ?_ _ | refine blk_drew ?_ | refine blk_alloc ?_ _)); exact BK192.out⟩, ⟨by repeat (first | (with_reducible first | exact HB.out | apply bA | apply bB | apply bC | refine bD ?_ GE192.out) | exact HB.out)⟩⟩
            case rest => as_aux_lemma =>
             clear HC98
             obtain ⟨kq, x206_97, rfl, HA, HJ97, HO_4, HO_6, BK192, HB⟩ := hcut
             cases kq with
             | zero => exact absurd HA.out (by simp [sRanks.j8])
             | succ kj97 =>
              have H := HA.out
              clear HA
              simp only [sRanks.j8] at H
              by_cases c108 : x206_97 = true
              case pos =>
               subst c108
               have H1 : (some false) = some r := by rw [if_pos rfl] at H; exact H
               clear H
               have H := H1
               clear H1
               obtain rfl := Option.some.inj H
               go_wp2
               go_ret
               exact ⟨by first | rfl | (simp [errW_none, errW_some] <;> rfl) | (simp [*, errW_none, errW_some] <;> rfl), by repeat (first | (with_reducible first | exact HB.out | apply bA | apply bB | apply bC | refine bD ?_ GE192.out) | exact HB.out)⟩
              replace c108 := Bool.eq_false_iff.mpr c108
              subst c108
              have H1 : (sRanks.j9 kj97 t199 t209 t224 t229) = some r := by rw [if_neg (show ¬ (false = true) by decide)] at H; exact H
              clear H
              have H := H1
              clear H1
              have H' := aM H
              clear H
              go_wp2
              go_meet
              case rel => exact ⟨_, H', ⟨by have := HJ8.out; have := HJ37.out; have := HK3.out; have := HJ74.out; have := HJ84.out; have := HJ97.out; first | omega | exact Nat.le_refl _⟩, ⟨by (with_reducible repeat (first | apply rA | apply rB | apply rC)); exact HO_4.out⟩, ⟨by (with_reducible repeat (first | apply rA | apply rB | apply rC)); exact HO_6.out⟩, ⟨by (with_reducible repeat (first | refine blk_drewN ?_ _ | refine blk_drew ?_ | refine blk_alloc ?_ _)); exact BK192.out⟩, ⟨by repeat (first | (with_reducible first | exact HB.out | apply bA | apply bB | apply bC | refine bD ?_ GE192.out) | exact HB.out)⟩⟩
           case rest => as_aux_lemma =>
            clear HC90
            obtain ⟨kq, HA, HJ89, HO_4, HO_6, BK192, HB⟩ := hcut
            cases kq with
            | zero => exact absurd HA.out (by simp [sRanks.j9])
            | succ kj89 =>
             have H := HA.out
             clear HA
             simp only [sRanks.j9] at H
             by_cases c109 : (wrap64 ((t199.length : Int) + (t209.length : Int))) > 32768
             case pos =>
              rw [if_pos c109] at H
              have c109b0 : decide (32768 < (wrap64 ((t199.length : Int) + (t209.length : Int)))) = true := decide_eq_true c109
              clear c109
              obtain rfl := Option.some.inj H
              go_wp2
              go_ret
              exact ⟨by first | rfl | (simp [errW_none, errW_some] <;> rfl) | (simp [*, errW_none, errW_some] <;> rfl), by repeat (first | (with_reducible first | exact HB.out | apply bA | apply bB | apply bC | refine bD ?_ GE192.out) | exact HB.out)⟩
             rw [if_neg c109] at H
             have c109b0 : decide (32768 < (wrap64 ((t199.length : Int) + (t209.length : Int)))) = false := decide_eq_false c109
             clear c109
             replace H := Option.bind_eq_some_iff.mp H
             obtain ⟨t264, A1100, H⟩ := H
             replace H : ((redraftlaw02_copied.f t209).bind fun t267 => ((span_Union.f kj89 t264 t267).bind fun bt270 => ((redraftlaw02_copied.f t199).bind fun t274 => ((redraftlaw02_copied.f t209).bind fun t277 => ((span_Meet.f kj89 t274 t277).bind fun bt280 => ((span_Count.f kj89 bt270.1).bind fun bt284 => ((span_Count.f kj89 bt280.1).bind fun bt286 => ((redraftlaw02_num.f bt270.2).bind fun t288 => (if t288 = 0 then ((redraftlaw02_num.f bt280.2).bind fun t289 => (if t289 = 0 then ((redraftlaw02_num.f bt284.2).bind fun t290 => (if t290 = 0 then ((redraftlaw02_num.f bt286.2).bind fun t291 => (if t291 = 0 then (some ((wrap64 (bt284.1 + bt286.1)) == (wrap64 (t224 + t229)))) else (some false))) else (some false))) else (some false))) else (some false)))))))))) = some r := H
             have A110 := aM A1100
             clear A1100
             replace H := Option.bind_eq_some_iff.mp H
             obtain ⟨t267, A1110, H⟩ := H
             replace H : ((span_Union.f kj89 t264 t267).bind fun bt270 => ((redraftlaw02_copied.f t199).bind fun t274 => ((redraftlaw02_copied.f t209).bind fun t277 => ((span_Meet.f kj89 t274 t277).bind fun bt280 => ((span_Count.f kj89 bt270.1).bind fun bt284 => ((span_Count.f kj89 bt280.1).bind fun bt286 => ((redraftlaw02_num.f bt270.2).bind fun t288 => (if t288 = 0 then ((redraftlaw02_num.f bt280.2).bind fun t289 => (if t289 = 0 then ((redraftlaw02_num.f bt284.2).bind fun t290 => (if t290 = 0 then ((redraftlaw02_num.f bt286.2).bind fun t291 => (if t291 = 0 then (some ((wrap64 (bt284.1 + bt286.1)) == (wrap64 (t224 + t229)))) else (some false))) else (some false))) else (some false))) else (some false))))))))) = some r := H
             have A111 := aM A1110
             clear A1110
             replace H := Option.bind_eq_some_iff.mp H
             obtain ⟨⟨t270, t273⟩, A1120, H⟩ := H
             replace H : ((redraftlaw02_copied.f t199).bind fun t274 => ((redraftlaw02_copied.f t209).bind fun t277 => ((span_Meet.f kj89 t274 t277).bind fun bt280 => ((span_Count.f kj89 t270).bind fun bt284 => ((span_Count.f kj89 bt280.1).bind fun bt286 => ((redraftlaw02_num.f t273).bind fun t288 => (if t288 = 0 then ((redraftlaw02_num.f bt280.2).bind fun t289 => (if t289 = 0 then ((redraftlaw02_num.f bt284.2).bind fun t290 => (if t290 = 0 then ((redraftlaw02_num.f bt286.2).bind fun t291 => (if t291 = 0 then (some ((wrap64 (bt284.1 + bt286.1)) == (wrap64 (t224 + t229)))) else (some false))) else (some false))) else (some false))) else (some false)))))))) = some r := H
             have A112 := aM A1120
             clear A1120
             replace H := Option.bind_eq_some_iff.mp H
             obtain ⟨t274, A1130, H⟩ := H
             replace H : ((redraftlaw02_copied.f t209).bind fun t277 => ((span_Meet.f kj89 t274 t277).bind fun bt280 => ((span_Count.f kj89 t270).bind fun bt284 => ((span_Count.f kj89 bt280.1).bind fun bt286 => ((redraftlaw02_num.f t273).bind fun t288 => (if t288 = 0 then ((redraftlaw02_num.f bt280.2).bind fun t289 => (if t289 = 0 then ((redraftlaw02_num.f bt284.2).bind fun t290 => (if t290 = 0 then ((redraftlaw02_num.f bt286.2).bind fun t291 => (if t291 = 0 then (some ((wrap64 (bt284.1 + bt286.1)) == (wrap64 (t224 + t229)))) else (some false))) else (some false))) else (some false))) else (some false))))))) = some r := H
             have A113 := aM A1130
             clear A1130
             replace H := Option.bind_eq_some_iff.mp H
             obtain ⟨t277, A1140, H⟩ := H
             replace H : ((span_Meet.f kj89 t274 t277).bind fun bt280 => ((span_Count.f kj89 t270).bind fun bt284 => ((span_Count.f kj89 bt280.1).bind fun bt286 => ((redraftlaw02_num.f t273).bind fun t288 => (if t288 = 0 then ((redraftlaw02_num.f bt280.2).bind fun t289 => (if t289 = 0 then ((redraftlaw02_num.f bt284.2).bind fun t290 => (if t290 = 0 then ((redraftlaw02_num.f bt286.2).bind fun t291 => (if t291 = 0 then (some ((wrap64 (bt284.1 + bt286.1)) == (wrap64 (t224 + t229)))) else (some false))) else (some false))) else (some false))) else (some false)))))) = some r := H
             have A114 := aM A1140
             clear A1140
             replace H := Option.bind_eq_some_iff.mp H
             obtain ⟨⟨t280, t283⟩, A1150, H⟩ := H
             replace H : ((span_Count.f kj89 t270).bind fun bt284 => ((span_Count.f kj89 t280).bind fun bt286 => ((redraftlaw02_num.f t273).bind fun t288 => (if t288 = 0 then ((redraftlaw02_num.f t283).bind fun t289 => (if t289 = 0 then ((redraftlaw02_num.f bt284.2).bind fun t290 => (if t290 = 0 then ((redraftlaw02_num.f bt286.2).bind fun t291 => (if t291 = 0 then (some ((wrap64 (bt284.1 + bt286.1)) == (wrap64 (t224 + t229)))) else (some false))) else (some false))) else (some false))) else (some false))))) = some r := H
             have A115 := aM A1150
             clear A1150
             replace H := Option.bind_eq_some_iff.mp H
             obtain ⟨⟨t284, t285⟩, A1160, H⟩ := H
             replace H : ((span_Count.f kj89 t280).bind fun bt286 => ((redraftlaw02_num.f t273).bind fun t288 => (if t288 = 0 then ((redraftlaw02_num.f t283).bind fun t289 => (if t289 = 0 then ((redraftlaw02_num.f t285).bind fun t290 => (if t290 = 0 then ((redraftlaw02_num.f bt286.2).bind fun t291 => (if t291 = 0 then (some ((wrap64 (t284 + bt286.1)) == (wrap64 (t224 + t229)))) else (some false))) else (some false))) else (some false))) else (some false)))) = some r := H
             have A116 := aM A1160
             clear A1160
             replace H := Option.bind_eq_some_iff.mp H
             obtain ⟨⟨t286, t287⟩, A1170, H⟩ := H
             replace H : ((redraftlaw02_num.f t273).bind fun t288 => (if t288 = 0 then ((redraftlaw02_num.f t283).bind fun t289 => (if t289 = 0 then ((redraftlaw02_num.f t285).bind fun t290 => (if t290 = 0 then ((redraftlaw02_num.f t287).bind fun t291 => (if t291 = 0 then (some ((wrap64 (t284 + t286)) == (wrap64 (t224 + t229)))) else (some false))) else (some false))) else (some false))) else (some false))) = some r := H
             have A117 := aM A1170
             clear A1170
             replace H := Option.bind_eq_some_iff.mp H
             obtain ⟨t288, A1180, H⟩ := H
             replace H : (if t288 = 0 then ((redraftlaw02_num.f t283).bind fun t289 => (if t289 = 0 then ((redraftlaw02_num.f t285).bind fun t290 => (if t290 = 0 then ((redraftlaw02_num.f t287).bind fun t291 => (if t291 = 0 then (some ((wrap64 (t284 + t286)) == (wrap64 (t224 + t229)))) else (some false))) else (some false))) else (some false))) else (some false)) = some r := H
             have A118 := aM A1180
             clear A1180
             by_cases c119 : t288 = 0
             case neg =>
              rw [if_neg c119] at H
              have c119b0 : (t288 == 0) = false := beq_eq_false_iff_ne.mpr c119
              have c119b1 : (t288 != 0) = true := bne_iff_ne.mpr c119
              obtain rfl := Option.some.inj H
              go_wp2_with (first | ((with_reducible refine gate_callee (f := 17) rfl ?_); refine goesL_ (some 215) rfl rfl Try.func17 (by kernel_rfl) rfl #[.slice Ao39 t199.length co39] rfl (by (try simp only [List.map_toArray, List.map_cons, List.map_nil]); first | done | rfl) ?_; (with_reducible refine (redraftlaw02_copied.calls _ _ t199 t264 _ ?side1 ?side2 A110.out).mono ?_); (case side1 => repeat (first | exact (Kd.R_reads' HO_4.out).2.2 | (with_reducible refine Kd.C_alloc ?_ _) | (with_reducible refine Kd.C_drewN ?_ _) | (with_reducible refine Kd.C_drew ?_))); (case side2 => exact (Kd.R_reads' HO_4.out).2.1); rintro e w182 ⟨v265, rfl, ho0, hb⟩; refine ⟨_, rfl, ?_⟩; have n0_ := aM (rE (by (with_reducible repeat (first | apply rA | apply rB | apply rC)); exact HO_4.out) (Kd.R_base ho0) hb); have n1_ := aM (rE (by (with_reducible repeat (first | apply rA | apply rB | apply rC)); exact HO_6.out) (Kd.R_base ho0) hb); have n2_ := aM (Kd.R_lower (Kd.R_new' (Kd.R_new' ho0 (Kd.R_lt (by (with_reducible repeat (first | apply rA | apply rB | apply rC)); exact HO_4.out))) (Kd.R_lt (by (with_reducible repeat (first | apply rA | apply rB | apply rC)); exact HO_6.out))) (below_size (by repeat (first | (with_reducible first | exact HB.out | apply bA | apply bB | apply bC | refine bD ?_ GE192.out) | exact HB.out)))); have n3_ := aM (blk_below (g := gb192) (o := .cells #[.slice A0_0 l0_0.length c0_0, .slice A0_1 l0_1.length c0_1, .slice A0_2 l0_2.length c0_2, .int .i64 a0_3, .int .i64 a0_4] 25 (0, 0)) (by (with_reducible repeat (first | refine blk_drewN ?_ _ | refine blk_drew ?_ | refine blk_alloc ?_ _)); exact BK192.out) hb); have n4_ := aM (below_step (by repeat (first | (with_reducible first | exact HB.out | apply bA | apply bB | apply bC | refine bD ?_ GE192.out) | exact HB.out)) hb); clear HO_4; clear HO_6; clear BK192; clear HB; have HO_4 := n0_; have HO_6 := n1_; have HO266 := n2_; have BK192 := n3_; have HB := n4_; clear n0_ n1_ n2_ n3_ n4_; (try clear hb); (try clear hb2); (try clear hk); (try clear hi); (try clear ho0)) | ((with_reducible refine gate_callee (f := 17) rfl ?_); refine goesL_ (some 217) rfl rfl Try.func17 (by kernel_rfl) rfl #[.slice Ao43 t209.length co43] rfl (by (try simp only [List.map_toArray, List.map_cons, List.map_nil]); first | done | rfl) ?_; (with_reducible refine (redraftlaw02_copied.calls _ _ t209 t267 _ ?side1 ?side2 A111.out).mono ?_); (case side1 => repeat (first | exact (Kd.R_reads' HO_6.out).2.2 | (with_reducible refine Kd.C_alloc ?_ _) | (with_reducible refine Kd.C_drewN ?_ _) | (with_reducible refine Kd.C_drew ?_))); (case side2 => exact (Kd.R_reads' HO_6.out).2.1); rintro e w183 ⟨v268, rfl, ho0, hb⟩; refine ⟨_, rfl, ?_⟩; have n0_ := aM (rE (by (with_reducible repeat (first | apply rA | apply rB | apply rC)); exact HO_4.out) (Kd.R_base ho0) hb); have n1_ := aM (rE (by (with_reducible repeat (first | apply rA | apply rB | apply rC)); exact HO_6.out) (Kd.R_base ho0) hb); have n2_ := aM (rE (by (with_reducible repeat (first | apply rA | apply rB | apply rC)); exact HO266.out) (Kd.R_base ho0) hb); have n3_ := aM (Kd.R_lower (Kd.R_new' (Kd.R_new' (Kd.R_new' ho0 (Kd.R_lt (by (with_reducible repeat (first | apply rA | apply rB | apply rC)); exact HO_4.out))) (Kd.R_lt (by (with_reducible repeat (first | apply rA | apply rB | apply rC)); exact HO_6.out))) (Kd.R_lt (by (with_reducible repeat (first | apply rA | apply rB | apply rC)); exact HO266.out))) (below_size (by repeat (first | (with_reducible first | exact HB.out | apply bA | apply bB | apply bC | refine bD ?_ GE192.out) | exact HB.out)))); have n4_ := aM (blk_below (g := gb192) (o := .cells #[.slice A0_0 l0_0.length c0_0, .slice A0_1 l0_1.length c0_1, .slice A0_2 l0_2.length c0_2, .int .i64 a0_3, .int .i64 a0_4] 25 (0, 0)) (by (with_reducible repeat (first | refine blk_drewN ?_ _ | refine blk_drew ?_ | refine blk_alloc ?_ _)); exact BK192.out) hb); have n5_ := aM (below_step (by repeat (first | (with_reducible first | exact HB.out | apply bA | apply bB | apply bC | refine bD ?_ GE192.out) | exact HB.out)) hb); clear HO_4; clear HO_6; clear HO266; clear BK192; clear HB; have HO_4 := n0_; have HO_6 := n1_; have HO266 := n2_; have HO269 := n3_; have BK192 := n4_; have HB := n5_; clear n0_ n1_ n2_ n3_ n4_ n5_; (try clear hb); (try clear hb2); (try clear hk); (try clear hi); (try clear ho0); obtain ⟨Ao184, co184, eo184⟩ := Kd.R_slice HO266.out; subst eo184; obtain ⟨Ao185, co185, eo185⟩ := Kd.R_slice HO269.out; subst eo185) | ((with_reducible refine gate_callee (f := 24) rfl ?_); refine goesL_ (some 218) rfl rfl Try.func24 (by kernel_rfl) rfl #[.slice Ao184 t264.length co184, .slice Ao185 t267.length co185] rfl (by (try simp only [List.map_toArray, List.map_cons, List.map_nil]); first | done | rfl) ?_; (with_reducible refine (span_Union.calls kj89 (fun k_ => some k_ = (.slice Ao184 t264.length co184 : Value).ownBlock) _ _ t264 (fun k_ => some k_ = (.slice Ao185 t267.length co185 : Value).ownBlock) _ _ t267 t270 t273 _ ?side1 ?side2 A112.out).mono ?_); (case side1 => exact Kd.R_V (Kd.R_tight rfl (Kd.R_types (HO266.out) BK192.out (by decide)))); (case side2 => exact Kd.R_V (Kd.R_tight rfl (Kd.R_types (HO269.out) BK192.out (by decide)))); rintro e w186 ⟨v271, rfl, ho0, hb⟩; refine ⟨_, rfl, ?_⟩; have n0_ := aM (rE (by (with_reducible repeat (first | apply rA | apply rB | apply rC)); exact HO_4.out) (Kd.R_base ho0) hb); have n1_ := aM (rE (by (with_reducible repeat (first | apply rA | apply rB | apply rC)); exact HO_6.out) (Kd.R_base ho0) hb); have n2_ := aM (rE (by (with_reducible repeat (first | apply rA | apply rB | apply rC)); exact HO266.out) (Kd.R_base ho0) hb); have n3_ := aM (rE (by (with_reducible repeat (first | apply rA | apply rB | apply rC)); exact HO269.out) (Kd.R_base ho0) hb); have n4_ := aM (Kd.R_lower (Kd.R_new' (Kd.R_new' (Kd.R_new' (Kd.R_new' (Kd.R_mono (ok' := fun k_ => True) ho0 (fun _ hk_ => trivial)) (Kd.R_lt (by (with_reducible repeat (first | apply rA | apply rB | apply rC)); exact HO_4.out))) (Kd.R_lt (by (with_reducible repeat (first | apply rA | apply rB | apply rC)); exact HO_6.out))) (Kd.R_lt (by (with_reducible repeat (first | apply rA | apply rB | apply rC)); exact HO266.out))) (Kd.R_lt (by (with_reducible repeat (first | apply rA | apply rB | apply rC)); exact HO269.out))) (below_size (by repeat (first | (with_reducible first | exact HB.out | apply bA | apply bB | apply bC | refine bD ?_ GE192.out) | exact HB.out)))); have n5_ := aM (blk_below (g := gb192) (o := .cells #[.slice A0_0 l0_0.length c0_0, .slice A0_1 l0_1.length c0_1, .slice A0_2 l0_2.length c0_2, .int .i64 a0_3, .int .i64 a0_4] 25 (0, 0)) (by (with_reducible repeat (first | refine blk_drewN ?_ _ | refine blk_drew ?_ | refine blk_alloc ?_ _)); exact BK192.out) hb); have n6_ := aM (below_step (by repeat (first | (with_reducible first | exact HB.out | apply bA | apply bB | apply bC | refine bD ?_ GE192.out) | exact HB.out)) hb); clear HO_4; clear HO_6; clear HO266; clear HO269; clear BK192; clear HB; have HO_4 := n0_; have HO_6 := n1_; have HO266 := n2_; have HO269 := n3_; have HO272 := n4_; have BK192 := n5_; have HB := n6_; clear n0_ n1_ n2_ n3_ n4_ n5_ n6_; (try clear hb); (try clear hb2); (try clear hk); (try clear hi); (try clear ho0)) | ((with_reducible refine gate_callee (f := 17) rfl ?_); refine goesL_ (some 223) rfl rfl Try.func17 (by kernel_rfl) rfl #[.slice Ao39 t199.length co39] rfl (by (try simp only [List.map_toArray, List.map_cons, List.map_nil]); first | done | rfl) ?_; (with_reducible refine (redraftlaw02_copied.calls _ _ t199 t274 _ ?side1 ?side2 A113.out).mono ?_); (case side1 => repeat (first | exact (Kd.R_reads' HO_4.out).2.2 | (with_reducible refine Kd.C_alloc ?_ _) | (with_reducible refine Kd.C_drewN ?_ _) | (with_reducible refine Kd.C_drew ?_))); (case side2 => exact (Kd.R_reads' HO_4.out).2.1); rintro e w187 ⟨v275, rfl, ho0, hb⟩; refine ⟨_, rfl, ?_⟩; have n0_ := aM (rE (by (with_reducible repeat (first | apply rA | apply rB | apply rC)); exact HO_4.out) (Kd.R_base ho0) hb); have n1_ := aM (rE (by (with_reducible repeat (first | apply rA | apply rB | apply rC)); exact HO_6.out) (Kd.R_base ho0) hb); have n2_ := aM (rE (by (with_reducible repeat (first | apply rA | apply rB | apply rC)); exact HO266.out) (Kd.R_base ho0) hb); have n3_ := aM (rE (by (with_reducible repeat (first | apply rA | apply rB | apply rC)); exact HO269.out) (Kd.R_base ho0) hb); have n4_ := aM (rE (by (with_reducible repeat (first | apply rA | apply rB | apply rC)); exact HO272.out) (Kd.R_base ho0) hb); have n5_ := aM (Kd.R_lower (Kd.R_new' (Kd.R_new' (Kd.R_new' (Kd.R_new' (Kd.R_new' ho0 (Kd.R_lt (by (with_reducible repeat (first | apply rA | apply rB | apply rC)); exact HO_4.out))) (Kd.R_lt (by (with_reducible repeat (first | apply rA | apply rB | apply rC)); exact HO_6.out))) (Kd.R_lt (by (with_reducible repeat (first | apply rA | apply rB | apply rC)); exact HO266.out))) (Kd.R_lt (by (with_reducible repeat (first | apply rA | apply rB | apply rC)); exact HO269.out))) (Kd.R_lt (by (with_reducible repeat (first | apply rA | apply rB | apply rC)); exact HO272.out))) (below_size (by repeat (first | (with_reducible first | exact HB.out | apply bA | apply bB | apply bC | refine bD ?_ GE192.out) | exact HB.out)))); have n6_ := aM (blk_below (g := gb192) (o := .cells #[.slice A0_0 l0_0.length c0_0, .slice A0_1 l0_1.length c0_1, .slice A0_2 l0_2.length c0_2, .int .i64 a0_3, .int .i64 a0_4] 25 (0, 0)) (by (with_reducible repeat (first | refine blk_drewN ?_ _ | refine blk_drew ?_ | refine blk_alloc ?_ _)); exact BK192.out) hb); have n7_ := aM (below_step (by repeat (first | (with_reducible first | exact HB.out | apply bA | apply bB | apply bC | refine bD ?_ GE192.out) | exact HB.out)) hb); clear HO_4; clear HO_6; clear HO266; clear HO269; clear HO272; clear BK192; clear HB; have HO_4 := n0_; have HO_6 := n1_; have HO266 := n2_; have HO269 := n3_; have HO272 := n4_; have HO276 := n5_; have BK192 := n6_; have HB := n7_; clear n0_ n1_ n2_ n3_ n4_ n5_ n6_ n7_; (try clear hb); (try clear hb2); (try clear hk); (try clear hi); (try clear ho0)) | ((with_reducible refine gate_callee (f := 17) rfl ?_); refine goesL_ (some 225) rfl rfl Try.func17 (by kernel_rfl) rfl #[.slice Ao43 t209.length co43] rfl (by (try simp only [List.map_toArray, List.map_cons, List.map_nil]); first | done | rfl) ?_; (with_reducible refine (redraftlaw02_copied.calls _ _ t209 t277 _ ?side1 ?side2 A114.out).mono ?_); (case side1 => repeat (first | exact (Kd.R_reads' HO_6.out).2.2 | (with_reducible refine Kd.C_alloc ?_ _) | (with_reducible refine Kd.C_drewN ?_ _) | (with_reducible refine Kd.C_drew ?_))); (case side2 => exact (Kd.R_reads' HO_6.out).2.1); rintro e w188 ⟨v278, rfl, ho0, hb⟩; refine ⟨_, rfl, ?_⟩; have n0_ := aM (rE (by (with_reducible repeat (first | apply rA | apply rB | apply rC)); exact HO_4.out) (Kd.R_base ho0) hb); have n1_ := aM (rE (by (with_reducible repeat (first | apply rA | apply rB | apply rC)); exact HO_6.out) (Kd.R_base ho0) hb); have n2_ := aM (rE (by (with_reducible repeat (first | apply rA | apply rB | apply rC)); exact HO266.out) (Kd.R_base ho0) hb); have n3_ := aM (rE (by (with_reducible repeat (first | apply rA | apply rB | apply rC)); exact HO269.out) (Kd.R_base ho0) hb); have n4_ := aM (rE (by (with_reducible repeat (first | apply rA | apply rB | apply rC)); exact HO272.out) (Kd.R_base ho0) hb); have n5_ := aM (rE (by (with_reducible repeat (first | apply rA | apply rB | apply rC)); exact HO276.out) (Kd.R_base ho0) hb); have n6_ := aM (Kd.R_lower (Kd.R_new' (Kd.R_new' (Kd.R_new' (Kd.R_new' (Kd.R_new' (Kd.R_new' ho0 (Kd.R_lt (by (with_reducible repeat (first | apply rA | apply rB | apply rC)); exact HO_4.out))) (Kd.R_lt (by (with_reducible repeat (first | apply rA | apply rB | apply rC)); exact HO_6.out))) (Kd.R_lt (by (with_reducible repeat (first | apply rA | apply rB | apply rC)); exact HO266.out))) (Kd.R_lt (by (with_reducible repeat (first | apply rA | apply rB | apply rC)); exact HO269.out))) (Kd.R_lt (by (with_reducible repeat (first | apply rA | apply rB | apply rC)); exact HO272.out))) (Kd.R_lt (by (with_reducible repeat (first | apply rA | apply rB | apply rC)); exact HO276.out))) (below_size (by repeat (first | (with_reducible first | exact HB.out | apply bA | apply bB | apply bC | refine bD ?_ GE192.out) | exact HB.out)))); have n7_ := aM (blk_below (g := gb192) (o := .cells #[.slice A0_0 l0_0.length c0_0, .slice A0_1 l0_1.length c0_1, .slice A0_2 l0_2.length c0_2, .int .i64 a0_3, .int .i64 a0_4] 25 (0, 0)) (by (with_reducible repeat (first | refine blk_drewN ?_ _ | refine blk_drew ?_ | refine blk_alloc ?_ _)); exact BK192.out) hb); have n8_ := aM (below_step (by repeat (first | (with_reducible first | exact HB.out | apply bA | apply bB | apply bC | refine bD ?_ GE192.out) | exact HB.out)) hb); clear HO_4; clear HO_6; clear HO266; clear HO269; clear HO272; clear HO276; clear BK192; clear HB; have HO_4 := n0_; have HO_6 := n1_; have HO266 := n2_; have HO269 := n3_; have HO272 := n4_; have HO276 := n5_; have HO279 := n6_; have BK192 := n7_; have HB := n8_; clear n0_ n1_ n2_ n3_ n4_ n5_ n6_ n7_ n8_; (try clear hb); (try clear hb2); (try clear hk); (try clear hi); (try clear ho0); obtain ⟨Ao189, co189, eo189⟩ := Kd.R_slice HO276.out; subst eo189; obtain ⟨Ao190, co190, eo190⟩ := Kd.R_slice HO279.out; subst eo190) | ((with_reducible refine gate_callee (f := 32) rfl ?_); refine goesL_ (some 226) rfl rfl Try.func32 (by kernel_rfl) rfl #[.slice Ao189 t274.length co189, .slice Ao190 t277.length co190] rfl (by (try simp only [List.map_toArray, List.map_cons, List.map_nil]); first | done | rfl) ?_; (with_reducible refine (span_Meet.calls kj89 (fun k_ => some k_ = (.slice Ao189 t274.length co189 : Value).ownBlock) _ _ t274 (fun k_ => some k_ = (.slice Ao190 t277.length co190 : Value).ownBlock) _ _ t277 t280 t283 _ ?side1 ?side2 A115.out).mono ?_); (case side1 => exact Kd.R_V (Kd.R_tight rfl (Kd.R_types (HO276.out) BK192.out (by decide)))); (case side2 => exact Kd.R_V (Kd.R_tight rfl (Kd.R_types (HO279.out) BK192.out (by decide)))); rintro e w191 ⟨v281, rfl, ho0, hb⟩; refine ⟨_, rfl, ?_⟩; have n0_ := aM (rE (by (with_reducible repeat (first | apply rA | apply rB | apply rC)); exact HO_4.out) (Kd.R_base ho0) hb); have n1_ := aM (rE (by (with_reducible repeat (first | apply rA | apply rB | apply rC)); exact HO_6.out) (Kd.R_base ho0) hb); have n2_ := aM (rE (by (with_reducible repeat (first | apply rA | apply rB | apply rC)); exact HO266.out) (Kd.R_base ho0) hb); have n3_ := aM (rE (by (with_reducible repeat (first | apply rA | apply rB | apply rC)); exact HO269.out) (Kd.R_base ho0) hb); have n4_ := aM (rE (by (with_reducible repeat (first | apply rA | apply rB | apply rC)); exact HO272.out) (Kd.R_base ho0) hb); have n5_ := aM (rE (by (with_reducible repeat (first | apply rA | apply rB | apply rC)); exact HO276.out) (Kd.R_base ho0) hb); have n6_ := aM (rE (by (with_reducible repeat (first | apply rA | apply rB | apply rC)); exact HO279.out) (Kd.R_base ho0) hb); have n7_ := aM (Kd.R_lower (Kd.R_new' (Kd.R_new' (Kd.R_new' (Kd.R_new' (Kd.R_new' (Kd.R_new' (Kd.R_new' (Kd.R_mono (ok' := fun k_ => True) ho0 (fun _ hk_ => trivial)) (Kd.R_lt (by (with_reducible repeat (first | apply rA | apply rB | apply rC)); exact HO_4.out))) (Kd.R_lt (by (with_reducible repeat (first | apply rA | apply rB | apply rC)); exact HO_6.out))) (Kd.R_lt (by (with_reducible repeat (first | apply rA | apply rB | apply rC)); exact HO266.out))) (Kd.R_lt (by (with_reducible repeat (first | apply rA | apply rB | apply rC)); exact HO269.out))) (Kd.R_lt (by (with_reducible repeat (first | apply rA | apply rB | apply rC)); exact HO272.out))) (Kd.R_lt (by (with_reducible repeat (first | apply rA | apply rB | apply rC)); exact HO276.out))) (Kd.R_lt (by (with_reducible repeat (first | apply rA | apply rB | apply rC)); exact HO279.out))) (below_size (by repeat (first | (with_reducible first | exact HB.out | apply bA | apply bB | apply bC | refine bD ?_ GE192.out) | exact HB.out)))); have n8_ := aM (blk_below (g := gb192) (o := .cells #[.slice A0_0 l0_0.length c0_0, .slice A0_1 l0_1.length c0_1, .slice A0_2 l0_2.length c0_2, .int .i64 a0_3, .int .i64 a0_4] 25 (0, 0)) (by (with_reducible repeat (first | refine blk_drewN ?_ _ | refine blk_drew ?_ | refine blk_alloc ?_ _)); exact BK192.out) hb); have n9_ := aM (below_step (by repeat (first | (with_reducible first | exact HB.out | apply bA | apply bB | apply bC | refine bD ?_ GE192.out) | exact HB.out)) hb); clear HO_4; clear HO_6; clear HO266; clear HO269; clear HO272; clear HO276; clear HO279; clear BK192; clear HB; have HO_4 := n0_; have HO_6 := n1_; have HO266 := n2_; have HO269 := n3_; have HO272 := n4_; have HO276 := n5_; have HO279 := n6_; have HO282 := n7_; have BK192 := n8_; have HB := n9_; clear n0_ n1_ n2_ n3_ n4_ n5_ n6_ n7_ n8_ n9_; (try clear hb); (try clear hb2); (try clear hk); (try clear hi); (try clear ho0); obtain ⟨Ao192, co192, eo192⟩ := Kd.R_slice HO272.out; subst eo192) | ((with_reducible refine gate_callee (f := 33) rfl ?_); refine goesL_ (some 231) rfl rfl Try.func33 (by kernel_rfl) rfl #[.slice Ao192 t270.length co192] rfl (by (try simp only [List.map_toArray, List.map_cons, List.map_nil]); first | done | rfl) ?_; (with_reducible refine (span_Count.calls kj89 _ _ t270 t284 t285 _ ?side1 ?side2 A116.out).mono ?_); (case side1 => repeat (first | exact (Kd.R_reads' HO272.out).2.2 | (with_reducible refine Kd.C_alloc ?_ _) | (with_reducible refine Kd.C_drewN ?_ _) | (with_reducible refine Kd.C_drew ?_))); (case side2 => exact (Kd.R_reads' HO272.out).2.1); rintro e w193 ⟨rfl, hb⟩; refine ⟨_, rfl, ?_⟩; have n0_ := aM (Kd.R_below (by (with_reducible repeat (first | apply rA | apply rB | apply rC)); exact HO_4.out) hb); have n1_ := aM (Kd.R_below (by (with_reducible repeat (first | apply rA | apply rB | apply rC)); exact HO_6.out) hb); have n2_ := aM (Kd.R_below (by (with_reducible repeat (first | apply rA | apply rB | apply rC)); exact HO266.out) hb); have n3_ := aM (Kd.R_below (by (with_reducible repeat (first | apply rA | apply rB | apply rC)); exact HO269.out) hb); have n4_ := aM (Kd.R_below (by (with_reducible repeat (first | apply rA | apply rB | apply rC)); exact HO272.out) hb); have n5_ := aM (Kd.R_below (by (with_reducible repeat (first | apply rA | apply rB | apply rC)); exact HO276.out) hb); have n6_ := aM (Kd.R_below (by (with_reducible repeat (first | apply rA | apply rB | apply rC)); exact HO279.out) hb); have n7_ := aM (Kd.R_below (by (with_reducible repeat (first | apply rA | apply rB | apply rC)); exact HO282.out) hb); have n8_ := aM (blk_below (g := gb192) (o := .cells #[.slice A0_0 l0_0.length c0_0, .slice A0_1 l0_1.length c0_1, .slice A0_2 l0_2.length c0_2, .int .i64 a0_3, .int .i64 a0_4] 25 (0, 0)) (by (with_reducible repeat (first | refine blk_drewN ?_ _ | refine blk_drew ?_ | refine blk_alloc ?_ _)); exact BK192.out) hb); have n9_ := aM (below_step (by repeat (first | (with_reducible first | exact HB.out | apply bA | apply bB | apply bC | refine bD ?_ GE192.out) | exact HB.out)) hb); clear HO_4; clear HO_6; clear HO266; clear HO269; clear HO272; clear HO276; clear HO279; clear HO282; clear BK192; clear HB; have HO_4 := n0_; have HO_6 := n1_; have HO266 := n2_; have HO269 := n3_; have HO272 := n4_; have HO276 := n5_; have HO279 := n6_; have HO282 := n7_; have BK192 := n8_; have HB := n9_; clear n0_ n1_ n2_ n3_ n4_ n5_ n6_ n7_ n8_ n9_; (try clear hb); (try clear hb2); (try clear hk); (try clear hi); obtain ⟨Ao194, co194, eo194⟩ := Kd.R_slice HO282.out; subst eo194) | ((with_reducible refine gate_callee (f := 33) rfl ?_); refine goesL_ (some 236) rfl rfl Try.func33 (by kernel_rfl) rfl #[.slice Ao194 t280.length co194] rfl (by (try simp only [List.map_toArray, List.map_cons, List.map_nil]); first | done | rfl) ?_; (with_reducible refine (span_Count.calls kj89 _ _ t280 t286 t287 _ ?side1 ?side2 A117.out).mono ?_); (case side1 => repeat (first | exact (Kd.R_reads' HO282.out).2.2 | (with_reducible refine Kd.C_alloc ?_ _) | (with_reducible refine Kd.C_drewN ?_ _) | (with_reducible refine Kd.C_drew ?_))); (case side2 => exact (Kd.R_reads' HO282.out).2.1); rintro e w195 ⟨rfl, hb⟩; refine ⟨_, rfl, ?_⟩; have n0_ := aM (Kd.R_below (by (with_reducible repeat (first | apply rA | apply rB | apply rC)); exact HO_4.out) hb); have n1_ := aM (Kd.R_below (by (with_reducible repeat (first | apply rA | apply rB | apply rC)); exact HO_6.out) hb); have n2_ := aM (Kd.R_below (by (with_reducible repeat (first | apply rA | apply rB | apply rC)); exact HO266.out) hb); have n3_ := aM (Kd.R_below (by (with_reducible repeat (first | apply rA | apply rB | apply rC)); exact HO269.out) hb); have n4_ := aM (Kd.R_below (by (with_reducible repeat (first | apply rA | apply rB | apply rC)); exact HO272.out) hb); have n5_ := aM (Kd.R_below (by (with_reducible repeat (first | apply rA | apply rB | apply rC)); exact HO276.out) hb); have n6_ := aM (Kd.R_below (by (with_reducible repeat (first | apply rA | apply rB | apply rC)); exact HO279.out) hb); have n7_ := aM (Kd.R_below (by (with_reducible repeat (first | apply rA | apply rB | apply rC)); exact HO282.out) hb); have n8_ := aM (blk_below (g := gb192) (o := .cells #[.slice A0_0 l0_0.length c0_0, .slice A0_1 l0_1.length c0_1, .slice A0_2 l0_2.length c0_2, .int .i64 a0_3, .int .i64 a0_4] 25 (0, 0)) (by (with_reducible repeat (first | refine blk_drewN ?_ _ | refine blk_drew ?_ | refine blk_alloc ?_ _)); exact BK192.out) hb); have n9_ := aM (below_step (by repeat (first | (with_reducible first | exact HB.out | apply bA | apply bB | apply bC | refine bD ?_ GE192.out) | exact HB.out)) hb); clear HO_4; clear HO_6; clear HO266; clear HO269; clear HO272; clear HO276; clear HO279; clear HO282; clear BK192; clear HB; have HO_4 := n0_; have HO_6 := n1_; have HO266 := n2_; have HO269 := n3_; have HO272 := n4_; have HO276 := n5_; have HO279 := n6_; have HO282 := n7_; have BK192 := n8_; have HB := n9_; clear n0_ n1_ n2_ n3_ n4_ n5_ n6_ n7_ n8_ n9_; (try clear hb); (try clear hb2); (try clear hk); (try clear hi)) | ((with_reducible refine gate_callee (f := 19) rfl ?_); refine goesL_ (some 240) rfl rfl Try.func19 (by kernel_rfl) rfl #[.int .i64 t273] rfl (by (try simp only [List.map_toArray, List.map_cons, List.map_nil]); first | done | rfl) ?_; (with_reducible refine (redraftlaw02_num.calls t273 t288 _ A118.out).mono ?_); rintro e w' ⟨rfl, ⟨nd, rfl⟩⟩; refine ⟨_, rfl, ?_⟩))
              go_ret
              exact ⟨by first | rfl | (simp [errW_none, errW_some] <;> rfl) | (simp [*, errW_none, errW_some] <;> rfl), by repeat (first | (with_reducible first | exact HB.out | apply bA | apply bB | apply bC | refine bD ?_ GE192.out) | exact HB.out)⟩
             rw [if_pos c119] at H
             have c119b0 : (t288 == 0) = true := beq_iff_eq.mpr c119
             have c119b1 : (t288 != 0) = false := bne_eq_false_iff_eq.mpr c119
             clear c119
             replace H := Option.bind_eq_some_iff.mp H
             obtain ⟨t289, A1200, H⟩ := H
             replace H : (if t289 = 0 then ((redraftlaw02_num.f t285).bind fun t290 => (if t290 = 0 then ((redraftlaw02_num.f t287).bind fun t291 => (if t291 = 0 then (some ((wrap64 (t284 + t286)) == (wrap64 (t224 + t229)))) else (some false))) else (some false))) else (some false)) = some r := H
             have A120 := aM A1200
             clear A1200
             by_cases c121 : t289 = 0
             case neg =>
              rw [if_neg c121] at H
              have c121b0 : (t289 == 0) = false := beq_eq_false_iff_ne.mpr c121
              have c121b1 : (t289 != 0) = true := bne_iff_ne.mpr c121
              obtain rfl := Option.some.inj H
              go_wp2_with (first | ((with_reducible refine gate_callee (f := 17) rfl ?_); refine goesL_ (some 215) rfl rfl Try.func17 (by kernel_rfl) rfl #[.slice Ao39 t199.length co39] rfl (by (try simp only [List.map_toArray, List.map_cons, List.map_nil]); first | done | rfl) ?_; (with_reducible refine (redraftlaw02_copied.calls _ _ t199 t264 _ ?side1 ?side2 A110.out).mono ?_); (case side1 => repeat (first | exact (Kd.R_reads' HO_4.out).2.2 | (with_reducible refine Kd.C_alloc ?_ _) | (with_reducible refine Kd.C_drewN ?_ _) | (with_reducible refine Kd.C_drew ?_))); (case side2 => exact (Kd.R_reads' HO_4.out).2.1); rintro e w168 ⟨v265, rfl, ho0, hb⟩; refine ⟨_, rfl, ?_⟩; have n0_ := aM (rE (by (with_reducible repeat (first | apply rA | apply rB | apply rC)); exact HO_4.out) (Kd.R_base ho0) hb); have n1_ := aM (rE (by (with_reducible repeat (first | apply rA | apply rB | apply rC)); exact HO_6.out) (Kd.R_base ho0) hb); have n2_ := aM (Kd.R_lower (Kd.R_new' (Kd.R_new' ho0 (Kd.R_lt (by (with_reducible repeat (first | apply rA | apply rB | apply rC)); exact HO_4.out))) (Kd.R_lt (by (with_reducible repeat (first | apply rA | apply rB | apply rC)); exact HO_6.out))) (below_size (by repeat (first | (with_reducible first | exact HB.out | apply bA | apply bB | apply bC | refine bD ?_ GE192.out) | exact HB.out)))); have n3_ := aM (blk_below (g := gb192) (o := .cells #[.slice A0_0 l0_0.length c0_0, .slice A0_1 l0_1.length c0_1, .slice A0_2 l0_2.length c0_2, .int .i64 a0_3, .int .i64 a0_4] 25 (0, 0)) (by (with_reducible repeat (first | refine blk_drewN ?_ _ | refine blk_drew ?_ | refine blk_alloc ?_ _)); exact BK192.out) hb); have n4_ := aM (below_step (by repeat (first | (with_reducible first | exact HB.out | apply bA | apply bB | apply bC | refine bD ?_ GE192.out) | exact HB.out)) hb); clear HO_4; clear HO_6; clear BK192; clear HB; have HO_4 := n0_; have HO_6 := n1_; have HO266 := n2_; have BK192 := n3_; have HB := n4_; clear n0_ n1_ n2_ n3_ n4_; (try clear hb); (try clear hb2); (try clear hk); (try clear hi); (try clear ho0)) | ((with_reducible refine gate_callee (f := 17) rfl ?_); refine goesL_ (some 217) rfl rfl Try.func17 (by kernel_rfl) rfl #[.slice Ao43 t209.length co43] rfl (by (try simp only [List.map_toArray, List.map_cons, List.map_nil]); first | done | rfl) ?_; (with_reducible refine (redraftlaw02_copied.calls _ _ t209 t267 _ ?side1 ?side2 A111.out).mono ?_); (case side1 => repeat (first | exact (Kd.R_reads' HO_6.out).2.2 | (with_reducible refine Kd.C_alloc ?_ _) | (with_reducible refine Kd.C_drewN ?_ _) | (with_reducible refine Kd.C_drew ?_))); (case side2 => exact (Kd.R_reads' HO_6.out).2.1); rintro e w169 ⟨v268, rfl, ho0, hb⟩; refine ⟨_, rfl, ?_⟩; have n0_ := aM (rE (by (with_reducible repeat (first | apply rA | apply rB | apply rC)); exact HO_4.out) (Kd.R_base ho0) hb); have n1_ := aM (rE (by (with_reducible repeat (first | apply rA | apply rB | apply rC)); exact HO_6.out) (Kd.R_base ho0) hb); have n2_ := aM (rE (by (with_reducible repeat (first | apply rA | apply rB | apply rC)); exact HO266.out) (Kd.R_base ho0) hb); have n3_ := aM (Kd.R_lower (Kd.R_new' (Kd.R_new' (Kd.R_new' ho0 (Kd.R_lt (by (with_reducible repeat (first | apply rA | apply rB | apply rC)); exact HO_4.out))) (Kd.R_lt (by (with_reducible repeat (first | apply rA | apply rB | apply rC)); exact HO_6.out))) (Kd.R_lt (by (with_reducible repeat (first | apply rA | apply rB | apply rC)); exact HO266.out))) (below_size (by repeat (first | (with_reducible first | exact HB.out | apply bA | apply bB | apply bC | refine bD ?_ GE192.out) | exact HB.out)))); have n4_ := aM (blk_below (g := gb192) (o := .cells #[.slice A0_0 l0_0.length c0_0, .slice A0_1 l0_1.length c0_1, .slice A0_2 l0_2.length c0_2, .int .i64 a0_3, .int .i64 a0_4] 25 (0, 0)) (by (with_reducible repeat (first | refine blk_drewN ?_ _ | refine blk_drew ?_ | refine blk_alloc ?_ _)); exact BK192.out) hb); have n5_ := aM (below_step (by repeat (first | (with_reducible first | exact HB.out | apply bA | apply bB | apply bC | refine bD ?_ GE192.out) | exact HB.out)) hb); clear HO_4; clear HO_6; clear HO266; clear BK192; clear HB; have HO_4 := n0_; have HO_6 := n1_; have HO266 := n2_; have HO269 := n3_; have BK192 := n4_; have HB := n5_; clear n0_ n1_ n2_ n3_ n4_ n5_; (try clear hb); (try clear hb2); (try clear hk); (try clear hi); (try clear ho0); obtain ⟨Ao170, co170, eo170⟩ := Kd.R_slice HO266.out; subst eo170; obtain ⟨Ao171, co171, eo171⟩ := Kd.R_slice HO269.out; subst eo171) | ((with_reducible refine gate_callee (f := 24) rfl ?_); refine goesL_ (some 218) rfl rfl Try.func24 (by kernel_rfl) rfl #[.slice Ao170 t264.length co170, .slice Ao171 t267.length co171] rfl (by (try simp only [List.map_toArray, List.map_cons, List.map_nil]); first | done | rfl) ?_; (with_reducible refine (span_Union.calls kj89 (fun k_ => some k_ = (.slice Ao170 t264.length co170 : Value).ownBlock) _ _ t264 (fun k_ => some k_ = (.slice Ao171 t267.length co171 : Value).ownBlock) _ _ t267 t270 t273 _ ?side1 ?side2 A112.out).mono ?_); (case side1 => exact Kd.R_V (Kd.R_tight rfl (Kd.R_types (HO266.out) BK192.out (by decide)))); (case side2 => exact Kd.R_V (Kd.R_tight rfl (Kd.R_types (HO269.out) BK192.out (by decide)))); rintro e w172 ⟨v271, rfl, ho0, hb⟩; refine ⟨_, rfl, ?_⟩; have n0_ := aM (rE (by (with_reducible repeat (first | apply rA | apply rB | apply rC)); exact HO_4.out) (Kd.R_base ho0) hb); have n1_ := aM (rE (by (with_reducible repeat (first | apply rA | apply rB | apply rC)); exact HO_6.out) (Kd.R_base ho0) hb); have n2_ := aM (rE (by (with_reducible repeat (first | apply rA | apply rB | apply rC)); exact HO266.out) (Kd.R_base ho0) hb); have n3_ := aM (rE (by (with_reducible repeat (first | apply rA | apply rB | apply rC)); exact HO269.out) (Kd.R_base ho0) hb); have n4_ := aM (Kd.R_lower (Kd.R_new' (Kd.R_new' (Kd.R_new' (Kd.R_new' (Kd.R_mono (ok' := fun k_ => True) ho0 (fun _ hk_ => trivial)) (Kd.R_lt (by (with_reducible repeat (first | apply rA | apply rB | apply rC)); exact HO_4.out))) (Kd.R_lt (by (with_reducible repeat (first | apply rA | apply rB | apply rC)); exact HO_6.out))) (Kd.R_lt (by (with_reducible repeat (first | apply rA | apply rB | apply rC)); exact HO266.out))) (Kd.R_lt (by (with_reducible repeat (first | apply rA | apply rB | apply rC)); exact HO269.out))) (below_size (by repeat (first | (with_reducible first | exact HB.out | apply bA | apply bB | apply bC | refine bD ?_ GE192.out) | exact HB.out)))); have n5_ := aM (blk_below (g := gb192) (o := .cells #[.slice A0_0 l0_0.length c0_0, .slice A0_1 l0_1.length c0_1, .slice A0_2 l0_2.length c0_2, .int .i64 a0_3, .int .i64 a0_4] 25 (0, 0)) (by (with_reducible repeat (first | refine blk_drewN ?_ _ | refine blk_drew ?_ | refine blk_alloc ?_ _)); exact BK192.out) hb); have n6_ := aM (below_step (by repeat (first | (with_reducible first | exact HB.out | apply bA | apply bB | apply bC | refine bD ?_ GE192.out) | exact HB.out)) hb); clear HO_4; clear HO_6; clear HO266; clear HO269; clear BK192; clear HB; have HO_4 := n0_; have HO_6 := n1_; have HO266 := n2_; have HO269 := n3_; have HO272 := n4_; have BK192 := n5_; have HB := n6_; clear n0_ n1_ n2_ n3_ n4_ n5_ n6_; (try clear hb); (try clear hb2); (try clear hk); (try clear hi); (try clear ho0)) | ((with_reducible refine gate_callee (f := 17) rfl ?_); refine goesL_ (some 223) rfl rfl Try.func17 (by kernel_rfl) rfl #[.slice Ao39 t199.length co39] rfl (by (try simp only [List.map_toArray, List.map_cons, List.map_nil]); first | done | rfl) ?_; (with_reducible refine (redraftlaw02_copied.calls _ _ t199 t274 _ ?side1 ?side2 A113.out).mono ?_); (case side1 => repeat (first | exact (Kd.R_reads' HO_4.out).2.2 | (with_reducible refine Kd.C_alloc ?_ _) | (with_reducible refine Kd.C_drewN ?_ _) | (with_reducible refine Kd.C_drew ?_))); (case side2 => exact (Kd.R_reads' HO_4.out).2.1); rintro e w173 ⟨v275, rfl, ho0, hb⟩; refine ⟨_, rfl, ?_⟩; have n0_ := aM (rE (by (with_reducible repeat (first | apply rA | apply rB | apply rC)); exact HO_4.out) (Kd.R_base ho0) hb); have n1_ := aM (rE (by (with_reducible repeat (first | apply rA | apply rB | apply rC)); exact HO_6.out) (Kd.R_base ho0) hb); have n2_ := aM (rE (by (with_reducible repeat (first | apply rA | apply rB | apply rC)); exact HO266.out) (Kd.R_base ho0) hb); have n3_ := aM (rE (by (with_reducible repeat (first | apply rA | apply rB | apply rC)); exact HO269.out) (Kd.R_base ho0) hb); have n4_ := aM (rE (by (with_reducible repeat (first | apply rA | apply rB | apply rC)); exact HO272.out) (Kd.R_base ho0) hb); have n5_ := aM (Kd.R_lower (Kd.R_new' (Kd.R_new' (Kd.R_new' (Kd.R_new' (Kd.R_new' ho0 (Kd.R_lt (by (with_reducible repeat (first | apply rA | apply rB | apply rC)); exact HO_4.out))) (Kd.R_lt (by (with_reducible repeat (first | apply rA | apply rB | apply rC)); exact HO_6.out))) (Kd.R_lt (by (with_reducible repeat (first | apply rA | apply rB | apply rC)); exact HO266.out))) (Kd.R_lt (by (with_reducible repeat (first | apply rA | apply rB | apply rC)); exact HO269.out))) (Kd.R_lt (by (with_reducible repeat (first | apply rA | apply rB | apply rC)); exact HO272.out))) (below_size (by repeat (first | (with_reducible first | exact HB.out | apply bA | apply bB | apply bC | refine bD ?_ GE192.out) | exact HB.out)))); have n6_ := aM (blk_below (g := gb192) (o := .cells #[.slice A0_0 l0_0.length c0_0, .slice A0_1 l0_1.length c0_1, .slice A0_2 l0_2.length c0_2, .int .i64 a0_3, .int .i64 a0_4] 25 (0, 0)) (by (with_reducible repeat (first | refine blk_drewN ?_ _ | refine blk_drew ?_ | refine blk_alloc ?_ _)); exact BK192.out) hb); have n7_ := aM (below_step (by repeat (first | (with_reducible first | exact HB.out | apply bA | apply bB | apply bC | refine bD ?_ GE192.out) | exact HB.out)) hb); clear HO_4; clear HO_6; clear HO266; clear HO269; clear HO272; clear BK192; clear HB; have HO_4 := n0_; have HO_6 := n1_; have HO266 := n2_; have HO269 := n3_; have HO272 := n4_; have HO276 := n5_; have BK192 := n6_; have HB := n7_; clear n0_ n1_ n2_ n3_ n4_ n5_ n6_ n7_; (try clear hb); (try clear hb2); (try clear hk); (try clear hi); (try clear ho0)) | ((with_reducible refine gate_callee (f := 17) rfl ?_); refine goesL_ (some 225) rfl rfl Try.func17 (by kernel_rfl) rfl #[.slice Ao43 t209.length co43] rfl (by (try simp only [List.map_toArray, List.map_cons, List.map_nil]); first | done | rfl) ?_; (with_reducible refine (redraftlaw02_copied.calls _ _ t209 t277 _ ?side1 ?side2 A114.out).mono ?_); (case side1 => repeat (first | exact (Kd.R_reads' HO_6.out).2.2 | (with_reducible refine Kd.C_alloc ?_ _) | (with_reducible refine Kd.C_drewN ?_ _) | (with_reducible refine Kd.C_drew ?_))); (case side2 => exact (Kd.R_reads' HO_6.out).2.1); rintro e w174 ⟨v278, rfl, ho0, hb⟩; refine ⟨_, rfl, ?_⟩; have n0_ := aM (rE (by (with_reducible repeat (first | apply rA | apply rB | apply rC)); exact HO_4.out) (Kd.R_base ho0) hb); have n1_ := aM (rE (by (with_reducible repeat (first | apply rA | apply rB | apply rC)); exact HO_6.out) (Kd.R_base ho0) hb); have n2_ := aM (rE (by (with_reducible repeat (first | apply rA | apply rB | apply rC)); exact HO266.out) (Kd.R_base ho0) hb); have n3_ := aM (rE (by (with_reducible repeat (first | apply rA | apply rB | apply rC)); exact HO269.out) (Kd.R_base ho0) hb); have n4_ := aM (rE (by (with_reducible repeat (first | apply rA | apply rB | apply rC)); exact HO272.out) (Kd.R_base ho0) hb); have n5_ := aM (rE (by (with_reducible repeat (first | apply rA | apply rB | apply rC)); exact HO276.out) (Kd.R_base ho0) hb); have n6_ := aM (Kd.R_lower (Kd.R_new' (Kd.R_new' (Kd.R_new' (Kd.R_new' (Kd.R_new' (Kd.R_new' ho0 (Kd.R_lt (by (with_reducible repeat (first | apply rA | apply rB | apply rC)); exact HO_4.out))) (Kd.R_lt (by (with_reducible repeat (first | apply rA | apply rB | apply rC)); exact HO_6.out))) (Kd.R_lt (by (with_reducible repeat (first | apply rA | apply rB | apply rC)); exact HO266.out))) (Kd.R_lt (by (with_reducible repeat (first | apply rA | apply rB | apply rC)); exact HO269.out))) (Kd.R_lt (by (with_reducible repeat (first | apply rA | apply rB | apply rC)); exact HO272.out))) (Kd.R_lt (by (with_reducible repeat (first | apply rA | apply rB | apply rC)); exact HO276.out))) (below_size (by repeat (first | (with_reducible first | exact HB.out | apply bA | apply bB | apply bC | refine bD ?_ GE192.out) | exact HB.out)))); have n7_ := aM (blk_below (g := gb192) (o := .cells #[.slice A0_0 l0_0.length c0_0, .slice A0_1 l0_1.length c0_1, .slice A0_2 l0_2.length c0_2, .int .i64 a0_3, .int .i64 a0_4] 25 (0, 0)) (by (with_reducible repeat (first | refine blk_drewN ?_ _ | refine blk_drew ?_ | refine blk_alloc ?_ _)); exact BK192.out) hb); have n8_ := aM (below_step (by repeat (first | (with_reducible first | exact HB.out | apply bA | apply bB | apply bC | refine bD ?_ GE192.out) | exact HB.out)) hb); clear HO_4; clear HO_6; clear HO266; clear HO269; clear HO272; clear HO276; clear BK192; clear HB; have HO_4 := n0_; have HO_6 := n1_; have HO266 := n2_; have HO269 := n3_; have HO272 := n4_; have HO276 := n5_; have HO279 := n6_; have BK192 := n7_; have HB := n8_; clear n0_ n1_ n2_ n3_ n4_ n5_ n6_ n7_ n8_; (try clear hb); (try clear hb2); (try clear hk); (try clear hi); (try clear ho0); obtain ⟨Ao175, co175, eo175⟩ := Kd.R_slice HO276.out; subst eo175; obtain ⟨Ao176, co176, eo176⟩ := Kd.R_slice HO279.out; subst eo176) | ((with_reducible refine gate_callee (f := 32) rfl ?_); refine goesL_ (some 226) rfl rfl Try.func32 (by kernel_rfl) rfl #[.slice Ao175 t274.length co175, .slice Ao176 t277.length co176] rfl (by (try simp only [List.map_toArray, List.map_cons, List.map_nil]); first | done | rfl) ?_; (with_reducible refine (span_Meet.calls kj89 (fun k_ => some k_ = (.slice Ao175 t274.length co175 : Value).ownBlock) _ _ t274 (fun k_ => some k_ = (.slice Ao176 t277.length co176 : Value).ownBlock) _ _ t277 t280 t283 _ ?side1 ?side2 A115.out).mono ?_); (case side1 => exact Kd.R_V (Kd.R_tight rfl (Kd.R_types (HO276.out) BK192.out (by decide)))); (case side2 => exact Kd.R_V (Kd.R_tight rfl (Kd.R_types (HO279.out) BK192.out (by decide)))); rintro e w177 ⟨v281, rfl, ho0, hb⟩; refine ⟨_, rfl, ?_⟩; have n0_ := aM (rE (by (with_reducible repeat (first | apply rA | apply rB | apply rC)); exact HO_4.out) (Kd.R_base ho0) hb); have n1_ := aM (rE (by (with_reducible repeat (first | apply rA | apply rB | apply rC)); exact HO_6.out) (Kd.R_base ho0) hb); have n2_ := aM (rE (by (with_reducible repeat (first | apply rA | apply rB | apply rC)); exact HO266.out) (Kd.R_base ho0) hb); have n3_ := aM (rE (by (with_reducible repeat (first | apply rA | apply rB | apply rC)); exact HO269.out) (Kd.R_base ho0) hb); have n4_ := aM (rE (by (with_reducible repeat (first | apply rA | apply rB | apply rC)); exact HO272.out) (Kd.R_base ho0) hb); have n5_ := aM (rE (by (with_reducible repeat (first | apply rA | apply rB | apply rC)); exact HO276.out) (Kd.R_base ho0) hb); have n6_ := aM (rE (by (with_reducible repeat (first | apply rA | apply rB | apply rC)); exact HO279.out) (Kd.R_base ho0) hb); have n7_ := aM (Kd.R_lower (Kd.R_new' (Kd.R_new' (Kd.R_new' (Kd.R_new' (Kd.R_new' (Kd.R_new' (Kd.R_new' (Kd.R_mono (ok' := fun k_ => True) ho0 (fun _ hk_ => trivial)) (Kd.R_lt (by (with_reducible repeat (first | apply rA | apply rB | apply rC)); exact HO_4.out))) (Kd.R_lt (by (with_reducible repeat (first | apply rA | apply rB | apply rC)); exact HO_6.out))) (Kd.R_lt (by (with_reducible repeat (first | apply rA | apply rB | apply rC)); exact HO266.out))) (Kd.R_lt (by (with_reducible repeat (first | apply rA | apply rB | apply rC)); exact HO269.out))) (Kd.R_lt (by (with_reducible repeat (first | apply rA | apply rB | apply rC)); exact HO272.out))) (Kd.R_lt (by (with_reducible repeat (first | apply rA | apply rB | apply rC)); exact HO276.out))) (Kd.R_lt (by (with_reducible repeat (first | apply rA | apply rB | apply rC)); exact HO279.out))) (below_size (by repeat (first | (with_reducible first | exact HB.out | apply bA | apply bB | apply bC | refine bD ?_ GE192.out) | exact HB.out)))); have n8_ := aM (blk_below (g := gb192) (o := .cells #[.slice A0_0 l0_0.length c0_0, .slice A0_1 l0_1.length c0_1, .slice A0_2 l0_2.length c0_2, .int .i64 a0_3, .int .i64 a0_4] 25 (0, 0)) (by (with_reducible repeat (first | refine blk_drewN ?_ _ | refine blk_drew ?_ | refine blk_alloc ?_ _)); exact BK192.out) hb); have n9_ := aM (below_step (by repeat (first | (with_reducible first | exact HB.out | apply bA | apply bB | apply bC | refine bD ?_ GE192.out) | exact HB.out)) hb); clear HO_4; clear HO_6; clear HO266; clear HO269; clear HO272; clear HO276; clear HO279; clear BK192; clear HB; have HO_4 := n0_; have HO_6 := n1_; have HO266 := n2_; have HO269 := n3_; have HO272 := n4_; have HO276 := n5_; have HO279 := n6_; have HO282 := n7_; have BK192 := n8_; have HB := n9_; clear n0_ n1_ n2_ n3_ n4_ n5_ n6_ n7_ n8_ n9_; (try clear hb); (try clear hb2); (try clear hk); (try clear hi); (try clear ho0); obtain ⟨Ao178, co178, eo178⟩ := Kd.R_slice HO272.out; subst eo178) | ((with_reducible refine gate_callee (f := 33) rfl ?_); refine goesL_ (some 231) rfl rfl Try.func33 (by kernel_rfl) rfl #[.slice Ao178 t270.length co178] rfl (by (try simp only [List.map_toArray, List.map_cons, List.map_nil]); first | done | rfl) ?_; (with_reducible refine (span_Count.calls kj89 _ _ t270 t284 t285 _ ?side1 ?side2 A116.out).mono ?_); (case side1 => repeat (first | exact (Kd.R_reads' HO272.out).2.2 | (with_reducible refine Kd.C_alloc ?_ _) | (with_reducible refine Kd.C_drewN ?_ _) | (with_reducible refine Kd.C_drew ?_))); (case side2 => exact (Kd.R_reads' HO272.out).2.1); rintro e w179 ⟨rfl, hb⟩; refine ⟨_, rfl, ?_⟩; have n0_ := aM (Kd.R_below (by (with_reducible repeat (first | apply rA | apply rB | apply rC)); exact HO_4.out) hb); have n1_ := aM (Kd.R_below (by (with_reducible repeat (first | apply rA | apply rB | apply rC)); exact HO_6.out) hb); have n2_ := aM (Kd.R_below (by (with_reducible repeat (first | apply rA | apply rB | apply rC)); exact HO266.out) hb); have n3_ := aM (Kd.R_below (by (with_reducible repeat (first | apply rA | apply rB | apply rC)); exact HO269.out) hb); have n4_ := aM (Kd.R_below (by (with_reducible repeat (first | apply rA | apply rB | apply rC)); exact HO272.out) hb); have n5_ := aM (Kd.R_below (by (with_reducible repeat (first | apply rA | apply rB | apply rC)); exact HO276.out) hb); have n6_ := aM (Kd.R_below (by (with_reducible repeat (first | apply rA | apply rB | apply rC)); exact HO279.out) hb); have n7_ := aM (Kd.R_below (by (with_reducible repeat (first | apply rA | apply rB | apply rC)); exact HO282.out) hb); have n8_ := aM (blk_below (g := gb192) (o := .cells #[.slice A0_0 l0_0.length c0_0, .slice A0_1 l0_1.length c0_1, .slice A0_2 l0_2.length c0_2, .int .i64 a0_3, .int .i64 a0_4] 25 (0, 0)) (by (with_reducible repeat (first | refine blk_drewN ?_ _ | refine blk_drew ?_ | refine blk_alloc ?_ _)); exact BK192.out) hb); have n9_ := aM (below_step (by repeat (first | (with_reducible first | exact HB.out | apply bA | apply bB | apply bC | refine bD ?_ GE192.out) | exact HB.out)) hb); clear HO_4; clear HO_6; clear HO266; clear HO269; clear HO272; clear HO276; clear HO279; clear HO282; clear BK192; clear HB; have HO_4 := n0_; have HO_6 := n1_; have HO266 := n2_; have HO269 := n3_; have HO272 := n4_; have HO276 := n5_; have HO279 := n6_; have HO282 := n7_; have BK192 := n8_; have HB := n9_; clear n0_ n1_ n2_ n3_ n4_ n5_ n6_ n7_ n8_ n9_; (try clear hb); (try clear hb2); (try clear hk); (try clear hi); obtain ⟨Ao180, co180, eo180⟩ := Kd.R_slice HO282.out; subst eo180) | ((with_reducible refine gate_callee (f := 33) rfl ?_); refine goesL_ (some 236) rfl rfl Try.func33 (by kernel_rfl) rfl #[.slice Ao180 t280.length co180] rfl (by (try simp only [List.map_toArray, List.map_cons, List.map_nil]); first | done | rfl) ?_; (with_reducible refine (span_Count.calls kj89 _ _ t280 t286 t287 _ ?side1 ?side2 A117.out).mono ?_); (case side1 => repeat (first | exact (Kd.R_reads' HO282.out).2.2 | (with_reducible refine Kd.C_alloc ?_ _) | (with_reducible refine Kd.C_drewN ?_ _) | (with_reducible refine Kd.C_drew ?_))); (case side2 => exact (Kd.R_reads' HO282.out).2.1); rintro e w181 ⟨rfl, hb⟩; refine ⟨_, rfl, ?_⟩; have n0_ := aM (Kd.R_below (by (with_reducible repeat (first | apply rA | apply rB | apply rC)); exact HO_4.out) hb); have n1_ := aM (Kd.R_below (by (with_reducible repeat (first | apply rA | apply rB | apply rC)); exact HO_6.out) hb); have n2_ := aM (Kd.R_below (by (with_reducible repeat (first | apply rA | apply rB | apply rC)); exact HO266.out) hb); have n3_ := aM (Kd.R_below (by (with_reducible repeat (first | apply rA | apply rB | apply rC)); exact HO269.out) hb); have n4_ := aM (Kd.R_below (by (with_reducible repeat (first | apply rA | apply rB | apply rC)); exact HO272.out) hb); have n5_ := aM (Kd.R_below (by (with_reducible repeat (first | apply rA | apply rB | apply rC)); exact HO276.out) hb); have n6_ := aM (Kd.R_below (by (with_reducible repeat (first | apply rA | apply rB | apply rC)); exact HO279.out) hb); have n7_ := aM (Kd.R_below (by (with_reducible repeat (first | apply rA | apply rB | apply rC)); exact HO282.out) hb); have n8_ := aM (blk_below (g := gb192) (o := .cells #[.slice A0_0 l0_0.length c0_0, .slice A0_1 l0_1.length c0_1, .slice A0_2 l0_2.length c0_2, .int .i64 a0_3, .int .i64 a0_4] 25 (0, 0)) (by (with_reducible repeat (first | refine blk_drewN ?_ _ | refine blk_drew ?_ | refine blk_alloc ?_ _)); exact BK192.out) hb); have n9_ := aM (below_step (by repeat (first | (with_reducible first | exact HB.out | apply bA | apply bB | apply bC | refine bD ?_ GE192.out) | exact HB.out)) hb); clear HO_4; clear HO_6; clear HO266; clear HO269; clear HO272; clear HO276; clear HO279; clear HO282; clear BK192; clear HB; have HO_4 := n0_; have HO_6 := n1_; have HO266 := n2_; have HO269 := n3_; have HO272 := n4_; have HO276 := n5_; have HO279 := n6_; have HO282 := n7_; have BK192 := n8_; have HB := n9_; clear n0_ n1_ n2_ n3_ n4_ n5_ n6_ n7_ n8_ n9_; (try clear hb); (try clear hb2); (try clear hk); (try clear hi)) | ((with_reducible refine gate_callee (f := 19) rfl ?_); refine goesL_ (some 240) rfl rfl Try.func19 (by kernel_rfl) rfl #[.int .i64 t273] rfl (by (try simp only [List.map_toArray, List.map_cons, List.map_nil]); first | done | rfl) ?_; (with_reducible refine (redraftlaw02_num.calls t273 t288 _ A118.out).mono ?_); rintro e w' ⟨rfl, ⟨nd, rfl⟩⟩; refine ⟨_, rfl, ?_⟩) | (go_at_call 19; (with_reducible refine (redraftlaw02_num.calls t283 t289 _ A120.out).mono ?_); rintro e w' ⟨rfl, ⟨nd, rfl⟩⟩))
              go_ret
              exact ⟨by first | rfl | (simp [errW_none, errW_some] <;> rfl) | (simp [*, errW_none, errW_some] <;> rfl), by repeat (first | (with_reducible first | exact HB.out | apply bA | apply bB | apply bC | refine bD ?_ GE192.out) | exact HB.out)⟩
             rw [if_pos c121] at H
             have c121b0 : (t289 == 0) = true := beq_iff_eq.mpr c121
             have c121b1 : (t289 != 0) = false := bne_eq_false_iff_eq.mpr c121
             clear c121
             replace H := Option.bind_eq_some_iff.mp H
             obtain ⟨t290, A1220, H⟩ := H
             replace H : (if t290 = 0 then ((redraftlaw02_num.f t287).bind fun t291 => (if t291 = 0 then (some ((wrap64 (t284 + t286)) == (wrap64 (t224 + t229)))) else (some false))) else (some false)) = some r := H
             have A122 := aM A1220
             clear A1220
             by_cases c123 : t290 = 0
             case neg =>
              rw [if_neg c123] at H
              have c123b0 : (t290 == 0) = false := beq_eq_false_iff_ne.mpr c123
              have c123b1 : (t290 != 0) = true := bne_iff_ne.mpr c123
              obtain rfl := Option.some.inj H
              go_wp2_with (first | ((with_reducible refine gate_callee (f := 17) rfl ?_); refine goesL_ (some 215) rfl rfl Try.func17 (by kernel_rfl) rfl #[.slice Ao39 t199.length co39] rfl (by (try simp only [List.map_toArray, List.map_cons, List.map_nil]); first | done | rfl) ?_; (with_reducible refine (redraftlaw02_copied.calls _ _ t199 t264 _ ?side1 ?side2 A110.out).mono ?_); (case side1 => repeat (first | exact (Kd.R_reads' HO_4.out).2.2 | (with_reducible refine Kd.C_alloc ?_ _) | (with_reducible refine Kd.C_drewN ?_ _) | (with_reducible refine Kd.C_drew ?_))); (case side2 => exact (Kd.R_reads' HO_4.out).2.1); rintro e w154 ⟨v265, rfl, ho0, hb⟩; refine ⟨_, rfl, ?_⟩; have n0_ := aM (rE (by (with_reducible repeat (first | apply rA | apply rB | apply rC)); exact HO_4.out) (Kd.R_base ho0) hb); have n1_ := aM (rE (by (with_reducible repeat (first | apply rA | apply rB | apply rC)); exact HO_6.out) (Kd.R_base ho0) hb); have n2_ := aM (Kd.R_lower (Kd.R_new' (Kd.R_new' ho0 (Kd.R_lt (by (with_reducible repeat (first | apply rA | apply rB | apply rC)); exact HO_4.out))) (Kd.R_lt (by (with_reducible repeat (first | apply rA | apply rB | apply rC)); exact HO_6.out))) (below_size (by repeat (first | (with_reducible first | exact HB.out | apply bA | apply bB | apply bC | refine bD ?_ GE192.out) | exact HB.out)))); have n3_ := aM (blk_below (g := gb192) (o := .cells #[.slice A0_0 l0_0.length c0_0, .slice A0_1 l0_1.length c0_1, .slice A0_2 l0_2.length c0_2, .int .i64 a0_3, .int .i64 a0_4] 25 (0, 0)) (by (with_reducible repeat (first | refine blk_drewN ?_ _ | refine blk_drew ?_ | refine blk_alloc ?_ _)); exact BK192.out) hb); have n4_ := aM (below_step (by repeat (first | (with_reducible first | exact HB.out | apply bA | apply bB | apply bC | refine bD ?_ GE192.out) | exact HB.out)) hb); clear HO_4; clear HO_6; clear BK192; clear HB; have HO_4 := n0_; have HO_6 := n1_; have HO266 := n2_; have BK192 := n3_; have HB := n4_; clear n0_ n1_ n2_ n3_ n4_; (try clear hb); (try clear hb2); (try clear hk); (try clear hi); (try clear ho0)) | ((with_reducible refine gate_callee (f := 17) rfl ?_); refine goesL_ (some 217) rfl rfl Try.func17 (by kernel_rfl) rfl #[.slice Ao43 t209.length co43] rfl (by (try simp only [List.map_toArray, List.map_cons, List.map_nil]); first | done | rfl) ?_; (with_reducible refine (redraftlaw02_copied.calls _ _ t209 t267 _ ?side1 ?side2 A111.out).mono ?_); (case side1 => repeat (first | exact (Kd.R_reads' HO_6.out).2.2 | (with_reducible refine Kd.C_alloc ?_ _) | (with_reducible refine Kd.C_drewN ?_ _) | (with_reducible refine Kd.C_drew ?_))); (case side2 => exact (Kd.R_reads' HO_6.out).2.1); rintro e w155 ⟨v268, rfl, ho0, hb⟩; refine ⟨_, rfl, ?_⟩; have n0_ := aM (rE (by (with_reducible repeat (first | apply rA | apply rB | apply rC)); exact HO_4.out) (Kd.R_base ho0) hb); have n1_ := aM (rE (by (with_reducible repeat (first | apply rA | apply rB | apply rC)); exact HO_6.out) (Kd.R_base ho0) hb); have n2_ := aM (rE (by (with_reducible repeat (first | apply rA | apply rB | apply rC)); exact HO266.out) (Kd.R_base ho0) hb); have n3_ := aM (Kd.R_lower (Kd.R_new' (Kd.R_new' (Kd.R_new' ho0 (Kd.R_lt (by (with_reducible repeat (first | apply rA | apply rB | apply rC)); exact HO_4.out))) (Kd.R_lt (by (with_reducible repeat (first | apply rA | apply rB | apply rC)); exact HO_6.out))) (Kd.R_lt (by (with_reducible repeat (first | apply rA | apply rB | apply rC)); exact HO266.out))) (below_size (by repeat (first | (with_reducible first | exact HB.out | apply bA | apply bB | apply bC | refine bD ?_ GE192.out) | exact HB.out)))); have n4_ := aM (blk_below (g := gb192) (o := .cells #[.slice A0_0 l0_0.length c0_0, .slice A0_1 l0_1.length c0_1, .slice A0_2 l0_2.length c0_2, .int .i64 a0_3, .int .i64 a0_4] 25 (0, 0)) (by (with_reducible repeat (first | refine blk_drewN ?_ _ | refine blk_drew ?_ | refine blk_alloc ?_ _)); exact BK192.out) hb); have n5_ := aM (below_step (by repeat (first | (with_reducible first | exact HB.out | apply bA | apply bB | apply bC | refine bD ?_ GE192.out) | exact HB.out)) hb); clear HO_4; clear HO_6; clear HO266; clear BK192; clear HB; have HO_4 := n0_; have HO_6 := n1_; have HO266 := n2_; have HO269 := n3_; have BK192 := n4_; have HB := n5_; clear n0_ n1_ n2_ n3_ n4_ n5_; (try clear hb); (try clear hb2); (try clear hk); (try clear hi); (try clear ho0); obtain ⟨Ao156, co156, eo156⟩ := Kd.R_slice HO266.out; subst eo156; obtain ⟨Ao157, co157, eo157⟩ := Kd.R_slice HO269.out; subst eo157) | ((with_reducible refine gate_callee (f := 24) rfl ?_); refine goesL_ (some 218) rfl rfl Try.func24 (by kernel_rfl) rfl #[.slice Ao156 t264.length co156, .slice Ao157 t267.length co157] rfl (by (try simp only [List.map_toArray, List.map_cons, List.map_nil]); first | done | rfl) ?_; (with_reducible refine (span_Union.calls kj89 (fun k_ => some k_ = (.slice Ao156 t264.length co156 : Value).ownBlock) _ _ t264 (fun k_ => some k_ = (.slice Ao157 t267.length co157 : Value).ownBlock) _ _ t267 t270 t273 _ ?side1 ?side2 A112.out).mono ?_); (case side1 => exact Kd.R_V (Kd.R_tight rfl (Kd.R_types (HO266.out) BK192.out (by decide)))); (case side2 => exact Kd.R_V (Kd.R_tight rfl (Kd.R_types (HO269.out) BK192.out (by decide)))); rintro e w158 ⟨v271, rfl, ho0, hb⟩; refine ⟨_, rfl, ?_⟩; have n0_ := aM (rE (by (with_reducible repeat (first | apply rA | apply rB | apply rC)); exact HO_4.out) (Kd.R_base ho0) hb); have n1_ := aM (rE (by (with_reducible repeat (first | apply rA | apply rB | apply rC)); exact HO_6.out) (Kd.R_base ho0) hb); have n2_ := aM (rE (by (with_reducible repeat (first | apply rA | apply rB | apply rC)); exact HO266.out) (Kd.R_base ho0) hb); have n3_ := aM (rE (by (with_reducible repeat (first | apply rA | apply rB | apply rC)); exact HO269.out) (Kd.R_base ho0) hb); have n4_ := aM (Kd.R_lower (Kd.R_new' (Kd.R_new' (Kd.R_new' (Kd.R_new' (Kd.R_mono (ok' := fun k_ => True) ho0 (fun _ hk_ => trivial)) (Kd.R_lt (by (with_reducible repeat (first | apply rA | apply rB | apply rC)); exact HO_4.out))) (Kd.R_lt (by (with_reducible repeat (first | apply rA | apply rB | apply rC)); exact HO_6.out))) (Kd.R_lt (by (with_reducible repeat (first | apply rA | apply rB | apply rC)); exact HO266.out))) (Kd.R_lt (by (with_reducible repeat (first | apply rA | apply rB | apply rC)); exact HO269.out))) (below_size (by repeat (first | (with_reducible first | exact HB.out | apply bA | apply bB | apply bC | refine bD ?_ GE192.out) | exact HB.out)))); have n5_ := aM (blk_below (g := gb192) (o := .cells #[.slice A0_0 l0_0.length c0_0, .slice A0_1 l0_1.length c0_1, .slice A0_2 l0_2.length c0_2, .int .i64 a0_3, .int .i64 a0_4] 25 (0, 0)) (by (with_reducible repeat (first | refine blk_drewN ?_ _ | refine blk_drew ?_ | refine blk_alloc ?_ _)); exact BK192.out) hb); have n6_ := aM (below_step (by repeat (first | (with_reducible first | exact HB.out | apply bA | apply bB | apply bC | refine bD ?_ GE192.out) | exact HB.out)) hb); clear HO_4; clear HO_6; clear HO266; clear HO269; clear BK192; clear HB; have HO_4 := n0_; have HO_6 := n1_; have HO266 := n2_; have HO269 := n3_; have HO272 := n4_; have BK192 := n5_; have HB := n6_; clear n0_ n1_ n2_ n3_ n4_ n5_ n6_; (try clear hb); (try clear hb2); (try clear hk); (try clear hi); (try clear ho0)) | ((with_reducible refine gate_callee (f := 17) rfl ?_); refine goesL_ (some 223) rfl rfl Try.func17 (by kernel_rfl) rfl #[.slice Ao39 t199.length co39] rfl (by (try simp only [List.map_toArray, List.map_cons, List.map_nil]); first | done | rfl) ?_; (with_reducible refine (redraftlaw02_copied.calls _ _ t199 t274 _ ?side1 ?side2 A113.out).mono ?_); (case side1 => repeat (first | exact (Kd.R_reads' HO_4.out).2.2 | (with_reducible refine Kd.C_alloc ?_ _) | (with_reducible refine Kd.C_drewN ?_ _) | (with_reducible refine Kd.C_drew ?_))); (case side2 => exact (Kd.R_reads' HO_4.out).2.1); rintro e w159 ⟨v275, rfl, ho0, hb⟩; refine ⟨_, rfl, ?_⟩; have n0_ := aM (rE (by (with_reducible repeat (first | apply rA | apply rB | apply rC)); exact HO_4.out) (Kd.R_base ho0) hb); have n1_ := aM (rE (by (with_reducible repeat (first | apply rA | apply rB | apply rC)); exact HO_6.out) (Kd.R_base ho0) hb); have n2_ := aM (rE (by (with_reducible repeat (first | apply rA | apply rB | apply rC)); exact HO266.out) (Kd.R_base ho0) hb); have n3_ := aM (rE (by (with_reducible repeat (first | apply rA | apply rB | apply rC)); exact HO269.out) (Kd.R_base ho0) hb); have n4_ := aM (rE (by (with_reducible repeat (first | apply rA | apply rB | apply rC)); exact HO272.out) (Kd.R_base ho0) hb); have n5_ := aM (Kd.R_lower (Kd.R_new' (Kd.R_new' (Kd.R_new' (Kd.R_new' (Kd.R_new' ho0 (Kd.R_lt (by (with_reducible repeat (first | apply rA | apply rB | apply rC)); exact HO_4.out))) (Kd.R_lt (by (with_reducible repeat (first | apply rA | apply rB | apply rC)); exact HO_6.out))) (Kd.R_lt (by (with_reducible repeat (first | apply rA | apply rB | apply rC)); exact HO266.out))) (Kd.R_lt (by (with_reducible repeat (first | apply rA | apply rB | apply rC)); exact HO269.out))) (Kd.R_lt (by (with_reducible repeat (first | apply rA | apply rB | apply rC)); exact HO272.out))) (below_size (by repeat (first | (with_reducible first | exact HB.out | apply bA | apply bB | apply bC | refine bD ?_ GE192.out) | exact HB.out)))); have n6_ := aM (blk_below (g := gb192) (o := .cells #[.slice A0_0 l0_0.length c0_0, .slice A0_1 l0_1.length c0_1, .slice A0_2 l0_2.length c0_2, .int .i64 a0_3, .int .i64 a0_4] 25 (0, 0)) (by (with_reducible repeat (first | refine blk_drewN ?_ _ | refine blk_drew ?_ | refine blk_alloc ?_ _)); exact BK192.out) hb); have n7_ := aM (below_step (by repeat (first | (with_reducible first | exact HB.out | apply bA | apply bB | apply bC | refine bD ?_ GE192.out) | exact HB.out)) hb); clear HO_4; clear HO_6; clear HO266; clear HO269; clear HO272; clear BK192; clear HB; have HO_4 := n0_; have HO_6 := n1_; have HO266 := n2_; have HO269 := n3_; have HO272 := n4_; have HO276 := n5_; have BK192 := n6_; have HB := n7_; clear n0_ n1_ n2_ n3_ n4_ n5_ n6_ n7_; (try clear hb); (try clear hb2); (try clear hk); (try clear hi); (try clear ho0)) | ((with_reducible refine gate_callee (f := 17) rfl ?_); refine goesL_ (some 225) rfl rfl Try.func17 (by kernel_rfl) rfl #[.slice Ao43 t209.length co43] rfl (by (try simp only [List.map_toArray, List.map_cons, List.map_nil]); first | done | rfl) ?_; (with_reducible refine (redraftlaw02_copied.calls _ _ t209 t277 _ ?side1 ?side2 A114.out).mono ?_); (case side1 => repeat (first | exact (Kd.R_reads' HO_6.out).2.2 | (with_reducible refine Kd.C_alloc ?_ _) | (with_reducible refine Kd.C_drewN ?_ _) | (with_reducible refine Kd.C_drew ?_))); (case side2 => exact (Kd.R_reads' HO_6.out).2.1); rintro e w160 ⟨v278, rfl, ho0, hb⟩; refine ⟨_, rfl, ?_⟩; have n0_ := aM (rE (by (with_reducible repeat (first | apply rA | apply rB | apply rC)); exact HO_4.out) (Kd.R_base ho0) hb); have n1_ := aM (rE (by (with_reducible repeat (first | apply rA | apply rB | apply rC)); exact HO_6.out) (Kd.R_base ho0) hb); have n2_ := aM (rE (by (with_reducible repeat (first | apply rA | apply rB | apply rC)); exact HO266.out) (Kd.R_base ho0) hb); have n3_ := aM (rE (by (with_reducible repeat (first | apply rA | apply rB | apply rC)); exact HO269.out) (Kd.R_base ho0) hb); have n4_ := aM (rE (by (with_reducible repeat (first | apply rA | apply rB | apply rC)); exact HO272.out) (Kd.R_base ho0) hb); have n5_ := aM (rE (by (with_reducible repeat (first | apply rA | apply rB | apply rC)); exact HO276.out) (Kd.R_base ho0) hb); have n6_ := aM (Kd.R_lower (Kd.R_new' (Kd.R_new' (Kd.R_new' (Kd.R_new' (Kd.R_new' (Kd.R_new' ho0 (Kd.R_lt (by (with_reducible repeat (first | apply rA | apply rB | apply rC)); exact HO_4.out))) (Kd.R_lt (by (with_reducible repeat (first | apply rA | apply rB | apply rC)); exact HO_6.out))) (Kd.R_lt (by (with_reducible repeat (first | apply rA | apply rB | apply rC)); exact HO266.out))) (Kd.R_lt (by (with_reducible repeat (first | apply rA | apply rB | apply rC)); exact HO269.out))) (Kd.R_lt (by (with_reducible repeat (first | apply rA | apply rB | apply rC)); exact HO272.out))) (Kd.R_lt (by (with_reducible repeat (first | apply rA | apply rB | apply rC)); exact HO276.out))) (below_size (by repeat (first | (with_reducible first | exact HB.out | apply bA | apply bB | apply bC | refine bD ?_ GE192.out) | exact HB.out)))); have n7_ := aM (blk_below (g := gb192) (o := .cells #[.slice A0_0 l0_0.length c0_0, .slice A0_1 l0_1.length c0_1, .slice A0_2 l0_2.length c0_2, .int .i64 a0_3, .int .i64 a0_4] 25 (0, 0)) (by (with_reducible repeat (first | refine blk_drewN ?_ _ | refine blk_drew ?_ | refine blk_alloc ?_ _)); exact BK192.out) hb); have n8_ := aM (below_step (by repeat (first | (with_reducible first | exact HB.out | apply bA | apply bB | apply bC | refine bD ?_ GE192.out) | exact HB.out)) hb); clear HO_4; clear HO_6; clear HO266; clear HO269; clear HO272; clear HO276; clear BK192; clear HB; have HO_4 := n0_; have HO_6 := n1_; have HO266 := n2_; have HO269 := n3_; have HO272 := n4_; have HO276 := n5_; have HO279 := n6_; have BK192 := n7_; have HB := n8_; clear n0_ n1_ n2_ n3_ n4_ n5_ n6_ n7_ n8_; (try clear hb); (try clear hb2); (try clear hk); (try clear hi); (try clear ho0); obtain ⟨Ao161, co161, eo161⟩ := Kd.R_slice HO276.out; subst eo161; obtain ⟨Ao162, co162, eo162⟩ := Kd.R_slice HO279.out; subst eo162) | ((with_reducible refine gate_callee (f := 32) rfl ?_); refine goesL_ (some 226) rfl rfl Try.func32 (by kernel_rfl) rfl #[.slice Ao161 t274.length co161, .slice Ao162 t277.length co162] rfl (by (try simp only [List.map_toArray, List.map_cons, List.map_nil]); first | done | rfl) ?_; (with_reducible refine (span_Meet.calls kj89 (fun k_ => some k_ = (.slice Ao161 t274.length co161 : Value).ownBlock) _ _ t274 (fun k_ => some k_ = (.slice Ao162 t277.length co162 : Value).ownBlock) _ _ t277 t280 t283 _ ?side1 ?side2 A115.out).mono ?_); (case side1 => exact Kd.R_V (Kd.R_tight rfl (Kd.R_types (HO276.out) BK192.out (by decide)))); (case side2 => exact Kd.R_V (Kd.R_tight rfl (Kd.R_types (HO279.out) BK192.out (by decide)))); rintro e w163 ⟨v281, rfl, ho0, hb⟩; refine ⟨_, rfl, ?_⟩; have n0_ := aM (rE (by (with_reducible repeat (first | apply rA | apply rB | apply rC)); exact HO_4.out) (Kd.R_base ho0) hb); have n1_ := aM (rE (by (with_reducible repeat (first | apply rA | apply rB | apply rC)); exact HO_6.out) (Kd.R_base ho0) hb); have n2_ := aM (rE (by (with_reducible repeat (first | apply rA | apply rB | apply rC)); exact HO266.out) (Kd.R_base ho0) hb); have n3_ := aM (rE (by (with_reducible repeat (first | apply rA | apply rB | apply rC)); exact HO269.out) (Kd.R_base ho0) hb); have n4_ := aM (rE (by (with_reducible repeat (first | apply rA | apply rB | apply rC)); exact HO272.out) (Kd.R_base ho0) hb); have n5_ := aM (rE (by (with_reducible repeat (first | apply rA | apply rB | apply rC)); exact HO276.out) (Kd.R_base ho0) hb); have n6_ := aM (rE (by (with_reducible repeat (first | apply rA | apply rB | apply rC)); exact HO279.out) (Kd.R_base ho0) hb); have n7_ := aM (Kd.R_lower (Kd.R_new' (Kd.R_new' (Kd.R_new' (Kd.R_new' (Kd.R_new' (Kd.R_new' (Kd.R_new' (Kd.R_mono (ok' := fun k_ => True) ho0 (fun _ hk_ => trivial)) (Kd.R_lt (by (with_reducible repeat (first | apply rA | apply rB | apply rC)); exact HO_4.out))) (Kd.R_lt (by (with_reducible repeat (first | apply rA | apply rB | apply rC)); exact HO_6.out))) (Kd.R_lt (by (with_reducible repeat (first | apply rA | apply rB | apply rC)); exact HO266.out))) (Kd.R_lt (by (with_reducible repeat (first | apply rA | apply rB | apply rC)); exact HO269.out))) (Kd.R_lt (by (with_reducible repeat (first | apply rA | apply rB | apply rC)); exact HO272.out))) (Kd.R_lt (by (with_reducible repeat (first | apply rA | apply rB | apply rC)); exact HO276.out))) (Kd.R_lt (by (with_reducible repeat (first | apply rA | apply rB | apply rC)); exact HO279.out))) (below_size (by repeat (first | (with_reducible first | exact HB.out | apply bA | apply bB | apply bC | refine bD ?_ GE192.out) | exact HB.out)))); have n8_ := aM (blk_below (g := gb192) (o := .cells #[.slice A0_0 l0_0.length c0_0, .slice A0_1 l0_1.length c0_1, .slice A0_2 l0_2.length c0_2, .int .i64 a0_3, .int .i64 a0_4] 25 (0, 0)) (by (with_reducible repeat (first | refine blk_drewN ?_ _ | refine blk_drew ?_ | refine blk_alloc ?_ _)); exact BK192.out) hb); have n9_ := aM (below_step (by repeat (first | (with_reducible first | exact HB.out | apply bA | apply bB | apply bC | refine bD ?_ GE192.out) | exact HB.out)) hb); clear HO_4; clear HO_6; clear HO266; clear HO269; clear HO272; clear HO276; clear HO279; clear BK192; clear HB; have HO_4 := n0_; have HO_6 := n1_; have HO266 := n2_; have HO269 := n3_; have HO272 := n4_; have HO276 := n5_; have HO279 := n6_; have HO282 := n7_; have BK192 := n8_; have HB := n9_; clear n0_ n1_ n2_ n3_ n4_ n5_ n6_ n7_ n8_ n9_; (try clear hb); (try clear hb2); (try clear hk); (try clear hi); (try clear ho0); obtain ⟨Ao164, co164, eo164⟩ := Kd.R_slice HO272.out; subst eo164) | ((with_reducible refine gate_callee (f := 33) rfl ?_); refine goesL_ (some 231) rfl rfl Try.func33 (by kernel_rfl) rfl #[.slice Ao164 t270.length co164] rfl (by (try simp only [List.map_toArray, List.map_cons, List.map_nil]); first | done | rfl) ?_; (with_reducible refine (span_Count.calls kj89 _ _ t270 t284 t285 _ ?side1 ?side2 A116.out).mono ?_); (case side1 => repeat (first | exact (Kd.R_reads' HO272.out).2.2 | (with_reducible refine Kd.C_alloc ?_ _) | (with_reducible refine Kd.C_drewN ?_ _) | (with_reducible refine Kd.C_drew ?_))); (case side2 => exact (Kd.R_reads' HO272.out).2.1); rintro e w165 ⟨rfl, hb⟩; refine ⟨_, rfl, ?_⟩; have n0_ := aM (Kd.R_below (by (with_reducible repeat (first | apply rA | apply rB | apply rC)); exact HO_4.out) hb); have n1_ := aM (Kd.R_below (by (with_reducible repeat (first | apply rA | apply rB | apply rC)); exact HO_6.out) hb); have n2_ := aM (Kd.R_below (by (with_reducible repeat (first | apply rA | apply rB | apply rC)); exact HO266.out) hb); have n3_ := aM (Kd.R_below (by (with_reducible repeat (first | apply rA | apply rB | apply rC)); exact HO269.out) hb); have n4_ := aM (Kd.R_below (by (with_reducible repeat (first | apply rA | apply rB | apply rC)); exact HO272.out) hb); have n5_ := aM (Kd.R_below (by (with_reducible repeat (first | apply rA | apply rB | apply rC)); exact HO276.out) hb); have n6_ := aM (Kd.R_below (by (with_reducible repeat (first | apply rA | apply rB | apply rC)); exact HO279.out) hb); have n7_ := aM (Kd.R_below (by (with_reducible repeat (first | apply rA | apply rB | apply rC)); exact HO282.out) hb); have n8_ := aM (blk_below (g := gb192) (o := .cells #[.slice A0_0 l0_0.length c0_0, .slice A0_1 l0_1.length c0_1, .slice A0_2 l0_2.length c0_2, .int .i64 a0_3, .int .i64 a0_4] 25 (0, 0)) (by (with_reducible repeat (first | refine blk_drewN ?_ _ | refine blk_drew ?_ | refine blk_alloc ?_ _)); exact BK192.out) hb); have n9_ := aM (below_step (by repeat (first | (with_reducible first | exact HB.out | apply bA | apply bB | apply bC | refine bD ?_ GE192.out) | exact HB.out)) hb); clear HO_4; clear HO_6; clear HO266; clear HO269; clear HO272; clear HO276; clear HO279; clear HO282; clear BK192; clear HB; have HO_4 := n0_; have HO_6 := n1_; have HO266 := n2_; have HO269 := n3_; have HO272 := n4_; have HO276 := n5_; have HO279 := n6_; have HO282 := n7_; have BK192 := n8_; have HB := n9_; clear n0_ n1_ n2_ n3_ n4_ n5_ n6_ n7_ n8_ n9_; (try clear hb); (try clear hb2); (try clear hk); (try clear hi); obtain ⟨Ao166, co166, eo166⟩ := Kd.R_slice HO282.out; subst eo166) | ((with_reducible refine gate_callee (f := 33) rfl ?_); refine goesL_ (some 236) rfl rfl Try.func33 (by kernel_rfl) rfl #[.slice Ao166 t280.length co166] rfl (by (try simp only [List.map_toArray, List.map_cons, List.map_nil]); first | done | rfl) ?_; (with_reducible refine (span_Count.calls kj89 _ _ t280 t286 t287 _ ?side1 ?side2 A117.out).mono ?_); (case side1 => repeat (first | exact (Kd.R_reads' HO282.out).2.2 | (with_reducible refine Kd.C_alloc ?_ _) | (with_reducible refine Kd.C_drewN ?_ _) | (with_reducible refine Kd.C_drew ?_))); (case side2 => exact (Kd.R_reads' HO282.out).2.1); rintro e w167 ⟨rfl, hb⟩; refine ⟨_, rfl, ?_⟩; have n0_ := aM (Kd.R_below (by (with_reducible repeat (first | apply rA | apply rB | apply rC)); exact HO_4.out) hb); have n1_ := aM (Kd.R_below (by (with_reducible repeat (first | apply rA | apply rB | apply rC)); exact HO_6.out) hb); have n2_ := aM (Kd.R_below (by (with_reducible repeat (first | apply rA | apply rB | apply rC)); exact HO266.out) hb); have n3_ := aM (Kd.R_below (by (with_reducible repeat (first | apply rA | apply rB | apply rC)); exact HO269.out) hb); have n4_ := aM (Kd.R_below (by (with_reducible repeat (first | apply rA | apply rB | apply rC)); exact HO272.out) hb); have n5_ := aM (Kd.R_below (by (with_reducible repeat (first | apply rA | apply rB | apply rC)); exact HO276.out) hb); have n6_ := aM (Kd.R_below (by (with_reducible repeat (first | apply rA | apply rB | apply rC)); exact HO279.out) hb); have n7_ := aM (Kd.R_below (by (with_reducible repeat (first | apply rA | apply rB | apply rC)); exact HO282.out) hb); have n8_ := aM (blk_below (g := gb192) (o := .cells #[.slice A0_0 l0_0.length c0_0, .slice A0_1 l0_1.length c0_1, .slice A0_2 l0_2.length c0_2, .int .i64 a0_3, .int .i64 a0_4] 25 (0, 0)) (by (with_reducible repeat (first | refine blk_drewN ?_ _ | refine blk_drew ?_ | refine blk_alloc ?_ _)); exact BK192.out) hb); have n9_ := aM (below_step (by repeat (first | (with_reducible first | exact HB.out | apply bA | apply bB | apply bC | refine bD ?_ GE192.out) | exact HB.out)) hb); clear HO_4; clear HO_6; clear HO266; clear HO269; clear HO272; clear HO276; clear HO279; clear HO282; clear BK192; clear HB; have HO_4 := n0_; have HO_6 := n1_; have HO266 := n2_; have HO269 := n3_; have HO272 := n4_; have HO276 := n5_; have HO279 := n6_; have HO282 := n7_; have BK192 := n8_; have HB := n9_; clear n0_ n1_ n2_ n3_ n4_ n5_ n6_ n7_ n8_ n9_; (try clear hb); (try clear hb2); (try clear hk); (try clear hi)) | ((with_reducible refine gate_callee (f := 19) rfl ?_); refine goesL_ (some 240) rfl rfl Try.func19 (by kernel_rfl) rfl #[.int .i64 t273] rfl (by (try simp only [List.map_toArray, List.map_cons, List.map_nil]); first | done | rfl) ?_; (with_reducible refine (redraftlaw02_num.calls t273 t288 _ A118.out).mono ?_); rintro e w' ⟨rfl, ⟨nd, rfl⟩⟩; refine ⟨_, rfl, ?_⟩) | (go_at_call 19; (with_reducible refine (redraftlaw02_num.calls t283 t289 _ A120.out).mono ?_); rintro e w' ⟨rfl, ⟨nd, rfl⟩⟩) | (go_at_call 19; (with_reducible refine (redraftlaw02_num.calls t285 t290 _ A122.out).mono ?_); rintro e w' ⟨rfl, ⟨nd, rfl⟩⟩))
              go_ret
              exact ⟨by first | rfl | (simp [errW_none, errW_some] <;> rfl) | (simp [*, errW_none, errW_some] <;> rfl), by repeat (first | (with_reducible first | exact HB.out | apply bA | apply bB | apply bC | refine bD ?_ GE192.out) | exact HB.out)⟩
             rw [if_pos c123] at H
             have c123b0 : (t290 == 0) = true := beq_iff_eq.mpr c123
             have c123b1 : (t290 != 0) = false := bne_eq_false_iff_eq.mpr c123
             clear c123
             replace H := Option.bind_eq_some_iff.mp H
             obtain ⟨t291, A1240, H⟩ := H
             replace H : (if t291 = 0 then (some ((wrap64 (t284 + t286)) == (wrap64 (t224 + t229)))) else (some false)) = some r := H
             have A124 := aM A1240
             clear A1240
             by_cases c125 : t291 = 0
             case neg =>
              rw [if_neg c125] at H
              have c125b0 : (t291 == 0) = false := beq_eq_false_iff_ne.mpr c125
              have c125b1 : (t291 != 0) = true := bne_iff_ne.mpr c125
              obtain rfl := Option.some.inj H
              go_wp2_with (first | ((with_reducible refine gate_callee (f := 17) rfl ?_); refine goesL_ (some 215) rfl rfl Try.func17 (by kernel_rfl) rfl #[.slice Ao39 t199.length co39] rfl (by (try simp only [List.map_toArray, List.map_cons, List.map_nil]); first | done | rfl) ?_; (with_reducible refine (redraftlaw02_copied.calls _ _ t199 t264 _ ?side1 ?side2 A110.out).mono ?_); (case side1 => repeat (first | exact (Kd.R_reads' HO_4.out).2.2 | (with_reducible refine Kd.C_alloc ?_ _) | (with_reducible refine Kd.C_drewN ?_ _) | (with_reducible refine Kd.C_drew ?_))); (case side2 => exact (Kd.R_reads' HO_4.out).2.1); rintro e w140 ⟨v265, rfl, ho0, hb⟩; refine ⟨_, rfl, ?_⟩; have n0_ := aM (rE (by (with_reducible repeat (first | apply rA | apply rB | apply rC)); exact HO_4.out) (Kd.R_base ho0) hb); have n1_ := aM (rE (by (with_reducible repeat (first | apply rA | apply rB | apply rC)); exact HO_6.out) (Kd.R_base ho0) hb); have n2_ := aM (Kd.R_lower (Kd.R_new' (Kd.R_new' ho0 (Kd.R_lt (by (with_reducible repeat (first | apply rA | apply rB | apply rC)); exact HO_4.out))) (Kd.R_lt (by (with_reducible repeat (first | apply rA | apply rB | apply rC)); exact HO_6.out))) (below_size (by repeat (first | (with_reducible first | exact HB.out | apply bA | apply bB | apply bC | refine bD ?_ GE192.out) | exact HB.out)))); have n3_ := aM (blk_below (g := gb192) (o := .cells #[.slice A0_0 l0_0.length c0_0, .slice A0_1 l0_1.length c0_1, .slice A0_2 l0_2.length c0_2, .int .i64 a0_3, .int .i64 a0_4] 25 (0, 0)) (by (with_reducible repeat (first | refine blk_drewN ?_ _ | refine blk_drew ?_ | refine blk_alloc ?_ _)); exact BK192.out) hb); have n4_ := aM (below_step (by repeat (first | (with_reducible first | exact HB.out | apply bA | apply bB | apply bC | refine bD ?_ GE192.out) | exact HB.out)) hb); clear HO_4; clear HO_6; clear BK192; clear HB; have HO_4 := n0_; have HO_6 := n1_; have HO266 := n2_; have BK192 := n3_; have HB := n4_; clear n0_ n1_ n2_ n3_ n4_; (try clear hb); (try clear hb2); (try clear hk); (try clear hi); (try clear ho0)) | ((with_reducible refine gate_callee (f := 17) rfl ?_); refine goesL_ (some 217) rfl rfl Try.func17 (by kernel_rfl) rfl #[.slice Ao43 t209.length co43] rfl (by (try simp only [List.map_toArray, List.map_cons, List.map_nil]); first | done | rfl) ?_; (with_reducible refine (redraftlaw02_copied.calls _ _ t209 t267 _ ?side1 ?side2 A111.out).mono ?_); (case side1 => repeat (first | exact (Kd.R_reads' HO_6.out).2.2 | (with_reducible refine Kd.C_alloc ?_ _) | (with_reducible refine Kd.C_drewN ?_ _) | (with_reducible refine Kd.C_drew ?_))); (case side2 => exact (Kd.R_reads' HO_6.out).2.1); rintro e w141 ⟨v268, rfl, ho0, hb⟩; refine ⟨_, rfl, ?_⟩; have n0_ := aM (rE (by (with_reducible repeat (first | apply rA | apply rB | apply rC)); exact HO_4.out) (Kd.R_base ho0) hb); have n1_ := aM (rE (by (with_reducible repeat (first | apply rA | apply rB | apply rC)); exact HO_6.out) (Kd.R_base ho0) hb); have n2_ := aM (rE (by (with_reducible repeat (first | apply rA | apply rB | apply rC)); exact HO266.out) (Kd.R_base ho0) hb); have n3_ := aM (Kd.R_lower (Kd.R_new' (Kd.R_new' (Kd.R_new' ho0 (Kd.R_lt (by (with_reducible repeat (first | apply rA | apply rB | apply rC)); exact HO_4.out))) (Kd.R_lt (by (with_reducible repeat (first | apply rA | apply rB | apply rC)); exact HO_6.out))) (Kd.R_lt (by (with_reducible repeat (first | apply rA | apply rB | apply rC)); exact HO266.out))) (below_size (by repeat (first | (with_reducible first | exact HB.out | apply bA | apply bB | apply bC | refine bD ?_ GE192.out) | exact HB.out)))); have n4_ := aM (blk_below (g := gb192) (o := .cells #[.slice A0_0 l0_0.length c0_0, .slice A0_1 l0_1.length c0_1, .slice A0_2 l0_2.length c0_2, .int .i64 a0_3, .int .i64 a0_4] 25 (0, 0)) (by (with_reducible repeat (first | refine blk_drewN ?_ _ | refine blk_drew ?_ | refine blk_alloc ?_ _)); exact BK192.out) hb); have n5_ := aM (below_step (by repeat (first | (with_reducible first | exact HB.out | apply bA | apply bB | apply bC | refine bD ?_ GE192.out) | exact HB.out)) hb); clear HO_4; clear HO_6; clear HO266; clear BK192; clear HB; have HO_4 := n0_; have HO_6 := n1_; have HO266 := n2_; have HO269 := n3_; have BK192 := n4_; have HB := n5_; clear n0_ n1_ n2_ n3_ n4_ n5_; (try clear hb); (try clear hb2); (try clear hk); (try clear hi); (try clear ho0); obtain ⟨Ao142, co142, eo142⟩ := Kd.R_slice HO266.out; subst eo142; obtain ⟨Ao143, co143, eo143⟩ := Kd.R_slice HO269.out; subst eo143) | ((with_reducible refine gate_callee (f := 24) rfl ?_); refine goesL_ (some 218) rfl rfl Try.func24 (by kernel_rfl) rfl #[.slice Ao142 t264.length co142, .slice Ao143 t267.length co143] rfl (by (try simp only [List.map_toArray, List.map_cons, List.map_nil]); first | done | rfl) ?_; (with_reducible refine (span_Union.calls kj89 (fun k_ => some k_ = (.slice Ao142 t264.length co142 : Value).ownBlock) _ _ t264 (fun k_ => some k_ = (.slice Ao143 t267.length co143 : Value).ownBlock) _ _ t267 t270 t273 _ ?side1 ?side2 A112.out).mono ?_); (case side1 => exact Kd.R_V (Kd.R_tight rfl (Kd.R_types (HO266.out) BK192.out (by decide)))); (case side2 => exact Kd.R_V (Kd.R_tight rfl (Kd.R_types (HO269.out) BK192.out (by decide)))); rintro e w144 ⟨v271, rfl, ho0, hb⟩; refine ⟨_, rfl, ?_⟩; have n0_ := aM (rE (by (with_reducible repeat (first | apply rA | apply rB | apply rC)); exact HO_4.out) (Kd.R_base ho0) hb); have n1_ := aM (rE (by (with_reducible repeat (first | apply rA | apply rB | apply rC)); exact HO_6.out) (Kd.R_base ho0) hb); have n2_ := aM (rE (by (with_reducible repeat (first | apply rA | apply rB | apply rC)); exact HO266.out) (Kd.R_base ho0) hb); have n3_ := aM (rE (by (with_reducible repeat (first | apply rA | apply rB | apply rC)); exact HO269.out) (Kd.R_base ho0) hb); have n4_ := aM (Kd.R_lower (Kd.R_new' (Kd.R_new' (Kd.R_new' (Kd.R_new' (Kd.R_mono (ok' := fun k_ => True) ho0 (fun _ hk_ => trivial)) (Kd.R_lt (by (with_reducible repeat (first | apply rA | apply rB | apply rC)); exact HO_4.out))) (Kd.R_lt (by (with_reducible repeat (first | apply rA | apply rB | apply rC)); exact HO_6.out))) (Kd.R_lt (by (with_reducible repeat (first | apply rA | apply rB | apply rC)); exact HO266.out))) (Kd.R_lt (by (with_reducible repeat (first | apply rA | apply rB | apply rC)); exact HO269.out))) (below_size (by repeat (first | (with_reducible first | exact HB.out | apply bA | apply bB | apply bC | refine bD ?_ GE192.out) | exact HB.out)))); have n5_ := aM (blk_below (g := gb192) (o := .cells #[.slice A0_0 l0_0.length c0_0, .slice A0_1 l0_1.length c0_1, .slice A0_2 l0_2.length c0_2, .int .i64 a0_3, .int .i64 a0_4] 25 (0, 0)) (by (with_reducible repeat (first | refine blk_drewN ?_ _ | refine blk_drew ?_ | refine blk_alloc ?_ _)); exact BK192.out) hb); have n6_ := aM (below_step (by repeat (first | (with_reducible first | exact HB.out | apply bA | apply bB | apply bC | refine bD ?_ GE192.out) | exact HB.out)) hb); clear HO_4; clear HO_6; clear HO266; clear HO269; clear BK192; clear HB; have HO_4 := n0_; have HO_6 := n1_; have HO266 := n2_; have HO269 := n3_; have HO272 := n4_; have BK192 := n5_; have HB := n6_; clear n0_ n1_ n2_ n3_ n4_ n5_ n6_; (try clear hb); (try clear hb2); (try clear hk); (try clear hi); (try clear ho0)) | ((with_reducible refine gate_callee (f := 17) rfl ?_); refine goesL_ (some 223) rfl rfl Try.func17 (by kernel_rfl) rfl #[.slice Ao39 t199.length co39] rfl (by (try simp only [List.map_toArray, List.map_cons, List.map_nil]); first | done | rfl) ?_; (with_reducible refine (redraftlaw02_copied.calls _ _ t199 t274 _ ?side1 ?side2 A113.out).mono ?_); (case side1 => repeat (first | exact (Kd.R_reads' HO_4.out).2.2 | (with_reducible refine Kd.C_alloc ?_ _) | (with_reducible refine Kd.C_drewN ?_ _) | (with_reducible refine Kd.C_drew ?_))); (case side2 => exact (Kd.R_reads' HO_4.out).2.1); rintro e w145 ⟨v275, rfl, ho0, hb⟩; refine ⟨_, rfl, ?_⟩; have n0_ := aM (rE (by (with_reducible repeat (first | apply rA | apply rB | apply rC)); exact HO_4.out) (Kd.R_base ho0) hb); have n1_ := aM (rE (by (with_reducible repeat (first | apply rA | apply rB | apply rC)); exact HO_6.out) (Kd.R_base ho0) hb); have n2_ := aM (rE (by (with_reducible repeat (first | apply rA | apply rB | apply rC)); exact HO266.out) (Kd.R_base ho0) hb); have n3_ := aM (rE (by (with_reducible repeat (first | apply rA | apply rB | apply rC)); exact HO269.out) (Kd.R_base ho0) hb); have n4_ := aM (rE (by (with_reducible repeat (first | apply rA | apply rB | apply rC)); exact HO272.out) (Kd.R_base ho0) hb); have n5_ := aM (Kd.R_lower (Kd.R_new' (Kd.R_new' (Kd.R_new' (Kd.R_new' (Kd.R_new' ho0 (Kd.R_lt (by (with_reducible repeat (first | apply rA | apply rB | apply rC)); exact HO_4.out))) (Kd.R_lt (by (with_reducible repeat (first | apply rA | apply rB | apply rC)); exact HO_6.out))) (Kd.R_lt (by (with_reducible repeat (first | apply rA | apply rB | apply rC)); exact HO266.out))) (Kd.R_lt (by (with_reducible repeat (first | apply rA | apply rB | apply rC)); exact HO269.out))) (Kd.R_lt (by (with_reducible repeat (first | apply rA | apply rB | apply rC)); exact HO272.out))) (below_size (by repeat (first | (with_reducible first | exact HB.out | apply bA | apply bB | apply bC | refine bD ?_ GE192.out) | exact HB.out)))); have n6_ := aM (blk_below (g := gb192) (o := .cells #[.slice A0_0 l0_0.length c0_0, .slice A0_1 l0_1.length c0_1, .slice A0_2 l0_2.length c0_2, .int .i64 a0_3, .int .i64 a0_4] 25 (0, 0)) (by (with_reducible repeat (first | refine blk_drewN ?_ _ | refine blk_drew ?_ | refine blk_alloc ?_ _)); exact BK192.out) hb); have n7_ := aM (below_step (by repeat (first | (with_reducible first | exact HB.out | apply bA | apply bB | apply bC | refine bD ?_ GE192.out) | exact HB.out)) hb); clear HO_4; clear HO_6; clear HO266; clear HO269; clear HO272; clear BK192; clear HB; have HO_4 := n0_; have HO_6 := n1_; have HO266 := n2_; have HO269 := n3_; have HO272 := n4_; have HO276 := n5_; have BK192 := n6_; have HB := n7_; clear n0_ n1_ n2_ n3_ n4_ n5_ n6_ n7_; (try clear hb); (try clear hb2); (try clear hk); (try clear hi); (try clear ho0)) | ((with_reducible refine gate_callee (f := 17) rfl ?_); refine goesL_ (some 225) rfl rfl Try.func17 (by kernel_rfl) rfl #[.slice Ao43 t209.length co43] rfl (by (try simp only [List.map_toArray, List.map_cons, List.map_nil]); first | done | rfl) ?_; (with_reducible refine (redraftlaw02_copied.calls _ _ t209 t277 _ ?side1 ?side2 A114.out).mono ?_); (case side1 => repeat (first | exact (Kd.R_reads' HO_6.out).2.2 | (with_reducible refine Kd.C_alloc ?_ _) | (with_reducible refine Kd.C_drewN ?_ _) | (with_reducible refine Kd.C_drew ?_))); (case side2 => exact (Kd.R_reads' HO_6.out).2.1); rintro e w146 ⟨v278, rfl, ho0, hb⟩; refine ⟨_, rfl, ?_⟩; have n0_ := aM (rE (by (with_reducible repeat (first | apply rA | apply rB | apply rC)); exact HO_4.out) (Kd.R_base ho0) hb); have n1_ := aM (rE (by (with_reducible repeat (first | apply rA | apply rB | apply rC)); exact HO_6.out) (Kd.R_base ho0) hb); have n2_ := aM (rE (by (with_reducible repeat (first | apply rA | apply rB | apply rC)); exact HO266.out) (Kd.R_base ho0) hb); have n3_ := aM (rE (by (with_reducible repeat (first | apply rA | apply rB | apply rC)); exact HO269.out) (Kd.R_base ho0) hb); have n4_ := aM (rE (by (with_reducible repeat (first | apply rA | apply rB | apply rC)); exact HO272.out) (Kd.R_base ho0) hb); have n5_ := aM (rE (by (with_reducible repeat (first | apply rA | apply rB | apply rC)); exact HO276.out) (Kd.R_base ho0) hb); have n6_ := aM (Kd.R_lower (Kd.R_new' (Kd.R_new' (Kd.R_new' (Kd.R_new' (Kd.R_new' (Kd.R_new' ho0 (Kd.R_lt (by (with_reducible repeat (first | apply rA | apply rB | apply rC)); exact HO_4.out))) (Kd.R_lt (by (with_reducible repeat (first | apply rA | apply rB | apply rC)); exact HO_6.out))) (Kd.R_lt (by (with_reducible repeat (first | apply rA | apply rB | apply rC)); exact HO266.out))) (Kd.R_lt (by (with_reducible repeat (first | apply rA | apply rB | apply rC)); exact HO269.out))) (Kd.R_lt (by (with_reducible repeat (first | apply rA | apply rB | apply rC)); exact HO272.out))) (Kd.R_lt (by (with_reducible repeat (first | apply rA | apply rB | apply rC)); exact HO276.out))) (below_size (by repeat (first | (with_reducible first | exact HB.out | apply bA | apply bB | apply bC | refine bD ?_ GE192.out) | exact HB.out)))); have n7_ := aM (blk_below (g := gb192) (o := .cells #[.slice A0_0 l0_0.length c0_0, .slice A0_1 l0_1.length c0_1, .slice A0_2 l0_2.length c0_2, .int .i64 a0_3, .int .i64 a0_4] 25 (0, 0)) (by (with_reducible repeat (first | refine blk_drewN ?_ _ | refine blk_drew ?_ | refine blk_alloc ?_ _)); exact BK192.out) hb); have n8_ := aM (below_step (by repeat (first | (with_reducible first | exact HB.out | apply bA | apply bB | apply bC | refine bD ?_ GE192.out) | exact HB.out)) hb); clear HO_4; clear HO_6; clear HO266; clear HO269; clear HO272; clear HO276; clear BK192; clear HB; have HO_4 := n0_; have HO_6 := n1_; have HO266 := n2_; have HO269 := n3_; have HO272 := n4_; have HO276 := n5_; have HO279 := n6_; have BK192 := n7_; have HB := n8_; clear n0_ n1_ n2_ n3_ n4_ n5_ n6_ n7_ n8_; (try clear hb); (try clear hb2); (try clear hk); (try clear hi); (try clear ho0); obtain ⟨Ao147, co147, eo147⟩ := Kd.R_slice HO276.out; subst eo147; obtain ⟨Ao148, co148, eo148⟩ := Kd.R_slice HO279.out; subst eo148) | ((with_reducible refine gate_callee (f := 32) rfl ?_); refine goesL_ (some 226) rfl rfl Try.func32 (by kernel_rfl) rfl #[.slice Ao147 t274.length co147, .slice Ao148 t277.length co148] rfl (by (try simp only [List.map_toArray, List.map_cons, List.map_nil]); first | done | rfl) ?_; (with_reducible refine (span_Meet.calls kj89 (fun k_ => some k_ = (.slice Ao147 t274.length co147 : Value).ownBlock) _ _ t274 (fun k_ => some k_ = (.slice Ao148 t277.length co148 : Value).ownBlock) _ _ t277 t280 t283 _ ?side1 ?side2 A115.out).mono ?_); (case side1 => exact Kd.R_V (Kd.R_tight rfl (Kd.R_types (HO276.out) BK192.out (by decide)))); (case side2 => exact Kd.R_V (Kd.R_tight rfl (Kd.R_types (HO279.out) BK192.out (by decide)))); rintro e w149 ⟨v281, rfl, ho0, hb⟩; refine ⟨_, rfl, ?_⟩; have n0_ := aM (rE (by (with_reducible repeat (first | apply rA | apply rB | apply rC)); exact HO_4.out) (Kd.R_base ho0) hb); have n1_ := aM (rE (by (with_reducible repeat (first | apply rA | apply rB | apply rC)); exact HO_6.out) (Kd.R_base ho0) hb); have n2_ := aM (rE (by (with_reducible repeat (first | apply rA | apply rB | apply rC)); exact HO266.out) (Kd.R_base ho0) hb); have n3_ := aM (rE (by (with_reducible repeat (first | apply rA | apply rB | apply rC)); exact HO269.out) (Kd.R_base ho0) hb); have n4_ := aM (rE (by (with_reducible repeat (first | apply rA | apply rB | apply rC)); exact HO272.out) (Kd.R_base ho0) hb); have n5_ := aM (rE (by (with_reducible repeat (first | apply rA | apply rB | apply rC)); exact HO276.out) (Kd.R_base ho0) hb); have n6_ := aM (rE (by (with_reducible repeat (first | apply rA | apply rB | apply rC)); exact HO279.out) (Kd.R_base ho0) hb); have n7_ := aM (Kd.R_lower (Kd.R_new' (Kd.R_new' (Kd.R_new' (Kd.R_new' (Kd.R_new' (Kd.R_new' (Kd.R_new' (Kd.R_mono (ok' := fun k_ => True) ho0 (fun _ hk_ => trivial)) (Kd.R_lt (by (with_reducible repeat (first | apply rA | apply rB | apply rC)); exact HO_4.out))) (Kd.R_lt (by (with_reducible repeat (first | apply rA | apply rB | apply rC)); exact HO_6.out))) (Kd.R_lt (by (with_reducible repeat (first | apply rA | apply rB | apply rC)); exact HO266.out))) (Kd.R_lt (by (with_reducible repeat (first | apply rA | apply rB | apply rC)); exact HO269.out))) (Kd.R_lt (by (with_reducible repeat (first | apply rA | apply rB | apply rC)); exact HO272.out))) (Kd.R_lt (by (with_reducible repeat (first | apply rA | apply rB | apply rC)); exact HO276.out))) (Kd.R_lt (by (with_reducible repeat (first | apply rA | apply rB | apply rC)); exact HO279.out))) (below_size (by repeat (first | (with_reducible first | exact HB.out | apply bA | apply bB | apply bC | refine bD ?_ GE192.out) | exact HB.out)))); have n8_ := aM (blk_below (g := gb192) (o := .cells #[.slice A0_0 l0_0.length c0_0, .slice A0_1 l0_1.length c0_1, .slice A0_2 l0_2.length c0_2, .int .i64 a0_3, .int .i64 a0_4] 25 (0, 0)) (by (with_reducible repeat (first | refine blk_drewN ?_ _ | refine blk_drew ?_ | refine blk_alloc ?_ _)); exact BK192.out) hb); have n9_ := aM (below_step (by repeat (first | (with_reducible first | exact HB.out | apply bA | apply bB | apply bC | refine bD ?_ GE192.out) | exact HB.out)) hb); clear HO_4; clear HO_6; clear HO266; clear HO269; clear HO272; clear HO276; clear HO279; clear BK192; clear HB; have HO_4 := n0_; have HO_6 := n1_; have HO266 := n2_; have HO269 := n3_; have HO272 := n4_; have HO276 := n5_; have HO279 := n6_; have HO282 := n7_; have BK192 := n8_; have HB := n9_; clear n0_ n1_ n2_ n3_ n4_ n5_ n6_ n7_ n8_ n9_; (try clear hb); (try clear hb2); (try clear hk); (try clear hi); (try clear ho0); obtain ⟨Ao150, co150, eo150⟩ := Kd.R_slice HO272.out; subst eo150) | ((with_reducible refine gate_callee (f := 33) rfl ?_); refine goesL_ (some 231) rfl rfl Try.func33 (by kernel_rfl) rfl #[.slice Ao150 t270.length co150] rfl (by (try simp only [List.map_toArray, List.map_cons, List.map_nil]); first | done | rfl) ?_; (with_reducible refine (span_Count.calls kj89 _ _ t270 t284 t285 _ ?side1 ?side2 A116.out).mono ?_); (case side1 => repeat (first | exact (Kd.R_reads' HO272.out).2.2 | (with_reducible refine Kd.C_alloc ?_ _) | (with_reducible refine Kd.C_drewN ?_ _) | (with_reducible refine Kd.C_drew ?_))); (case side2 => exact (Kd.R_reads' HO272.out).2.1); rintro e w151 ⟨rfl, hb⟩; refine ⟨_, rfl, ?_⟩; have n0_ := aM (Kd.R_below (by (with_reducible repeat (first | apply rA | apply rB | apply rC)); exact HO_4.out) hb); have n1_ := aM (Kd.R_below (by (with_reducible repeat (first | apply rA | apply rB | apply rC)); exact HO_6.out) hb); have n2_ := aM (Kd.R_below (by (with_reducible repeat (first | apply rA | apply rB | apply rC)); exact HO266.out) hb); have n3_ := aM (Kd.R_below (by (with_reducible repeat (first | apply rA | apply rB | apply rC)); exact HO269.out) hb); have n4_ := aM (Kd.R_below (by (with_reducible repeat (first | apply rA | apply rB | apply rC)); exact HO272.out) hb); have n5_ := aM (Kd.R_below (by (with_reducible repeat (first | apply rA | apply rB | apply rC)); exact HO276.out) hb); have n6_ := aM (Kd.R_below (by (with_reducible repeat (first | apply rA | apply rB | apply rC)); exact HO279.out) hb); have n7_ := aM (Kd.R_below (by (with_reducible repeat (first | apply rA | apply rB | apply rC)); exact HO282.out) hb); have n8_ := aM (blk_below (g := gb192) (o := .cells #[.slice A0_0 l0_0.length c0_0, .slice A0_1 l0_1.length c0_1, .slice A0_2 l0_2.length c0_2, .int .i64 a0_3, .int .i64 a0_4] 25 (0, 0)) (by (with_reducible repeat (first | refine blk_drewN ?_ _ | refine blk_drew ?_ | refine blk_alloc ?_ _)); exact BK192.out) hb); have n9_ := aM (below_step (by repeat (first | (with_reducible first | exact HB.out | apply bA | apply bB | apply bC | refine bD ?_ GE192.out) | exact HB.out)) hb); clear HO_4; clear HO_6; clear HO266; clear HO269; clear HO272; clear HO276; clear HO279; clear HO282; clear BK192; clear HB; have HO_4 := n0_; have HO_6 := n1_; have HO266 := n2_; have HO269 := n3_; have HO272 := n4_; have HO276 := n5_; have HO279 := n6_; have HO282 := n7_; have BK192 := n8_; have HB := n9_; clear n0_ n1_ n2_ n3_ n4_ n5_ n6_ n7_ n8_ n9_; (try clear hb); (try clear hb2); (try clear hk); (try clear hi); obtain ⟨Ao152, co152, eo152⟩ := Kd.R_slice HO282.out; subst eo152) | ((with_reducible refine gate_callee (f := 33) rfl ?_); refine goesL_ (some 236) rfl rfl Try.func33 (by kernel_rfl) rfl #[.slice Ao152 t280.length co152] rfl (by (try simp only [List.map_toArray, List.map_cons, List.map_nil]); first | done | rfl) ?_; (with_reducible refine (span_Count.calls kj89 _ _ t280 t286 t287 _ ?side1 ?side2 A117.out).mono ?_); (case side1 => repeat (first | exact (Kd.R_reads' HO282.out).2.2 | (with_reducible refine Kd.C_alloc ?_ _) | (with_reducible refine Kd.C_drewN ?_ _) | (with_reducible refine Kd.C_drew ?_))); (case side2 => exact (Kd.R_reads' HO282.out).2.1); rintro e w153 ⟨rfl, hb⟩; refine ⟨_, rfl, ?_⟩; have n0_ := aM (Kd.R_below (by (with_reducible repeat (first | apply rA | apply rB | apply rC)); exact HO_4.out) hb); have n1_ := aM (Kd.R_below (by (with_reducible repeat (first | apply rA | apply rB | apply rC)); exact HO_6.out) hb); have n2_ := aM (Kd.R_below (by (with_reducible repeat (first | apply rA | apply rB | apply rC)); exact HO266.out) hb); have n3_ := aM (Kd.R_below (by (with_reducible repeat (first | apply rA | apply rB | apply rC)); exact HO269.out) hb); have n4_ := aM (Kd.R_below (by (with_reducible repeat (first | apply rA | apply rB | apply rC)); exact HO272.out) hb); have n5_ := aM (Kd.R_below (by (with_reducible repeat (first | apply rA | apply rB | apply rC)); exact HO276.out) hb); have n6_ := aM (Kd.R_below (by (with_reducible repeat (first | apply rA | apply rB | apply rC)); exact HO279.out) hb); have n7_ := aM (Kd.R_below (by (with_reducible repeat (first | apply rA | apply rB | apply rC)); exact HO282.out) hb); have n8_ := aM (blk_below (g := gb192) (o := .cells #[.slice A0_0 l0_0.length c0_0, .slice A0_1 l0_1.length c0_1, .slice A0_2 l0_2.length c0_2, .int .i64 a0_3, .int .i64 a0_4] 25 (0, 0)) (by (with_reducible repeat (first | refine blk_drewN ?_ _ | refine blk_drew ?_ | refine blk_alloc ?_ _)); exact BK192.out) hb); have n9_ := aM (below_step (by repeat (first | (with_reducible first | exact HB.out | apply bA | apply bB | apply bC | refine bD ?_ GE192.out) | exact HB.out)) hb); clear HO_4; clear HO_6; clear HO266; clear HO269; clear HO272; clear HO276; clear HO279; clear HO282; clear BK192; clear HB; have HO_4 := n0_; have HO_6 := n1_; have HO266 := n2_; have HO269 := n3_; have HO272 := n4_; have HO276 := n5_; have HO279 := n6_; have HO282 := n7_; have BK192 := n8_; have HB := n9_; clear n0_ n1_ n2_ n3_ n4_ n5_ n6_ n7_ n8_ n9_; (try clear hb); (try clear hb2); (try clear hk); (try clear hi)) | ((with_reducible refine gate_callee (f := 19) rfl ?_); refine goesL_ (some 240) rfl rfl Try.func19 (by kernel_rfl) rfl #[.int .i64 t273] rfl (by (try simp only [List.map_toArray, List.map_cons, List.map_nil]); first | done | rfl) ?_; (with_reducible refine (redraftlaw02_num.calls t273 t288 _ A118.out).mono ?_); rintro e w' ⟨rfl, ⟨nd, rfl⟩⟩; refine ⟨_, rfl, ?_⟩) | (go_at_call 19; (with_reducible refine (redraftlaw02_num.calls t283 t289 _ A120.out).mono ?_); rintro e w' ⟨rfl, ⟨nd, rfl⟩⟩) | (go_at_call 19; (with_reducible refine (redraftlaw02_num.calls t285 t290 _ A122.out).mono ?_); rintro e w' ⟨rfl, ⟨nd, rfl⟩⟩) | (go_at_call 19; (with_reducible refine (redraftlaw02_num.calls t287 t291 _ A124.out).mono ?_); rintro e w' ⟨rfl, ⟨nd, rfl⟩⟩))
              go_ret
              exact ⟨by first | rfl | (simp [errW_none, errW_some] <;> rfl) | (simp [*, errW_none, errW_some] <;> rfl), by repeat (first | (with_reducible first | exact HB.out | apply bA | apply bB | apply bC | refine bD ?_ GE192.out) | exact HB.out)⟩
             rw [if_pos c125] at H
             have c125b0 : (t291 == 0) = true := beq_iff_eq.mpr c125
             have c125b1 : (t291 != 0) = false := bne_eq_false_iff_eq.mpr c125
             clear c125
             obtain rfl := Option.some.inj H
             go_wp2_with (first | ((with_reducible refine gate_callee (f := 17) rfl ?_); refine goesL_ (some 215) rfl rfl Try.func17 (by kernel_rfl) rfl #[.slice Ao39 t199.length co39] rfl (by (try simp only [List.map_toArray, List.map_cons, List.map_nil]); first | done | rfl) ?_; (with_reducible refine (redraftlaw02_copied.calls _ _ t199 t264 _ ?side1 ?side2 A110.out).mono ?_); (case side1 => repeat (first | exact (Kd.R_reads' HO_4.out).2.2 | (with_reducible refine Kd.C_alloc ?_ _) | (with_reducible refine Kd.C_drewN ?_ _) | (with_reducible refine Kd.C_drew ?_))); (case side2 => exact (Kd.R_reads' HO_4.out).2.1); rintro e w126 ⟨v265, rfl, ho0, hb⟩; refine ⟨_, rfl, ?_⟩; have n0_ := aM (rE (by (with_reducible repeat (first | apply rA | apply rB | apply rC)); exact HO_4.out) (Kd.R_base ho0) hb); have n1_ := aM (rE (by (with_reducible repeat (first | apply rA | apply rB | apply rC)); exact HO_6.out) (Kd.R_base ho0) hb); have n2_ := aM (Kd.R_lower (Kd.R_new' (Kd.R_new' ho0 (Kd.R_lt (by (with_reducible repeat (first | apply rA | apply rB | apply rC)); exact HO_4.out))) (Kd.R_lt (by (with_reducible repeat (first | apply rA | apply rB | apply rC)); exact HO_6.out))) (below_size (by repeat (first | (with_reducible first | exact HB.out | apply bA | apply bB | apply bC | refine bD ?_ GE192.out) | exact HB.out)))); have n3_ := aM (blk_below (g := gb192) (o := .cells #[.slice A0_0 l0_0.length c0_0, .slice A0_1 l0_1.length c0_1, .slice A0_2 l0_2.length c0_2, .int .i64 a0_3, .int .i64 a0_4] 25 (0, 0)) (by (with_reducible repeat (first | refine blk_drewN ?_ _ | refine blk_drew ?_ | refine blk_alloc ?_ _)); exact BK192.out) hb); have n4_ := aM (below_step (by repeat (first | (with_reducible first | exact HB.out | apply bA | apply bB | apply bC | refine bD ?_ GE192.out) | exact HB.out)) hb); clear HO_4; clear HO_6; clear BK192; clear HB; have HO_4 := n0_; have HO_6 := n1_; have HO266 := n2_; have BK192 := n3_; have HB := n4_; clear n0_ n1_ n2_ n3_ n4_; (try clear hb); (try clear hb2); (try clear hk); (try clear hi); (try clear ho0)) | ((with_reducible refine gate_callee (f := 17) rfl ?_); refine goesL_ (some 217) rfl rfl Try.func17 (by kernel_rfl) rfl #[.slice Ao43 t209.length co43] rfl (by (try simp only [List.map_toArray, List.map_cons, List.map_nil]); first | done | rfl) ?_; (with_reducible refine (redraftlaw02_copied.calls _ _ t209 t267 _ ?side1 ?side2 A111.out).mono ?_); (case side1 => repeat (first | exact (Kd.R_reads' HO_6.out).2.2 | (with_reducible refine Kd.C_alloc ?_ _) | (with_reducible refine Kd.C_drewN ?_ _) | (with_reducible refine Kd.C_drew ?_))); (case side2 => exact (Kd.R_reads' HO_6.out).2.1); rintro e w127 ⟨v268, rfl, ho0, hb⟩; refine ⟨_, rfl, ?_⟩; have n0_ := aM (rE (by (with_reducible repeat (first | apply rA | apply rB | apply rC)); exact HO_4.out) (Kd.R_base ho0) hb); have n1_ := aM (rE (by (with_reducible repeat (first | apply rA | apply rB | apply rC)); exact HO_6.out) (Kd.R_base ho0) hb); have n2_ := aM (rE (by (with_reducible repeat (first | apply rA | apply rB | apply rC)); exact HO266.out) (Kd.R_base ho0) hb); have n3_ := aM (Kd.R_lower (Kd.R_new' (Kd.R_new' (Kd.R_new' ho0 (Kd.R_lt (by (with_reducible repeat (first | apply rA | apply rB | apply rC)); exact HO_4.out))) (Kd.R_lt (by (with_reducible repeat (first | apply rA | apply rB | apply rC)); exact HO_6.out))) (Kd.R_lt (by (with_reducible repeat (first | apply rA | apply rB | apply rC)); exact HO266.out))) (below_size (by repeat (first | (with_reducible first | exact HB.out | apply bA | apply bB | apply bC | refine bD ?_ GE192.out) | exact HB.out)))); have n4_ := aM (blk_below (g := gb192) (o := .cells #[.slice A0_0 l0_0.length c0_0, .slice A0_1 l0_1.length c0_1, .slice A0_2 l0_2.length c0_2, .int .i64 a0_3, .int .i64 a0_4] 25 (0, 0)) (by (with_reducible repeat (first | refine blk_drewN ?_ _ | refine blk_drew ?_ | refine blk_alloc ?_ _)); exact BK192.out) hb); have n5_ := aM (below_step (by repeat (first | (with_reducible first | exact HB.out | apply bA | apply bB | apply bC | refine bD ?_ GE192.out) | exact HB.out)) hb); clear HO_4; clear HO_6; clear HO266; clear BK192; clear HB; have HO_4 := n0_; have HO_6 := n1_; have HO266 := n2_; have HO269 := n3_; have BK192 := n4_; have HB := n5_; clear n0_ n1_ n2_ n3_ n4_ n5_; (try clear hb); (try clear hb2); (try clear hk); (try clear hi); (try clear ho0); obtain ⟨Ao128, co128, eo128⟩ := Kd.R_slice HO266.out; subst eo128; obtain ⟨Ao129, co129, eo129⟩ := Kd.R_slice HO269.out; subst eo129) | ((with_reducible refine gate_callee (f := 24) rfl ?_); refine goesL_ (some 218) rfl rfl Try.func24 (by kernel_rfl) rfl #[.slice Ao128 t264.length co128, .slice Ao129 t267.length co129] rfl (by (try simp only [List.map_toArray, List.map_cons, List.map_nil]); first | done | rfl) ?_; (with_reducible refine (span_Union.calls kj89 (fun k_ => some k_ = (.slice Ao128 t264.length co128 : Value).ownBlock) _ _ t264 (fun k_ => some k_ = (.slice Ao129 t267.length co129 : Value).ownBlock) _ _ t267 t270 t273 _ ?side1 ?side2 A112.out).mono ?_); (case side1 => exact Kd.R_V (Kd.R_tight rfl (Kd.R_types (HO266.out) BK192.out (by decide)))); (case side2 => exact Kd.R_V (Kd.R_tight rfl (Kd.R_types (HO269.out) BK192.out (by decide)))); rintro e w130 ⟨v271, rfl, ho0, hb⟩; refine ⟨_, rfl, ?_⟩; have n0_ := aM (rE (by (with_reducible repeat (first | apply rA | apply rB | apply rC)); exact HO_4.out) (Kd.R_base ho0) hb); have n1_ := aM (rE (by (with_reducible repeat (first | apply rA | apply rB | apply rC)); exact HO_6.out) (Kd.R_base ho0) hb); have n2_ := aM (rE (by (with_reducible repeat (first | apply rA | apply rB | apply rC)); exact HO266.out) (Kd.R_base ho0) hb); have n3_ := aM (rE (by (with_reducible repeat (first | apply rA | apply rB | apply rC)); exact HO269.out) (Kd.R_base ho0) hb); have n4_ := aM (Kd.R_lower (Kd.R_new' (Kd.R_new' (Kd.R_new' (Kd.R_new' (Kd.R_mono (ok' := fun k_ => True) ho0 (fun _ hk_ => trivial)) (Kd.R_lt (by (with_reducible repeat (first | apply rA | apply rB | apply rC)); exact HO_4.out))) (Kd.R_lt (by (with_reducible repeat (first | apply rA | apply rB | apply rC)); exact HO_6.out))) (Kd.R_lt (by (with_reducible repeat (first | apply rA | apply rB | apply rC)); exact HO266.out))) (Kd.R_lt (by (with_reducible repeat (first | apply rA | apply rB | apply rC)); exact HO269.out))) (below_size (by repeat (first | (with_reducible first | exact HB.out | apply bA | apply bB | apply bC | refine bD ?_ GE192.out) | exact HB.out)))); have n5_ := aM (blk_below (g := gb192) (o := .cells #[.slice A0_0 l0_0.length c0_0, .slice A0_1 l0_1.length c0_1, .slice A0_2 l0_2.length c0_2, .int .i64 a0_3, .int .i64 a0_4] 25 (0, 0)) (by (with_reducible repeat (first | refine blk_drewN ?_ _ | refine blk_drew ?_ | refine blk_alloc ?_ _)); exact BK192.out) hb); have n6_ := aM (below_step (by repeat (first | (with_reducible first | exact HB.out | apply bA | apply bB | apply bC | refine bD ?_ GE192.out) | exact HB.out)) hb); clear HO_4; clear HO_6; clear HO266; clear HO269; clear BK192; clear HB; have HO_4 := n0_; have HO_6 := n1_; have HO266 := n2_; have HO269 := n3_; have HO272 := n4_; have BK192 := n5_; have HB := n6_; clear n0_ n1_ n2_ n3_ n4_ n5_ n6_; (try clear hb); (try clear hb2); (try clear hk); (try clear hi); (try clear ho0)) | ((with_reducible refine gate_callee (f := 17) rfl ?_); refine goesL_ (some 223) rfl rfl Try.func17 (by kernel_rfl) rfl #[.slice Ao39 t199.length co39] rfl (by (try simp only [List.map_toArray, List.map_cons, List.map_nil]); first | done | rfl) ?_; (with_reducible refine (redraftlaw02_copied.calls _ _ t199 t274 _ ?side1 ?side2 A113.out).mono ?_); (case side1 => repeat (first | exact (Kd.R_reads' HO_4.out).2.2 | (with_reducible refine Kd.C_alloc ?_ _) | (with_reducible refine Kd.C_drewN ?_ _) | (with_reducible refine Kd.C_drew ?_))); (case side2 => exact (Kd.R_reads' HO_4.out).2.1); rintro e w131 ⟨v275, rfl, ho0, hb⟩; refine ⟨_, rfl, ?_⟩; have n0_ := aM (rE (by (with_reducible repeat (first | apply rA | apply rB | apply rC)); exact HO_4.out) (Kd.R_base ho0) hb); have n1_ := aM (rE (by (with_reducible repeat (first | apply rA | apply rB | apply rC)); exact HO_6.out) (Kd.R_base ho0) hb); have n2_ := aM (rE (by (with_reducible repeat (first | apply rA | apply rB | apply rC)); exact HO266.out) (Kd.R_base ho0) hb); have n3_ := aM (rE (by (with_reducible repeat (first | apply rA | apply rB | apply rC)); exact HO269.out) (Kd.R_base ho0) hb); have n4_ := aM (rE (by (with_reducible repeat (first | apply rA | apply rB | apply rC)); exact HO272.out) (Kd.R_base ho0) hb); have n5_ := aM (Kd.R_lower (Kd.R_new' (Kd.R_new' (Kd.R_new' (Kd.R_new' (Kd.R_new' ho0 (Kd.R_lt (by (with_reducible repeat (first | apply rA | apply rB | apply rC)); exact HO_4.out))) (Kd.R_lt (by (with_reducible repeat (first | apply rA | apply rB | apply rC)); exact HO_6.out))) (Kd.R_lt (by (with_reducible repeat (first | apply rA | apply rB | apply rC)); exact HO266.out))) (Kd.R_lt (by (with_reducible repeat (first | apply rA | apply rB | apply rC)); exact HO269.out))) (Kd.R_lt (by (with_reducible repeat (first | apply rA | apply rB | apply rC)); exact HO272.out))) (below_size (by repeat (first | (with_reducible first | exact HB.out | apply bA | apply bB | apply bC | refine bD ?_ GE192.out) | exact HB.out)))); have n6_ := aM (blk_below (g := gb192) (o := .cells #[.slice A0_0 l0_0.length c0_0, .slice A0_1 l0_1.length c0_1, .slice A0_2 l0_2.length c0_2, .int .i64 a0_3, .int .i64 a0_4] 25 (0, 0)) (by (with_reducible repeat (first | refine blk_drewN ?_ _ | refine blk_drew ?_ | refine blk_alloc ?_ _)); exact BK192.out) hb); have n7_ := aM (below_step (by repeat (first | (with_reducible first | exact HB.out | apply bA | apply bB | apply bC | refine bD ?_ GE192.out) | exact HB.out)) hb); clear HO_4; clear HO_6; clear HO266; clear HO269; clear HO272; clear BK192; clear HB; have HO_4 := n0_; have HO_6 := n1_; have HO266 := n2_; have HO269 := n3_; have HO272 := n4_; have HO276 := n5_; have BK192 := n6_; have HB := n7_; clear n0_ n1_ n2_ n3_ n4_ n5_ n6_ n7_; (try clear hb); (try clear hb2); (try clear hk); (try clear hi); (try clear ho0)) | ((with_reducible refine gate_callee (f := 17) rfl ?_); refine goesL_ (some 225) rfl rfl Try.func17 (by kernel_rfl) rfl #[.slice Ao43 t209.length co43] rfl (by (try simp only [List.map_toArray, List.map_cons, List.map_nil]); first | done | rfl) ?_; (with_reducible refine (redraftlaw02_copied.calls _ _ t209 t277 _ ?side1 ?side2 A114.out).mono ?_); (case side1 => repeat (first | exact (Kd.R_reads' HO_6.out).2.2 | (with_reducible refine Kd.C_alloc ?_ _) | (with_reducible refine Kd.C_drewN ?_ _) | (with_reducible refine Kd.C_drew ?_))); (case side2 => exact (Kd.R_reads' HO_6.out).2.1); rintro e w132 ⟨v278, rfl, ho0, hb⟩; refine ⟨_, rfl, ?_⟩; have n0_ := aM (rE (by (with_reducible repeat (first | apply rA | apply rB | apply rC)); exact HO_4.out) (Kd.R_base ho0) hb); have n1_ := aM (rE (by (with_reducible repeat (first | apply rA | apply rB | apply rC)); exact HO_6.out) (Kd.R_base ho0) hb); have n2_ := aM (rE (by (with_reducible repeat (first | apply rA | apply rB | apply rC)); exact HO266.out) (Kd.R_base ho0) hb); have n3_ := aM (rE (by (with_reducible repeat (first | apply rA | apply rB | apply rC)); exact HO269.out) (Kd.R_base ho0) hb); have n4_ := aM (rE (by (with_reducible repeat (first | apply rA | apply rB | apply rC)); exact HO272.out) (Kd.R_base ho0) hb); have n5_ := aM (rE (by (with_reducible repeat (first | apply rA | apply rB | apply rC)); exact HO276.out) (Kd.R_base ho0) hb); have n6_ := aM (Kd.R_lower (Kd.R_new' (Kd.R_new' (Kd.R_new' (Kd.R_new' (Kd.R_new' (Kd.R_new' ho0 (Kd.R_lt (by (with_reducible repeat (first | apply rA | apply rB | apply rC)); exact HO_4.out))) (Kd.R_lt (by (with_reducible repeat (first | apply rA | apply rB | apply rC)); exact HO_6.out))) (Kd.R_lt (by (with_reducible repeat (first | apply rA | apply rB | apply rC)); exact HO266.out))) (Kd.R_lt (by (with_reducible repeat (first | apply rA | apply rB | apply rC)); exact HO269.out))) (Kd.R_lt (by (with_reducible repeat (first | apply rA | apply rB | apply rC)); exact HO272.out))) (Kd.R_lt (by (with_reducible repeat (first | apply rA | apply rB | apply rC)); exact HO276.out))) (below_size (by repeat (first | (with_reducible first | exact HB.out | apply bA | apply bB | apply bC | refine bD ?_ GE192.out) | exact HB.out)))); have n7_ := aM (blk_below (g := gb192) (o := .cells #[.slice A0_0 l0_0.length c0_0, .slice A0_1 l0_1.length c0_1, .slice A0_2 l0_2.length c0_2, .int .i64 a0_3, .int .i64 a0_4] 25 (0, 0)) (by (with_reducible repeat (first | refine blk_drewN ?_ _ | refine blk_drew ?_ | refine blk_alloc ?_ _)); exact BK192.out) hb); have n8_ := aM (below_step (by repeat (first | (with_reducible first | exact HB.out | apply bA | apply bB | apply bC | refine bD ?_ GE192.out) | exact HB.out)) hb); clear HO_4; clear HO_6; clear HO266; clear HO269; clear HO272; clear HO276; clear BK192; clear HB; have HO_4 := n0_; have HO_6 := n1_; have HO266 := n2_; have HO269 := n3_; have HO272 := n4_; have HO276 := n5_; have HO279 := n6_; have BK192 := n7_; have HB := n8_; clear n0_ n1_ n2_ n3_ n4_ n5_ n6_ n7_ n8_; (try clear hb); (try clear hb2); (try clear hk); (try clear hi); (try clear ho0); obtain ⟨Ao133, co133, eo133⟩ := Kd.R_slice HO276.out; subst eo133; obtain ⟨Ao134, co134, eo134⟩ := Kd.R_slice HO279.out; subst eo134) | ((with_reducible refine gate_callee (f := 32) rfl ?_); refine goesL_ (some 226) rfl rfl Try.func32 (by kernel_rfl) rfl #[.slice Ao133 t274.length co133, .slice Ao134 t277.length co134] rfl (by (try simp only [List.map_toArray, List.map_cons, List.map_nil]); first | done | rfl) ?_; (with_reducible refine (span_Meet.calls kj89 (fun k_ => some k_ = (.slice Ao133 t274.length co133 : Value).ownBlock) _ _ t274 (fun k_ => some k_ = (.slice Ao134 t277.length co134 : Value).ownBlock) _ _ t277 t280 t283 _ ?side1 ?side2 A115.out).mono ?_); (case side1 => exact Kd.R_V (Kd.R_tight rfl (Kd.R_types (HO276.out) BK192.out (by decide)))); (case side2 => exact Kd.R_V (Kd.R_tight rfl (Kd.R_types (HO279.out) BK192.out (by decide)))); rintro e w135 ⟨v281, rfl, ho0, hb⟩; refine ⟨_, rfl, ?_⟩; have n0_ := aM (rE (by (with_reducible repeat (first | apply rA | apply rB | apply rC)); exact HO_4.out) (Kd.R_base ho0) hb); have n1_ := aM (rE (by (with_reducible repeat (first | apply rA | apply rB | apply rC)); exact HO_6.out) (Kd.R_base ho0) hb); have n2_ := aM (rE (by (with_reducible repeat (first | apply rA | apply rB | apply rC)); exact HO266.out) (Kd.R_base ho0) hb); have n3_ := aM (rE (by (with_reducible repeat (first | apply rA | apply rB | apply rC)); exact HO269.out) (Kd.R_base ho0) hb); have n4_ := aM (rE (by (with_reducible repeat (first | apply rA | apply rB | apply rC)); exact HO272.out) (Kd.R_base ho0) hb); have n5_ := aM (rE (by (with_reducible repeat (first | apply rA | apply rB | apply rC)); exact HO276.out) (Kd.R_base ho0) hb); have n6_ := aM (rE (by (with_reducible repeat (first | apply rA | apply rB | apply rC)); exact HO279.out) (Kd.R_base ho0) hb); have n7_ := aM (Kd.R_lower (Kd.R_new' (Kd.R_new' (Kd.R_new' (Kd.R_new' (Kd.R_new' (Kd.R_new' (Kd.R_new' (Kd.R_mono (ok' := fun k_ => True) ho0 (fun _ hk_ => trivial)) (Kd.R_lt (by (with_reducible repeat (first | apply rA | apply rB | apply rC)); exact HO_4.out))) (Kd.R_lt (by (with_reducible repeat (first | apply rA | apply rB | apply rC)); exact HO_6.out))) (Kd.R_lt (by (with_reducible repeat (first | apply rA | apply rB | apply rC)); exact HO266.out))) (Kd.R_lt (by (with_reducible repeat (first | apply rA | apply rB | apply rC)); exact HO269.out))) (Kd.R_lt (by (with_reducible repeat (first | apply rA | apply rB | apply rC)); exact HO272.out))) (Kd.R_lt (by (with_reducible repeat (first | apply rA | apply rB | apply rC)); exact HO276.out))) (Kd.R_lt (by (with_reducible repeat (first | apply rA | apply rB | apply rC)); exact HO279.out))) (below_size (by repeat (first | (with_reducible first | exact HB.out | apply bA | apply bB | apply bC | refine bD ?_ GE192.out) | exact HB.out)))); have n8_ := aM (blk_below (g := gb192) (o := .cells #[.slice A0_0 l0_0.length c0_0, .slice A0_1 l0_1.length c0_1, .slice A0_2 l0_2.length c0_2, .int .i64 a0_3, .int .i64 a0_4] 25 (0, 0)) (by (with_reducible repeat (first | refine blk_drewN ?_ _ | refine blk_drew ?_ | refine blk_alloc ?_ _)); exact BK192.out) hb); have n9_ := aM (below_step (by repeat (first | (with_reducible first | exact HB.out | apply bA | apply bB | apply bC | refine bD ?_ GE192.out) | exact HB.out)) hb); clear HO_4; clear HO_6; clear HO266; clear HO269; clear HO272; clear HO276; clear HO279; clear BK192; clear HB; have HO_4 := n0_; have HO_6 := n1_; have HO266 := n2_; have HO269 := n3_; have HO272 := n4_; have HO276 := n5_; have HO279 := n6_; have HO282 := n7_; have BK192 := n8_; have HB := n9_; clear n0_ n1_ n2_ n3_ n4_ n5_ n6_ n7_ n8_ n9_; (try clear hb); (try clear hb2); (try clear hk); (try clear hi); (try clear ho0); obtain ⟨Ao136, co136, eo136⟩ := Kd.R_slice HO272.out; subst eo136) | ((with_reducible refine gate_callee (f := 33) rfl ?_); refine goesL_ (some 231) rfl rfl Try.func33 (by kernel_rfl) rfl #[.slice Ao136 t270.length co136] rfl (by (try simp only [List.map_toArray, List.map_cons, List.map_nil]); first | done | rfl) ?_; (with_reducible refine (span_Count.calls kj89 _ _ t270 t284 t285 _ ?side1 ?side2 A116.out).mono ?_); (case side1 => repeat (first | exact (Kd.R_reads' HO272.out).2.2 | (with_reducible refine Kd.C_alloc ?_ _) | (with_reducible refine Kd.C_drewN ?_ _) | (with_reducible refine Kd.C_drew ?_))); (case side2 => exact (Kd.R_reads' HO272.out).2.1); rintro e w137 ⟨rfl, hb⟩; refine ⟨_, rfl, ?_⟩; have n0_ := aM (Kd.R_below (by (with_reducible repeat (first | apply rA | apply rB | apply rC)); exact HO_4.out) hb); have n1_ := aM (Kd.R_below (by (with_reducible repeat (first | apply rA | apply rB | apply rC)); exact HO_6.out) hb); have n2_ := aM (Kd.R_below (by (with_reducible repeat (first | apply rA | apply rB | apply rC)); exact HO266.out) hb); have n3_ := aM (Kd.R_below (by (with_reducible repeat (first | apply rA | apply rB | apply rC)); exact HO269.out) hb); have n4_ := aM (Kd.R_below (by (with_reducible repeat (first | apply rA | apply rB | apply rC)); exact HO272.out) hb); have n5_ := aM (Kd.R_below (by (with_reducible repeat (first | apply rA | apply rB | apply rC)); exact HO276.out) hb); have n6_ := aM (Kd.R_below (by (with_reducible repeat (first | apply rA | apply rB | apply rC)); exact HO279.out) hb); have n7_ := aM (Kd.R_below (by (with_reducible repeat (first | apply rA | apply rB | apply rC)); exact HO282.out) hb); have n8_ := aM (blk_below (g := gb192) (o := .cells #[.slice A0_0 l0_0.length c0_0, .slice A0_1 l0_1.length c0_1, .slice A0_2 l0_2.length c0_2, .int .i64 a0_3, .int .i64 a0_4] 25 (0, 0)) (by (with_reducible repeat (first | refine blk_drewN ?_ _ | refine blk_drew ?_ | refine blk_alloc ?_ _)); exact BK192.out) hb); have n9_ := aM (below_step (by repeat (first | (with_reducible first | exact HB.out | apply bA | apply bB | apply bC | refine bD ?_ GE192.out) | exact HB.out)) hb); clear HO_4; clear HO_6; clear HO266; clear HO269; clear HO272; clear HO276; clear HO279; clear HO282; clear BK192; clear HB; have HO_4 := n0_; have HO_6 := n1_; have HO266 := n2_; have HO269 := n3_; have HO272 := n4_; have HO276 := n5_; have HO279 := n6_; have HO282 := n7_; have BK192 := n8_; have HB := n9_; clear n0_ n1_ n2_ n3_ n4_ n5_ n6_ n7_ n8_ n9_; (try clear hb); (try clear hb2); (try clear hk); (try clear hi); obtain ⟨Ao138, co138, eo138⟩ := Kd.R_slice HO282.out; subst eo138) | ((with_reducible refine gate_callee (f := 33) rfl ?_); refine goesL_ (some 236) rfl rfl Try.func33 (by kernel_rfl) rfl #[.slice Ao138 t280.length co138] rfl (by (try simp only [List.map_toArray, List.map_cons, List.map_nil]); first | done | rfl) ?_; (with_reducible refine (span_Count.calls kj89 _ _ t280 t286 t287 _ ?side1 ?side2 A117.out).mono ?_); (case side1 => repeat (first | exact (Kd.R_reads' HO282.out).2.2 | (with_reducible refine Kd.C_alloc ?_ _) | (with_reducible refine Kd.C_drewN ?_ _) | (with_reducible refine Kd.C_drew ?_))); (case side2 => exact (Kd.R_reads' HO282.out).2.1); rintro e w139 ⟨rfl, hb⟩; refine ⟨_, rfl, ?_⟩; have n0_ := aM (Kd.R_below (by (with_reducible repeat (first | apply rA | apply rB | apply rC)); exact HO_4.out) hb); have n1_ := aM (Kd.R_below (by (with_reducible repeat (first | apply rA | apply rB | apply rC)); exact HO_6.out) hb); have n2_ := aM (Kd.R_below (by (with_reducible repeat (first | apply rA | apply rB | apply rC)); exact HO266.out) hb); have n3_ := aM (Kd.R_below (by (with_reducible repeat (first | apply rA | apply rB | apply rC)); exact HO269.out) hb); have n4_ := aM (Kd.R_below (by (with_reducible repeat (first | apply rA | apply rB | apply rC)); exact HO272.out) hb); have n5_ := aM (Kd.R_below (by (with_reducible repeat (first | apply rA | apply rB | apply rC)); exact HO276.out) hb); have n6_ := aM (Kd.R_below (by (with_reducible repeat (first | apply rA | apply rB | apply rC)); exact HO279.out) hb); have n7_ := aM (Kd.R_below (by (with_reducible repeat (first | apply rA | apply rB | apply rC)); exact HO282.out) hb); have n8_ := aM (blk_below (g := gb192) (o := .cells #[.slice A0_0 l0_0.length c0_0, .slice A0_1 l0_1.length c0_1, .slice A0_2 l0_2.length c0_2, .int .i64 a0_3, .int .i64 a0_4] 25 (0, 0)) (by (with_reducible repeat (first | refine blk_drewN ?_ _ | refine blk_drew ?_ | refine blk_alloc ?_ _)); exact BK192.out) hb); have n9_ := aM (below_step (by repeat (first | (with_reducible first | exact HB.out | apply bA | apply bB | apply bC | refine bD ?_ GE192.out) | exact HB.out)) hb); clear HO_4; clear HO_6; clear HO266; clear HO269; clear HO272; clear HO276; clear HO279; clear HO282; clear BK192; clear HB; have HO_4 := n0_; have HO_6 := n1_; have HO266 := n2_; have HO269 := n3_; have HO272 := n4_; have HO276 := n5_; have HO279 := n6_; have HO282 := n7_; have BK192 := n8_; have HB := n9_; clear n0_ n1_ n2_ n3_ n4_ n5_ n6_ n7_ n8_ n9_; (try clear hb); (try clear hb2); (try clear hk); (try clear hi)) | ((with_reducible refine gate_callee (f := 19) rfl ?_); refine goesL_ (some 240) rfl rfl Try.func19 (by kernel_rfl) rfl #[.int .i64 t273] rfl (by (try simp only [List.map_toArray, List.map_cons, List.map_nil]); first | done | rfl) ?_; (with_reducible refine (redraftlaw02_num.calls t273 t288 _ A118.out).mono ?_); rintro e w' ⟨rfl, ⟨nd, rfl⟩⟩; refine ⟨_, rfl, ?_⟩) | (go_at_call 19; (with_reducible refine (redraftlaw02_num.calls t283 t289 _ A120.out).mono ?_); rintro e w' ⟨rfl, ⟨nd, rfl⟩⟩) | (go_at_call 19; (with_reducible refine (redraftlaw02_num.calls t285 t290 _ A122.out).mono ?_); rintro e w' ⟨rfl, ⟨nd, rfl⟩⟩) | (go_at_call 19; (with_reducible refine (redraftlaw02_num.calls t287 t291 _ A124.out).mono ?_); rintro e w' ⟨rfl, ⟨nd, rfl⟩⟩))
             go_ret
             exact ⟨by first | rfl | (simp [errW_none, errW_some] <;> rfl) | (simp [*, errW_none, errW_some] <;> rfl), by repeat (first | (with_reducible first | exact HB.out | apply bA | apply bB | apply bC | refine bD ?_ GE192.out) | exact HB.out)⟩
end Go.Proofs.Ytmidiifgdloojaa.Kq
end
