/- SpanSets, for every script: the law answers true and its argument reads as before; no condition. -/
import Derived.Test.YtmidiifgdloojaaClaimSets4
section
namespace Go.Proofs.Ytmidiifgdloojaa.SpanFns
open Go.RowKit Go.Proofs.YtmidiifgdloojaaW.PrintWords Go.Proofs.YtmidiifgdloojaaW.PrintMore Go.Proofs.Ytmidiifgdloojaa.Pr Go.Proofs.Ytmidiifgdloojaa.SpanMath
theorem e_succ (pre : List S36) (r : S36) (h : pre.length < 8796093022208) : wrap64 ((pre.length : Int) + 1) = ((pre ++ [r]).length : Int) := by rw [w64 (by omega) (by omega)]; simp
end Go.Proofs.Ytmidiifgdloojaa.SpanFns
end
section
namespace Go.Proofs.Ytmidiifgdloojaa.SpanFns
open Go.RowKit Go.Proofs.YtmidiifgdloojaaW.PrintWords Go.Proofs.YtmidiifgdloojaaW.PrintMore Go.Proofs.Ytmidiifgdloojaa.Pr Go.Proofs.Ytmidiifgdloojaa.SpanMath
def few (l : List S36) : List S36 × Int := if l.length > 32768 then ([], 21) else (l, 0)
theorem bounded_few (l : List S36) : ((span_bounded.f l).bind fun x => some (x.1, x.2)) = some (few l) := by
  rw [bounded_f]
  unfold few
  simp only [Option.bind_some]
  split <;> rfl
theorem drop_one (r : S36) (l : List S36) : (r :: l).drop 1 = l := rfl
theorem rd_zero (r : S36) (l : List S36) : rd_T36 (r :: l) 0 = r := rfl
theorem Union_l0 : ∀ (n : Nat) (a b acc : List S36) (k : Nat), a.length + b.length = n → n ≤ 65536 → acc.length + n ≤ 65536 → 3 * n + 3 ≤ k →
    span_Union.l0 k a b acc = some (few (adds acc (mergeS a b))) := by
  intro n
  induction n with
  | zero =>
    intro a b acc k hn _ ha hk
    obtain ⟨k, rfl⟩ : ∃ m, k = m + 3 := ⟨k - 3, by omega⟩
    obtain rfl : a = [] := List.length_eq_zero_iff.1 (by omega)
    obtain rfl : b = [] := List.length_eq_zero_iff.1 (by omega)
    simp only [span_Union.l0]
    rw [if_neg (by simp)]
    simp only [span_Union.j1]
    rw [if_neg (by simp), bounded_few, mergeS_nil, adds_nil]
  | succ n ih =>
    intro a b acc k hn hb ha hk
    obtain ⟨k, rfl⟩ : ∃ m, k = m + 3 := ⟨k - 3, by omega⟩
    have hsh : Short acc := by show acc.length < _; omega
    have step : span_Union.j1 (k + 2) a b acc true = some (few (adds acc (mergeS a b))) := by
      have takeA : ∀ (r : S36) (a' : List S36), a = r :: a' → (mergeS a b = r :: mergeS a' b) → span_Union.j2 (k + 1) a b acc true = some (few (adds acc (mergeS a b))) := by
        rintro r a' rfl hm
        simp only [span_Union.j2, if_true]
        simp only [List.length_cons] at hn
        rw [if_pos (by simp only [List.length_cons]; omega), rd_zero, add_f hsh]
        simp only [Option.bind_some]
        rw [if_pos (by simp only [List.length_cons]; omega), drop_one, hm, adds_cons]
        have hl := addS_len acc r.f0 r.f1
        exact ih a' b _ k (by omega) (by omega) (by omega) (by omega)
      have takeB : ∀ (s : S36) (b' : List S36), b = s :: b' → (mergeS a b = s :: mergeS a b') → span_Union.j2 (k + 1) a b acc false = some (few (adds acc (mergeS a b))) := by
        rintro s b' rfl hm
        simp only [span_Union.j2]
        simp only [List.length_cons] at hn
        rw [if_neg (by simp), if_pos (by simp only [List.length_cons]; omega), rd_zero, add_f hsh]
        simp only [Option.bind_some]
        rw [if_pos (by simp only [List.length_cons]; omega), drop_one, hm, adds_cons]
        have hl := addS_len acc s.f0 s.f1
        exact ih a b' _ k (by omega) (by omega) (by omega) (by omega)
      simp only [span_Union.j1, if_true]
      cases b with
      | nil =>
        rw [if_pos (by simp)]
        cases a with
        | nil => simp at hn
        | cons r a' => exact takeA r a' rfl (by rw [mergeS_nil', mergeS_nil'])
      | cons s b' =>
        rw [if_neg (by simp only [List.length_cons]; omega)]
        cases a with
        | nil =>
          rw [if_neg (by simp)]
          exact takeB s b' rfl (by rw [mergeS_nil, mergeS_nil])
        | cons r a' =>
          rw [if_pos (by simp only [List.length_cons]; omega), if_pos (by simp only [List.length_cons]; omega), if_pos (by simp only [List.length_cons]; omega), rd_zero, rd_zero]
          by_cases c : r.f0 ≤ s.f0
          · rw [show decide (r.f0 ≤ s.f0) = true from by simpa using c]
            exact takeA r a' rfl (mergeS_le _ _ c)
          · rw [show decide (r.f0 ≤ s.f0) = false from by simpa using c]
            exact takeB s b' rfl (mergeS_gt _ _ c)
    simp only [span_Union.l0]
    cases a with
    | nil =>
      rw [if_neg (by simp)]
      rw [show decide ((b.length : Int) > 0) = true from by simp at hn; simp; omega]
      exact step
    | cons r a' =>
      rw [if_pos (by simp only [List.length_cons]; omega)]
      exact step
def unionA (a b : List S36) : List S36 × Int := if bothS a b = 0 then few (unionS a b) else ([], bothS a b)
theorem Union_ev {a b : List S36} (ha : Short a) (hb : Short b) : Ev (fun k => span_Union.f k a b) (unionA a b) := by
  refine ⟨3 * (a.length + b.length) + 3, fun k hk => ?_⟩
  dsimp only
  unfold span_Union.f unionA
  rw [both_f ha hb (by omega)]
  simp only [Option.bind_some]
  by_cases g : bothS a b = 0
  · obtain ⟨ga, gb⟩ := bothS_good.1 g
    have := ga.1
    have := gb.1
    rw [if_pos g, if_pos g, Union_l0 (a.length + b.length) a b [] k rfl (by omega) (by simp; omega) hk]
    rfl
  · rw [if_neg g, if_neg g]
theorem Meet_l0 : ∀ (n : Nat) (a b acc : List S36) (k : Nat), a.length + b.length ≤ n → n ≤ 65536 → acc.length + n ≤ 65536 → 2 * n + 2 ≤ k →
    span_Meet.l0 k a b acc = some (few (adds acc (meetP a b))) := by
  intro n
  induction n with
  | zero =>
    intro a b acc k hn _ ha hk
    obtain ⟨k, rfl⟩ : ∃ m, k = m + 2 := ⟨k - 2, by omega⟩
    obtain rfl : a = [] := List.length_eq_zero_iff.1 (by omega)
    simp only [span_Meet.l0]
    rw [if_neg (by simp)]
    simp only [span_Meet.j1]
    rw [if_neg (by simp), bounded_few, meetP_nil, adds_nil]
  | succ n ih =>
    intro a b acc k hn hb ha hk
    obtain ⟨k, rfl⟩ : ∃ m, k = m + 2 := ⟨k - 2, by omega⟩
    have hsh : Short acc := by show acc.length < _; omega
    cases a with
    | nil =>
      simp only [span_Meet.l0]
      rw [if_neg (by simp)]
      simp only [span_Meet.j1]
      rw [if_neg (by simp), bounded_few, meetP_nil, adds_nil]
    | cons r a =>
      cases b with
      | nil =>
        simp only [span_Meet.l0]
        rw [if_pos (by simp only [List.length_cons]; omega)]
        simp only [span_Meet.j1]
        rw [if_neg (by simp), bounded_few, meetP_nil', adds_nil]
      | cons s b =>
        simp only [List.length_cons] at hn
        have hl := addS_len acc (mx r.f0 s.f0) (mn r.f1 s.f1)
        simp only [span_Meet.l0]
        rw [if_pos (by simp only [List.length_cons]; omega)]
        simp only [span_Meet.j1]
        rw [if_pos (by simp only [List.length_cons, decide_eq_true_eq]; omega), if_pos (by simp only [List.length_cons]; omega), if_pos (by simp only [List.length_cons]; omega)]
        rw [rd_zero, rd_zero, add_f hsh]
        simp only [Option.bind_some]
        rw [meetP_cons, adds_cons]
        by_cases c : r.f1 ≤ s.f1
        · rw [if_pos c, if_pos (by simp only [List.length_cons]; omega), drop_one, if_pos c]
          exact ih a (s :: b) _ k (by simp only [List.length_cons]; omega) (by omega) (by omega) (by omega)
        · rw [if_neg c, if_pos (by simp only [List.length_cons]; omega), drop_one, if_neg c]
          exact ih (r :: a) b _ k (by simp only [List.length_cons]; omega) (by omega) (by omega) (by omega)
def meetA (a b : List S36) : List S36 × Int := if bothS a b = 0 then few (meetS a b) else ([], bothS a b)
theorem Meet_ev {a b : List S36} (ha : Short a) (hb : Short b) : Ev (fun k => span_Meet.f k a b) (meetA a b) := by
  refine ⟨3 * (a.length + b.length) + 3, fun k hk => ?_⟩
  dsimp only
  unfold span_Meet.f meetA
  rw [both_f ha hb (by omega)]
  simp only [Option.bind_some]
  by_cases g : bothS a b = 0
  · obtain ⟨ga, gb⟩ := bothS_good.1 g
    have := ga.1
    have := gb.1
    rw [if_pos g, if_pos g, Meet_l0 (a.length + b.length) a b [] k (Nat.le_refl _) (by omega) (by simp; omega) (by omega)]
    rfl
  · rw [if_neg g, if_neg g]
end Go.Proofs.Ytmidiifgdloojaa.SpanFns
end
section
namespace Go.Proofs.Ytmidiifgdloojaa.SpanFns
open Go.RowKit Go.Proofs.YtmidiifgdloojaaW.PrintWords Go.Proofs.YtmidiifgdloojaaW.PrintMore Go.Proofs.Ytmidiifgdloojaa.Pr Go.Proofs.Ytmidiifgdloojaa.SpanMath
theorem Minus_l2 {b a : List S36} {F : List S36 → List S36 × Int} {i rlo rhi : Int} : ∀ (suf pre acc : List S36) (lo : Int), (pre ++ suf).length ≤ 32768 → acc.length + suf.length + 1 ≤ 8796093022207 →
    (∀ t : List S36, t.length ≤ acc.length + suf.length + 1 → Ev (fun k => span_Minus.l0 k b t a (a.length : Int) (wrap64 (i + 1))) (F t)) →
    Ev (fun k => span_Minus.l2 k b acc lo a (a.length : Int) i (pre ++ suf) ((pre ++ suf).length : Int) (pre.length : Int) rlo rhi) (F (adds acc (minusIn lo rhi suf)))
  | [], pre, acc, lo, hl, ha, hk => by
    have hsh : Short acc := by simp at ha; show acc.length < _; omega
    refine Ev.step (f := fun k => span_Minus.l0 k b (addS acc lo rhi) a (a.length : Int) (wrap64 (i + 1))) (fun k => ?_) ?_
    · simp only [span_Minus.l2]
      rw [if_neg (by simp), add_f hsh]
      rfl
    · exact hk _ (by have := addS_len acc lo rhi; simp; omega)
  | s :: suf, pre, acc, lo, hl, ha, hk => by
    have hl1 : (pre ++ s :: suf).length = pre.length + 1 + suf.length := by simp; omega
    simp only [List.length_cons] at ha hk
    have hsh : Short acc := by show acc.length < _; omega
    by_cases c : s.f0 ≥ rhi
    · refine Ev.step (f := fun k => span_Minus.l0 k b (addS acc lo rhi) a (a.length : Int) (wrap64 (i + 1))) (fun k => ?_) ?_
      · simp only [span_Minus.l2]
        rw [if_pos (by omega), if_pos (by omega), if_pos (by omega), rd_at, if_pos c, add_f hsh]
        rfl
      · rw [show minusIn lo rhi (s :: suf) = [⟨lo, rhi⟩] from by rw [minusIn, if_pos c]]
        exact hk _ (by have := addS_len acc lo rhi; omega)
    · have hlen := addS_len acc lo s.f0
      refine Ev.step (f := fun k => span_Minus.l2 k b (addS acc lo s.f0) s.f1 a (a.length : Int) i (pre ++ s :: suf) ((pre ++ s :: suf).length : Int) ((pre ++ [s]).length : Int) rlo rhi) (fun k => ?_) ?_
      · simp only [span_Minus.l2]
        rw [if_pos (by omega), if_pos (by omega), if_pos (by omega), rd_at, if_neg c, add_f hsh]
        simp only [Option.bind_some]
        rw [e_succ pre s (by omega)]
      · rw [show minusIn lo rhi (s :: suf) = ⟨lo, s.f0⟩ :: minusIn s.f1 rhi suf from by rw [minusIn, if_neg c], adds_cons]
        have ih := Minus_l2 (b := b) (a := a) (F := F) (i := i) (rlo := rlo) (rhi := rhi) suf (pre ++ [s]) (addS acc lo s.f0) s.f1 (by rw [List.append_assoc]; exact hl) (by omega) (fun t ht => hk t (by omega))
        rw [List.append_assoc, List.singleton_append] at ih
        exact ih
theorem Minus_l1 {a : List S36} {i rlo rhi lo : Int} {R : List S36 × Int} {acc : List S36} : ∀ (b : List S36),
    Ev (fun k => span_Minus.j2 k (dropTo b lo) acc lo a (a.length : Int) i rlo rhi) R → Ev (fun k => span_Minus.l1 k b acc lo a (a.length : Int) i rlo rhi) R
  | [], h => Ev.step (fun k => by simp only [span_Minus.l1]; rw [if_neg (by simp)]; rfl) h
  | s :: b, h => by
    by_cases c : s.f1 ≤ lo
    · rw [dropTo_cons_le c] at h
      refine Ev.step (f := fun k => span_Minus.l1 k b acc lo a (a.length : Int) i rlo rhi) (fun k => ?_) (Minus_l1 b h)
      simp only [span_Minus.l1]
      rw [if_pos (by simp only [List.length_cons]; omega), if_pos (by simp only [List.length_cons]; omega), rd_zero, if_pos c, if_pos (by simp only [List.length_cons]; omega), drop_one]
    · rw [dropTo_cons_gt c] at h
      refine Ev.step (fun k => ?_) h
      simp only [span_Minus.l1]
      rw [if_pos (by simp only [List.length_cons]; omega), if_pos (by simp only [List.length_cons]; omega), rd_zero, if_neg c]
theorem dropTo_len (b : List S36) (lo : Int) : (dropTo b lo).length ≤ b.length := by
  induction b with
  | nil => simp [dropTo]
  | cons s b ih =>
    by_cases c : s.f1 ≤ lo
    · rw [dropTo_cons_le c]; simp only [List.length_cons]; omega
    · rw [dropTo_cons_gt c]; exact Nat.le_refl _
theorem Minus_l0 : ∀ (suf pre b acc : List S36), (pre ++ suf).length ≤ 32768 → b.length ≤ 32768 → acc.length ≤ 32769 * pre.length →
    Ev (fun k => span_Minus.l0 k b acc (pre ++ suf) ((pre ++ suf).length : Int) (pre.length : Int)) (few (adds acc (minusP suf b)))
  | [], pre, b, acc, hl, hb, ha => by
    refine Ev.step (f := fun _ => some (few acc)) (fun k => ?_) (Ev.now _)
    simp only [span_Minus.l0]
    rw [if_neg (by simp), bounded_few]
  | r :: suf, pre, b, acc, hl, hb, ha => by
    have hl1 : (pre ++ r :: suf).length = pre.length + 1 + suf.length := by simp; omega
    have hd := dropTo_len b r.f0
    rw [minusP, adds_append]
    refine Ev.step (f := fun k => span_Minus.l1 k b acc r.f0 (pre ++ r :: suf) ((pre ++ r :: suf).length : Int) (pre.length : Int) r.f0 r.f1) (fun k => ?_) (Minus_l1 b ?_)
    · simp only [span_Minus.l0]
      rw [if_pos (by omega), if_pos (by omega), if_pos (by omega), rd_at]
    · refine Ev.step (f := fun k => span_Minus.l2 k (dropTo b r.f0) acc r.f0 (pre ++ r :: suf) ((pre ++ r :: suf).length : Int) (pre.length : Int) (dropTo b r.f0) ((dropTo b r.f0).length : Int) 0 r.f0 r.f1) (fun k => by simp only [span_Minus.j2]) ?_
      refine Minus_l2 (b := dropTo b r.f0) (a := pre ++ r :: suf) (F := fun t => few (adds t (minusP suf (dropTo b r.f0)))) (i := (pre.length : Int)) (rlo := r.f0) (rhi := r.f1) (dropTo b r.f0) [] acc r.f0 (by simp; omega) (by omega) (fun t ht => ?_)
      have ih := Minus_l0 suf (pre ++ [r]) (dropTo b r.f0) t (by rw [List.append_assoc]; exact hl) (by omega) (by simp only [List.length_append, List.length_singleton]; omega)
      rw [List.append_assoc, List.singleton_append] at ih
      rw [e_succ pre r (by omega)]
      exact ih
def minusA (a b : List S36) : List S36 × Int := if bothS a b = 0 then few (minusS a b) else ([], bothS a b)
theorem Minus_ev {a b : List S36} (ha : Short a) (hb : Short b) : Ev (fun k => span_Minus.f k a b) (minusA a b) := by
  have h1 : Ev (fun k => span_both.f k a b) (bothS a b) := ⟨_, fun k hk => both_f ha hb hk⟩
  refine Ev.bind h1 ?_
  unfold minusA
  by_cases g : bothS a b = 0
  · obtain ⟨ga, gb⟩ := bothS_good.1 g
    simp only [if_pos g]
    exact Minus_l0 a [] b [] ga.1 gb.1 (by simp)
  · simp only [if_neg g]
    exact Ev.now _
end Go.Proofs.Ytmidiifgdloojaa.SpanFns
end
section
namespace Go.Proofs.Ytmidiifgdloojaa.SpanFns
open Go.RowKit Go.Proofs.YtmidiifgdloojaaW.PrintWords Go.Proofs.YtmidiifgdloojaaW.PrintMore Go.Proofs.Ytmidiifgdloojaa.Pr Go.Proofs.Ytmidiifgdloojaa.SpanMath
theorem rdi_at (pre : List Int) (x : Int) (suf : List Int) : rd (pre ++ x :: suf) (pre.length : Int) = x := by simp [rd]
theorem e_succ' {α : Type} (pre : List α) (r : α) (h : pre.length < 8796093022208) : wrap64 ((pre.length : Int) + 1) = ((pre ++ [r]).length : Int) := by rw [w64 (by omega) (by omega)]; simp
def mergeI : List Int → List Int → List Int
  | [], b => b
  | x :: a, [] => x :: a
  | x :: a, y :: b => if x ≤ y then x :: mergeI a (y :: b) else y :: mergeI (x :: a) b
termination_by a b => a.length + b.length
theorem mergeI_nil (b : List Int) : mergeI [] b = b := by rw [mergeI]
theorem mergeI_nil' (a : List Int) : mergeI a [] = a := by cases a <;> rw [mergeI]
theorem mergeI_le {x y : Int} (a b : List Int) (h : x ≤ y) : mergeI (x :: a) (y :: b) = x :: mergeI a (y :: b) := by rw [mergeI, if_pos h]
theorem mergeI_gt {x y : Int} (a b : List Int) (h : ¬ x ≤ y) : mergeI (x :: a) (y :: b) = y :: mergeI (x :: a) b := by rw [mergeI, if_neg h]
theorem mergeI_perm : ∀ (n : Nat) (a b : List Int), a.length + b.length ≤ n → (mergeI a b).Perm (a ++ b) := by
  intro n
  induction n with
  | zero =>
    intro a b h
    obtain rfl : a = [] := List.length_eq_zero_iff.1 (by omega)
    rw [mergeI_nil]; exact List.Perm.refl _
  | succ n ih =>
    intro a b h
    cases a with
    | nil => rw [mergeI_nil]; exact List.Perm.refl _
    | cons x a =>
      cases b with
      | nil => rw [mergeI_nil', List.append_nil]
      | cons y b =>
        simp only [List.length_cons] at h
        by_cases c : x ≤ y
        · rw [mergeI_le _ _ c]
          exact List.Perm.cons _ (ih a (y :: b) (by simp only [List.length_cons]; omega))
        · rw [mergeI_gt _ _ c]
          exact (List.Perm.cons _ (ih (x :: a) b (by simp only [List.length_cons]; omega))).trans List.perm_middle.symm
theorem mergeI_sorted : ∀ (n : Nat) (a b : List Int), a.length + b.length ≤ n → a.Pairwise (· ≤ ·) → b.Pairwise (· ≤ ·) → (mergeI a b).Pairwise (· ≤ ·) := by
  intro n
  induction n with
  | zero =>
    intro a b h _ hb
    obtain rfl : a = [] := List.length_eq_zero_iff.1 (by omega)
    rw [mergeI_nil]; exact hb
  | succ n ih =>
    intro a b h ha hb
    cases a with
    | nil => rw [mergeI_nil]; exact hb
    | cons x a =>
      cases b with
      | nil => rw [mergeI_nil']; exact ha
      | cons y b =>
        simp only [List.length_cons] at h
        have ha' := List.pairwise_cons.1 ha
        have hb' := List.pairwise_cons.1 hb
        by_cases c : x ≤ y
        · rw [mergeI_le _ _ c]
          refine List.pairwise_cons.2 ⟨fun z hz => ?_, ih a (y :: b) (by simp only [List.length_cons]; omega) ha'.2 hb⟩
          rcases List.mem_append.1 ((mergeI_perm _ a (y :: b) (Nat.le_refl _)).mem_iff.1 hz) with hz | hz
          · exact ha'.1 z hz
          · rcases List.mem_cons.1 hz with rfl | hz
            · exact c
            · exact Int.le_trans c (hb'.1 z hz)
        · rw [mergeI_gt _ _ c]
          refine List.pairwise_cons.2 ⟨fun z hz => ?_, ih (x :: a) b (by simp only [List.length_cons]; omega) ha hb'.2⟩
          rcases List.mem_append.1 ((mergeI_perm _ (x :: a) b (Nat.le_refl _)).mem_iff.1 hz) with hz | hz
          · rcases List.mem_cons.1 hz with rfl | hz
            · omega
            · have := ha'.1 z hz
              omega
          · exact hb'.1 z hz
theorem Sorted_l0 : ∀ (n : Nat) (a b pa pb out : List Int), a.length + b.length = n → (pa ++ a).length + (pb ++ b).length ≤ 1000000 → out.length = pa.length + pb.length →
    Ev (fun k => redraftref02_Sorted.l0 k (pa ++ a) (pb ++ b) out (pa.length : Int) (pb.length : Int)) (out ++ mergeI a b) := by
  intro n
  induction n with
  | zero =>
    intro a b pa pb out hn hl ho
    obtain rfl : a = [] := List.length_eq_zero_iff.1 (by omega)
    obtain rfl : b = [] := List.length_eq_zero_iff.1 (by omega)
    refine Ev.step (f := fun k => redraftref02_Sorted.j1 k (pa ++ []) (pb ++ []) out (pa.length : Int) (pb.length : Int) false) (fun k => ?_) (Ev.step (f := fun _ => some out) (fun k => ?_) ?_)
    · simp only [redraftref02_Sorted.l0]
      rw [if_neg (by simp)]
      simp
    · simp only [redraftref02_Sorted.j1]
      rw [if_neg (by simp)]
    · rw [mergeI_nil, List.append_nil]; exact Ev.now _
  | succ n ih =>
    intro a b pa pb out hn hl ho
    simp only [List.length_append] at hl
    have takeA : ∀ (x : Int) (a' : List Int), a = x :: a' → mergeI a b = x :: mergeI a' b → Ev (fun k => redraftref02_Sorted.j2 k (pa ++ a) (pb ++ b) out (pa.length : Int) (pb.length : Int) true) (out ++ mergeI a b) := by
      rintro x a' rfl hm
      simp only [List.length_cons] at hn hl
      have h := ih a' b (pa ++ [x]) pb (out ++ [x]) (by omega) (by simp only [List.length_append, List.length_singleton]; omega) (by simp only [List.length_append, List.length_singleton]; omega)
      rw [List.append_assoc, List.append_assoc, List.singleton_append, List.singleton_append] at h
      rw [hm]
      refine Ev.step (fun k => ?_) h
      simp only [redraftref02_Sorted.j2, if_true]
      rw [if_pos (by omega), if_pos (by simp only [List.length_append, List.length_cons]; omega), if_pos (by omega), rdi_at, e_succ' pa x (by omega)]
    have takeB : ∀ (y : Int) (b' : List Int), b = y :: b' → mergeI a b = y :: mergeI a b' → Ev (fun k => redraftref02_Sorted.j2 k (pa ++ a) (pb ++ b) out (pa.length : Int) (pb.length : Int) false) (out ++ mergeI a b) := by
      rintro y b' rfl hm
      simp only [List.length_cons] at hn hl
      have h := ih a b' pa (pb ++ [y]) (out ++ [y]) (by omega) (by simp only [List.length_append, List.length_singleton]; omega) (by simp only [List.length_append, List.length_singleton]; omega)
      rw [List.append_assoc, List.append_assoc, List.singleton_append, List.singleton_append] at h
      rw [hm]
      refine Ev.step (fun k => ?_) h
      simp only [redraftref02_Sorted.j2]
      rw [if_neg (by simp), if_pos (by omega), if_pos (by simp only [List.length_append, List.length_cons]; omega), if_pos (by omega), rdi_at, e_succ' pb y (by omega)]
    have j1 : Ev (fun k => redraftref02_Sorted.j1 k (pa ++ a) (pb ++ b) out (pa.length : Int) (pb.length : Int) true) (out ++ mergeI a b) := by
      cases b with
      | nil =>
        cases a with
        | nil => simp at hn
        | cons x a' =>
          refine Ev.step (fun k => ?_) (takeA x a' rfl (by rw [mergeI_nil', mergeI_nil']))
          simp only [redraftref02_Sorted.j1, if_true]
          rw [if_pos (by simp)]
      | cons y b' =>
        simp only [List.length_cons] at hl
        cases a with
        | nil =>
          refine Ev.step (fun k => ?_) (takeB y b' rfl (by rw [mergeI_nil, mergeI_nil]))
          simp only [redraftref02_Sorted.j1, if_true]
          rw [if_neg (by simp only [List.length_append, List.length_cons]; omega), if_neg (by simp)]
        | cons x a' =>
          simp only [List.length_cons] at hl
          by_cases c : x ≤ y
          · refine Ev.step (fun k => ?_) (takeA x a' rfl (mergeI_le _ _ c))
            simp only [redraftref02_Sorted.j1, if_true]
            rw [if_neg (by simp only [List.length_append, List.length_cons]; omega), if_pos (by simp only [List.length_append, List.length_cons]; omega), if_pos (by omega), if_pos (by omega), if_pos (by simp only [List.length_append, List.length_cons]; omega), rdi_at, rdi_at, show decide (x ≤ y) = true from by simpa using c]
          · refine Ev.step (fun k => ?_) (takeB y b' rfl (mergeI_gt _ _ c))
            simp only [redraftref02_Sorted.j1, if_true]
            rw [if_neg (by simp only [List.length_append, List.length_cons]; omega), if_pos (by simp only [List.length_append, List.length_cons]; omega), if_pos (by omega), if_pos (by omega), if_pos (by simp only [List.length_append, List.length_cons]; omega), rdi_at, rdi_at, show decide (x ≤ y) = false from by simpa using c]
    refine Ev.step (fun k => ?_) j1
    simp only [redraftref02_Sorted.l0]
    cases a with
    | nil =>
      simp only [List.length_nil] at hn
      rw [if_neg (by simp), show decide ((pb.length : Int) < ((pb ++ b).length : Int)) = true from by simp only [List.length_append, decide_eq_true_eq]; omega]
    | cons x a' => rw [if_pos (by simp only [List.length_append, List.length_cons]; omega)]
theorem Sorted_ev : ∀ (n : Nat) (l : List Int), l.length ≤ n → n ≤ 500000 → ∃ s : List Int, s.Perm l ∧ s.Pairwise (· ≤ ·) ∧ Ev (fun k => redraftref02_Sorted.f k l) s := by
  intro n
  induction n with
  | zero =>
    intro l hl _
    obtain rfl : l = [] := List.length_eq_zero_iff.1 (by omega)
    refine ⟨[], List.Perm.refl _, List.Pairwise.nil, Ev.step (f := fun _ => some []) (fun k => ?_) (Ev.now _)⟩
    simp only [redraftref02_Sorted.f]
    rfl
  | succ n ih =>
    intro l hl hn
    by_cases c : l.length < 2
    · refine ⟨l, List.Perm.refl _, ?_, Ev.step (f := fun _ => some l) (fun k => ?_) (Ev.now _)⟩
      · match l, c with
        | [], _ => exact List.Pairwise.nil
        | [x], _ => exact List.pairwise_singleton _ _
      · simp only [redraftref02_Sorted.f]
        rw [if_pos (by omega), if_pos (by simp; omega)]
        rfl
    · have e : wrap64 ((l.length : Int) / 2) = (l.length : Int) / 2 := w64 (by omega) (by omega)
      have e2 : ((l.length : Int) / 2).toNat = l.length / 2 := by omega
      obtain ⟨s1, p1, o1, v1⟩ := ih (l.take (l.length / 2)) (by rw [List.length_take]; omega) (by omega)
      obtain ⟨s2, p2, o2, v2⟩ := ih (l.drop (l.length / 2)) (by rw [List.length_drop]; omega) (by omega)
      have h1 := p1.length_eq
      have h2 := p2.length_eq
      rw [List.length_take] at h1
      rw [List.length_drop] at h2
      refine ⟨mergeI s1 s2, ?_, mergeI_sorted _ s1 s2 (Nat.le_refl _) o1 o2, ?_⟩
      · refine (mergeI_perm _ s1 s2 (Nat.le_refl _)).trans ((p1.append p2).trans ?_)
        rw [List.take_append_drop]
      · refine Ev.step (f := fun k => (redraftref02_Sorted.f k (l.take (l.length / 2))).bind fun t => (redraftref02_Sorted.f k (l.drop (l.length / 2))).bind fun u => redraftref02_Sorted.l0 k t u [] 0 0) (fun k => ?_) ?_
        · simp only [redraftref02_Sorted.f]
          rw [if_neg (by omega), e, e2, if_pos (by omega), if_pos (by omega)]
          have : ((l.length : Int)).toNat ≤ 35184372088832 := by omega
          simp only [if_pos this]
        · refine Ev.bind v1 (Ev.bind v2 ?_)
          have := Sorted_l0 _ s1 s2 [] [] [] rfl (by simp only [List.nil_append]; omega) rfl
          exact this
def cntLe (l : List Int) (x : Int) : Nat := l.countP (fun y => decide (y ≤ x))
theorem cntLe_perm {l m : List Int} (h : l.Perm m) (x : Int) : cntLe l x = cntLe m x := h.countP_eq _
theorem cntLe_split {l : List Int} {x : Int} {r : Nat} (hr : r ≤ l.length) (h1 : ∀ i (h : i < l.length), i < r → l[i] ≤ x) (h2 : ∀ i (h : i < l.length), r ≤ i → x < l[i]) : cntLe l x = r := by
  unfold cntLe
  rw [← List.take_append_drop r l, List.countP_append]
  have e1 : (l.take r).countP (fun y => decide (y ≤ x)) = r := by
    rw [List.countP_eq_length.2]
    · rw [List.length_take]; omega
    · intro y hy
      obtain ⟨i, hi, rfl⟩ := List.getElem_of_mem hy
      rw [List.length_take] at hi
      rw [List.getElem_take]
      simpa using h1 i (by omega) (by omega)
  have e2 : (l.drop r).countP (fun y => decide (y ≤ x)) = 0 := by
    rw [List.countP_eq_zero]
    intro y hy
    obtain ⟨i, hi, rfl⟩ := List.getElem_of_mem hy
    rw [List.length_drop] at hi
    rw [List.getElem_drop]
    have := h2 (r + i) (by omega) (by omega)
    simp; omega
  omega
theorem half (lo hi : Int) (h : lo < hi) (h0 : 0 ≤ lo) (h1 : hi ≤ 1000000) : wrap64 (lo + wrap64 (Int.tdiv (wrap64 (hi - lo)) 2)) = lo + (hi - lo) / 2 := by
  rw [w64 (n := hi - lo) (by omega) (by omega), Int.tdiv_eq_ediv_of_nonneg (by omega), w64 (n := (hi - lo) / 2) (by omega) (by omega), w64 (by omega) (by omega)]
theorem rdi_get {l : List Int} {m : Int} (h0 : 0 ≤ m) (h : m < l.length) : rd l m = l[m.toNat]'(by omega) := by
  unfold rd
  rw [List.getD_eq_getElem?_getD, List.getElem?_eq_getElem (by omega)]
  rfl
theorem sorted_get {l : List Int} (h : l.Pairwise (· ≤ ·)) {i j : Nat} (hj : j < l.length) (hij : i ≤ j) : l[i]'(by omega) ≤ l[j] := by
  rcases Nat.lt_or_eq_of_le hij with h1 | h1
  · exact List.pairwise_iff_getElem.1 h i j (by omega) hj h1
  · subst h1; exact Int.le_refl _
theorem upTo_l0' {l : List Int} (hs : l.Pairwise (· ≤ ·)) (hl : l.length ≤ 1000000) (x : Int) : ∀ (n : Nat) (lo hi : Int), (hi - lo).toNat ≤ n → 0 ≤ lo → lo ≤ hi → hi ≤ l.length →
    (∀ i (h : i < l.length), (i : Int) < lo → l[i] ≤ x) → (∀ i (h : i < l.length), hi ≤ (i : Int) → x < l[i]) → Ev (fun k => redraftref02_upTo.l0 k l x lo hi) (cntLe l x : Int) := by
  intro n
  induction n with
  | zero =>
    intro lo hi hn h0 h1 h2 ha hb
    have : lo = hi := by omega
    subst this
    refine Ev.step (f := fun _ => some lo) (fun k => ?_) ?_
    · simp only [redraftref02_upTo.l0]
      rw [if_neg (by omega)]
    · have := cntLe_split (r := lo.toNat) (x := x) (l := l) (by omega) (fun i h hx => ha i h (by omega)) (fun i h hx => hb i h (by omega))
      rw [this, Int.toNat_of_nonneg h0]
      exact Ev.now _
  | succ n ih =>
    intro lo hi hn h0 h1 h2 ha hb
    by_cases c : lo < hi
    · have hm := half lo hi c h0 (by omega)
      have hlt : lo + (hi - lo) / 2 < hi := by omega
      have hge : lo ≤ lo + (hi - lo) / 2 := by omega
      by_cases c2 : l[(lo + (hi - lo) / 2).toNat]'(by omega) ≤ x
      · refine Ev.step (f := fun k => redraftref02_upTo.l0 k l x (lo + (hi - lo) / 2 + 1) hi) (fun k => ?_) (ih (lo + (hi - lo) / 2 + 1) hi (by omega) (by omega) (by omega) h2 (fun i h hx => ?_) hb)
        · simp only [redraftref02_upTo.l0]
          rw [if_pos c, hm, if_pos (by omega), if_pos (by omega), rdi_get (by omega) (by omega), if_pos c2, w64 (by omega) (by omega)]
        · have := sorted_get hs (i := i) (j := (lo + (hi - lo) / 2).toNat) (by omega) (by omega)
          omega
      · refine Ev.step (f := fun k => redraftref02_upTo.l0 k l x lo (lo + (hi - lo) / 2)) (fun k => ?_) (ih lo (lo + (hi - lo) / 2) (by omega) (by omega) (by omega) (by omega) ha (fun i h hx => ?_))
        · simp only [redraftref02_upTo.l0]
          rw [if_pos c, hm, if_pos (by omega), if_pos (by omega), rdi_get (by omega) (by omega), if_neg c2]
        · have := sorted_get hs (i := (lo + (hi - lo) / 2).toNat) (j := i) h (by omega)
          omega
    · exact ih lo hi (by omega) h0 h1 h2 ha hb
theorem upTo_count {l : List Int} (hs : l.Pairwise (· ≤ ·)) (hl : l.length ≤ 1000000) (x : Int) : Ev (fun k => redraftref02_upTo.f k l x) (cntLe l x : Int) :=
  upTo_l0' hs hl x l.length 0 (l.length : Int) (by omega) (by omega) (by omega) (by omega) (fun i h hx => by omega) (fun i h hx => by omega)
theorem rdb_at (pre : List Bool) (x : Bool) (suf : List Bool) : rdOf false (pre ++ x :: suf) (pre.length : Int) = x := by simp [rdOf]
theorem joined_l0 : ∀ (cs : List Int) (c : Int) (bs : List Bool) (pc : List Int) (pb : List Bool) (acc : List S36), pc.length = pb.length → bs.length = cs.length + 1 → (pc ++ c :: cs).length ≤ 1000000 → (c :: cs).Pairwise (· ≤ ·) →
    acc.length ≤ pc.length → (∀ r ∈ acc.getLast?, r.f1 ≤ c) → Ev (fun k => redraftref02_joined.l0 k (pc ++ c :: cs) (pb ++ bs) acc (pc.length : Int)) (adds acc (pieces (c :: cs) bs))
  | [], c, bs, pc, pb, acc, hp, hb, hl, hs, ha, hr => by
    refine Ev.step (f := fun _ => some acc) (fun k => ?_) ?_
    · simp only [redraftref02_joined.l0]
      simp only [List.length_append, List.length_singleton] at hl
      rw [w64 (by omega) (by omega), if_neg (by simp)]
    · rw [pieces_one, adds_nil]; exact Ev.now _
  | c' :: cs, c, bs, pc, pb, acc, hp, hb, hl, hs, ha, hr => by
    obtain ⟨b, bs, rfl⟩ : ∃ b t, bs = b :: t := by
      cases bs with
      | nil => simp at hb
      | cons b t => exact ⟨b, t, rfl⟩
    simp only [List.length_cons] at hb
    have hl1 : (pc ++ c :: c' :: cs).length = pc.length + 2 + cs.length := by simp; omega
    have hl2 : (pb ++ b :: bs).length = pb.length + 1 + bs.length := by simp; omega
    have hs' := List.pairwise_cons.1 hs
    have hcc := hs'.1 c' List.mem_cons_self
    have e1 : wrap64 ((pc.length : Int) + 1) = ((pc ++ [c]).length : Int) := e_succ' pc c (by omega)
    have rec_ := fun (acc' : List S36) (h1 : acc'.length ≤ pc.length + 1) (h2 : ∀ r ∈ acc'.getLast?, r.f1 ≤ c') => joined_l0 cs c' bs (pc ++ [c]) (pb ++ [b]) acc' (by simp [hp]) (by omega) (by simp only [List.append_assoc, List.singleton_append]; exact hl) hs'.2 (by simp only [List.length_append, List.length_singleton]; omega) h2
    simp only [List.append_assoc, List.singleton_append] at rec_
    have lc : ((pc ++ [c]).length : Int) = (pc.length : Int) + 1 := by simp
    have rc : rd (pc ++ c :: c' :: cs) ((pc ++ [c]).length : Int) = c' := by have := rdi_at (pc ++ [c]) c' cs; simp only [List.append_assoc, List.singleton_append] at this; exact this
    have skip : ∀ (h : b = false ∨ c = c'), Ev (fun k => redraftref02_joined.j1 k (pc ++ c :: c' :: cs) (pb ++ b :: bs) acc (pc.length : Int) true) (adds acc (pieces (c :: c' :: cs) (b :: bs))) := by
      intro h
      have e : adds acc (pieces (c :: c' :: cs) (b :: bs)) = adds acc (pieces (c' :: cs) bs) := by
        cases b with
        | false => rw [pieces_no]
        | true =>
          rcases h with h | h
          · exact absurd h (by simp)
          · rw [pieces_yes, adds_cons, addS_empty (by show c' ≤ c; omega)]
      rw [e]
      refine Ev.step (fun k => ?_) (rec_ acc (by omega) (fun r hr' => Int.le_trans (hr r hr') hcc))
      simp only [redraftref02_joined.j1, if_true]
      rw [e1]
    cases b with
    | false =>
      refine Ev.step (fun k => ?_) (skip (.inl rfl))
      simp only [redraftref02_joined.l0]
      rw [e1, if_pos (by omega), if_pos (by omega), if_pos (by omega), rdb_at' pb pc hp, if_neg (by simp)]
    | true =>
      by_cases cq : c = c'
      · refine Ev.step (fun k => ?_) (skip (.inr cq))
        simp only [redraftref02_joined.l0]
        rw [e1, if_pos (by omega), if_pos (by omega), if_pos (by omega), rdb_at' pb pc hp, if_pos rfl, if_pos (by omega), if_pos (by omega), rdi_at, rc, show (c == c') = true from by simpa using cq]
      · refine Ev.step (f := fun k => redraftref02_joined.j1 k (pc ++ c :: c' :: cs) (pb ++ true :: bs) acc (pc.length : Int) false) (fun k => ?_) ?_
        · simp only [redraftref02_joined.l0]
          rw [e1, if_pos (by omega), if_pos (by omega), if_pos (by omega), rdb_at' pb pc hp, if_pos rfl, if_pos (by omega), if_pos (by omega), rdi_at, rc, show (c == c') = false from by simpa using cq]
        · rw [pieces_yes, adds_cons]
          have more : Ev (fun k => redraftref02_joined.j2 k (pc ++ c :: c' :: cs) (pb ++ true :: bs) acc (pc.length : Int) (acc.length : Int) false) (adds (acc ++ [⟨c, c'⟩]) (pieces (c' :: cs) bs)) := by
            refine Ev.step (fun k => ?_) (rec_ (acc ++ [⟨c, c'⟩]) (by simp only [List.length_append, List.length_singleton]; omega) (fun r hr' => by simp at hr'; subst hr'; exact Int.le_refl _))
            simp only [redraftref02_joined.j2]
            rw [if_neg (by simp), if_pos (by omega), if_pos (by omega), e1, if_pos (by omega), if_pos (by omega), if_pos (by omega), rdi_at, rc]
          rcases concat_cases acc with rfl | ⟨i, r, rfl⟩
          · refine Ev.step (fun k => ?_) (by rw [addS_nil (by show c < c'; omega)]; exact more)
            simp only [redraftref02_joined.j1]
            rw [if_neg (by simp), if_neg (by simp)]
          · have hr' := hr r (by simp)
            have hil : (i ++ [r]).length = i.length + 1 := by simp
            have e3 : wrap64 (((i ++ [r]).length : Int) - 1) = ((i ++ [r]).length : Int) - 1 := w64 (by omega) (by omega)
            have e4 : rd_T36 (i ++ [r]) (((i ++ [r]).length : Int) - 1) = r := by have := rd_last i r []; rwa [List.append_nil] at this
            have e5 : (((i ++ [r]).length : Int) - 1).toNat = i.length := by omega
            by_cases cr : r.f1 = c
            · refine Ev.step (f := fun k => redraftref02_joined.j2 k (pc ++ c :: c' :: cs) (pb ++ true :: bs) (i ++ [r]) (pc.length : Int) ((i ++ [r]).length : Int) true) (fun k => ?_) (Ev.step (f := fun k => redraftref02_joined.l0 k (pc ++ c :: c' :: cs) (pb ++ true :: bs) (i ++ [⟨r.f0, c'⟩]) ((pc ++ [c]).length : Int)) (fun k => ?_) ?_)
              · simp only [redraftref02_joined.j1]
                rw [if_neg (by simp), if_pos (by omega), e3, if_pos (by omega), if_pos (by omega), if_pos (by omega), if_pos (by omega), e4, rdi_at, show (r.f1 == c) = true from by simpa using cr]
              · simp only [redraftref02_joined.j2, if_true]
                rw [e1, if_pos (by omega), if_pos (by omega), e3, if_pos (by omega), if_pos (by omega), e4, rc, e5]
                simp
              · rw [addS_join (by show c < c'; omega) (by show c ≤ r.f1; omega)]
                have : (if r.f1 < c' then c' else r.f1) = c' := by rw [if_pos (by omega)]
                simp only [this]
                exact rec_ (i ++ [⟨r.f0, c'⟩]) (by simp only [List.length_append, List.length_singleton] at ha ⊢; omega) (fun s hs => by simp at hs; subst hs; exact Int.le_refl _)
            · refine Ev.step (fun k => ?_) (by rw [addS_more (by show c < c'; omega) (by show r.f1 < c; omega)]; exact more)
              simp only [redraftref02_joined.j1]
              rw [if_neg (by simp), if_pos (by omega), e3, if_pos (by omega), if_pos (by omega), if_pos (by omega), if_pos (by omega), e4, rdi_at, show (r.f1 == c) = false from by simpa using cr]
where
  rdb_at' {x : Bool} {suf : List Bool} (pb : List Bool) (pc : List Int) (h : pc.length = pb.length) : rdOf false (pb ++ x :: suf) (pc.length : Int) = x := by rw [h]; exact rdb_at pb x suf
theorem joined_ev {cs : List Int} {bs : List Bool} (hb : bs.length = cs.length) (hl : cs.length ≤ 1000000) (hs : cs.Pairwise (· ≤ ·)) : Ev (fun k => redraftref02_joined.f k cs bs) (adds [] (pieces cs bs)) := by
  cases cs with
  | nil =>
    refine Ev.congr (f := fun k => redraftref02_joined.l0 k [] bs [] 0) (fun k => rfl) (Ev.step (f := fun _ => some []) (fun k => ?_) ?_)
    · simp only [redraftref02_joined.l0]
      rw [w64 (by omega) (by omega), if_neg (by simp)]
    · rw [pieces_nil]; exact Ev.now _
  | cons c cs => exact joined_l0 cs c bs [] [] [] rfl (by simpa using hb) (by simpa using hl) hs (by simp) (by simp)
end Go.Proofs.Ytmidiifgdloojaa.SpanFns
end
section
namespace Go.Proofs.Ytmidiifgdloojaa.SpanFns
open Go.RowKit Go.Proofs.YtmidiifgdloojaaW.PrintWords Go.Proofs.YtmidiifgdloojaaW.PrintMore Go.Proofs.Ytmidiifgdloojaa.Pr Go.Proofs.Ytmidiifgdloojaa.SpanMath
def inB (l : List S36) (q : Int) : Bool := l.any (fun r => decide (r.f0 ≤ q ∧ q < r.f1))
theorem inB_iff (l : List S36) (q : Int) : inB l q = true ↔ mem l q := by simp [inB, mem]
theorem rdf_get {l : List S36} {m : Int} (h0 : 0 ≤ m) (h : m < l.length) : rd_T36 l m = l[m.toNat]'(by omega) := by
  unfold rd_T36
  simp [List.getElem?_eq_getElem (show m.toNat < l.length by omega)]
theorem nrm_get {l : List S36} (h : Nrm l) {i j : Nat} (hj : j < l.length) (hij : i < j) : (l[i]'(by omega)).f1 < l[j].f0 :=
  List.pairwise_iff_getElem.1 h.1 i j (by omega) hj hij
theorem nrm_le {l : List S36} (h : Nrm l) {i j : Nat} (hj : j < l.length) (hij : i ≤ j) : (l[i]'(by omega)).f0 ≤ l[j].f0 := by
  rcases Nat.lt_or_eq_of_le hij with c | c
  · have := nrm_get h hj c
    have := h.2 (l[i]'(by omega)) (List.getElem_mem _)
    omega
  · subst c; exact Int.le_refl _
theorem refIn_l0 {l : List S36} (hn : Nrm l) (hl : l.length ≤ 1000000) (x : Int) : ∀ (n : Nat) (lo hi : Int), (hi - lo).toNat ≤ n → 0 ≤ lo → lo ≤ hi → hi ≤ l.length →
    (∀ i (h : i < l.length), (i : Int) < lo → l[i].f0 ≤ x) → (∀ i (h : i < l.length), hi ≤ (i : Int) → x < l[i].f0) → Ev (fun k => redraftref02_In.l0 k l x lo hi) (inB l x) := by
  intro n
  have base : ∀ lo : Int, 0 ≤ lo → lo ≤ l.length → (∀ i (h : i < l.length), (i : Int) < lo → l[i].f0 ≤ x) → (∀ i (h : i < l.length), lo ≤ (i : Int) → x < l[i].f0) → Ev (fun k => redraftref02_In.l0 k l x lo lo) (inB l x) := by
    intro lo h0 h1 ha hb
    by_cases c : lo > 0
    · have hlt : (lo - 1).toNat < l.length := by omega
      have e : inB l x = decide (x < (l[(lo - 1).toNat]).f1) := by
        rw [Bool.eq_iff_iff, inB_iff, decide_eq_true_iff]
        constructor
        · rintro ⟨r, hr, h2, h3⟩
          obtain ⟨i, hi, rfl⟩ := List.getElem_of_mem hr
          have hi2 : (i : Int) < lo := by
            apply Decidable.byContradiction
            intro hc
            have := hb i hi (by omega)
            omega
          by_cases hc : i = (lo - 1).toNat
          · subst hc; exact h3
          · have := nrm_get hn hlt (i := i) (by omega)
            have := ha (lo - 1).toNat hlt (by omega)
            omega
        · intro h2
          exact ⟨_, List.getElem_mem hlt, ha _ hlt (by omega), h2⟩
      refine Ev.step (f := fun _ => some (inB l x)) (fun k => ?_) (Ev.now _)
      simp only [redraftref02_In.l0]
      rw [if_neg (by omega), if_pos c, w64 (by omega) (by omega), if_pos (by omega), if_pos (by omega), rdf_get (by omega) (by omega), e]
    · refine Ev.step (f := fun _ => some (inB l x)) (fun k => ?_) (Ev.now _)
      simp only [redraftref02_In.l0]
      rw [if_neg (by omega), if_neg c]
      have : inB l x = false := by
        rw [Bool.eq_false_iff, ne_eq, inB_iff]
        rintro ⟨r, hr, h2, h3⟩
        obtain ⟨i, hi, rfl⟩ := List.getElem_of_mem hr
        have := hb i hi (by omega)
        omega
      rw [this]
  induction n with
  | zero =>
    intro lo hi hn' h0 h1 h2 ha hb
    have : lo = hi := by omega
    subst this
    exact base lo h0 h2 ha hb
  | succ n ih =>
    intro lo hi hn' h0 h1 h2 ha hb
    by_cases c : lo < hi
    · have hm := half lo hi c h0 (by omega)
      have hlt : lo + (hi - lo) / 2 < hi := by omega
      have hge : lo ≤ lo + (hi - lo) / 2 := by omega
      by_cases c2 : (l[(lo + (hi - lo) / 2).toNat]'(by omega)).f0 ≤ x
      · refine Ev.step (f := fun k => redraftref02_In.l0 k l x (lo + (hi - lo) / 2 + 1) hi) (fun k => ?_) (ih (lo + (hi - lo) / 2 + 1) hi (by omega) (by omega) (by omega) h2 (fun i h hx => ?_) hb)
        · simp only [redraftref02_In.l0]
          rw [if_pos c, hm, if_pos (by omega), if_pos (by omega), rdf_get (by omega) (by omega), if_pos c2, w64 (by omega) (by omega)]
        · have := nrm_le hn (i := i) (j := (lo + (hi - lo) / 2).toNat) (by omega) (by omega)
          omega
      · refine Ev.step (f := fun k => redraftref02_In.l0 k l x lo (lo + (hi - lo) / 2)) (fun k => ?_) (ih lo (lo + (hi - lo) / 2) (by omega) (by omega) (by omega) (by omega) ha (fun i h hx => ?_))
        · simp only [redraftref02_In.l0]
          rw [if_pos c, hm, if_pos (by omega), if_pos (by omega), rdf_get (by omega) (by omega), if_neg c2]
        · have := nrm_le hn (i := (lo + (hi - lo) / 2).toNat) (j := i) h (by omega)
          omega
    · have : lo = hi := by omega
      subst this
      exact base lo h0 h2 ha hb
theorem refIn_ev {l : List S36} (hn : Nrm l) (hl : l.length ≤ 1000000) (x : Int) : Ev (fun k => redraftref02_In.f k l x) (inB l x) :=
  refIn_l0 hn hl x l.length 0 (l.length : Int) (by omega) (by omega) (by omega) (by omega) (fun i h hx => by omega) (fun i h hx => by omega)
def howP (how : Int) (x y : Bool) : Bool := if how = 1 then x || y else if how = 2 then x && y else x && !y
def ends (l : List S36) : List Int := l.flatMap (fun r => [r.f0, r.f1])
theorem ends_mem {l : List S36} {r : S36} (h : r ∈ l) : r.f0 ∈ ends l ∧ r.f1 ∈ ends l := by
  unfold ends
  exact ⟨List.mem_flatMap.2 ⟨r, h, by simp⟩, List.mem_flatMap.2 ⟨r, h, by simp⟩⟩
theorem ends_len (l : List S36) : (ends l).length = 2 * l.length := by
  induction l with
  | nil => rfl
  | cons r l ih => simp only [ends, List.flatMap_cons, List.length_append, List.length_cons, List.length_nil] at ih ⊢; omega
theorem reffew (t : List S36) : ((redraftref02_few.f t).bind fun b => some (b.1, b.2)) = some (few t) := by
  unfold redraftref02_few.f few
  by_cases c : t.length > 32768
  · rw [if_pos (by omega), if_pos c]; rfl
  · rw [if_neg (by omega), if_neg c]; rfl
theorem inB_const {l : List S36} {A : List Int} (h : ∀ r ∈ l, r.f0 ∈ A ∧ r.f1 ∈ A) {x y : Int} (hxy : x ≤ y) (hc : ∀ c ∈ A, c ≤ x ∨ y < c) : inB l x = inB l y := by
  rw [Bool.eq_iff_iff, inB_iff, inB_iff]
  constructor
  · rintro ⟨r, hr, h1, h2⟩
    have := hc _ (h r hr).1
    have := hc _ (h r hr).2
    exact ⟨r, hr, by omega, by omega⟩
  · rintro ⟨r, hr, h1, h2⟩
    have := hc _ (h r hr).1
    have := hc _ (h r hr).2
    exact ⟨r, hr, by omega, by omega⟩
theorem inB_out {l : List S36} {A : List Int} (h : ∀ r ∈ l, r.f0 ∈ A ∧ r.f1 ∈ A) {y : Int} (hc : ∀ c ∈ A, c ≤ y) : inB l y = false := by
  rw [Bool.eq_false_iff, ne_eq, inB_iff]
  rintro ⟨r, hr, h1, h2⟩
  have := hc _ (h r hr).2
  omega
theorem inB_low {l : List S36} {A : List Int} (h : ∀ r ∈ l, r.f0 ∈ A ∧ r.f1 ∈ A) {y : Int} (hc : ∀ c ∈ A, y < c) : inB l y = false := by
  rw [Bool.eq_false_iff, ne_eq, inB_iff]
  rintro ⟨r, hr, h1, h2⟩
  have := hc _ (h r hr).1
  omega
theorem howP_ff (how : Int) : howP how false false = false := by
  unfold howP
  split
  · rfl
  · split <;> rfl
theorem comb_step {how : Int} (hh : how = 1 ∨ how = 2 ∨ how = 3) (k : Nat) (a b : List S36) (cs : List Int) (bs : List Bool) (i : Int) : redraftref02_combined.l2 (k + 1) a b how cs bs i =
    if i < (cs.length : Int) then (if 0 ≤ i then ((redraftref02_In.f k a (rd cs i)).bind fun t => (redraftref02_In.f k b (rd cs i)).bind fun u => if i < (bs.length : Int) then redraftref02_combined.l2 k a b how cs (bs.set i.toNat (howP how t u)) (wrap64 (i + 1)) else none) else none)
    else ((redraftref02_joined.f k cs bs).bind fun t => (redraftref02_few.f t).bind fun x => some (x.1, x.2)) := by
  simp only [redraftref02_combined.l2]
  congr 1
  congr 1
  congr 1
  funext t
  congr 1
  funext u
  rcases hh with rfl | rfl | rfl <;> cases t <;> cases u <;> simp [howP]
theorem set_rep (f : Int → Bool) (pre : List Int) (b : Bool) (n : Nat) : (pre.map f ++ List.replicate (n + 1) false).set pre.length b = pre.map f ++ b :: List.replicate n false := by
  rw [List.set_append_right _ _ (by simp)]
  simp [List.replicate_succ]
theorem comb_l2 {how : Int} (hh : how = 1 ∨ how = 2 ∨ how = 3) {a b : List S36} (ha : Nrm a) (hb : Nrm b) (la : a.length ≤ 1000000) (lb : b.length ≤ 1000000) {p : Int → Bool} (hp : p = fun q => howP how (inB a q) (inB b q)) {R : List S36 × Int} : ∀ (suf pre : List Int),
    (pre ++ suf).length ≤ 1000000 → Ev (fun k => (redraftref02_joined.f k (pre ++ suf) ((pre ++ suf).map p)).bind fun t => (redraftref02_few.f t).bind fun x => some (x.1, x.2)) R →
    Ev (fun k => redraftref02_combined.l2 k a b how (pre ++ suf) (pre.map p ++ List.replicate suf.length false) (pre.length : Int)) R
  | [], pre, hl, h => by
    refine Ev.step (fun k => ?_) h
    rw [comb_step hh, if_neg (by simp)]
    simp
  | c :: suf, pre, hl, h => by
    have hl1 : (pre ++ c :: suf).length = pre.length + 1 + suf.length := by simp; omega
    refine Ev.step (f := fun k => (redraftref02_In.f k a c).bind fun t => (redraftref02_In.f k b c).bind fun u => redraftref02_combined.l2 k a b how (pre ++ c :: suf) (pre.map p ++ howP how t u :: List.replicate suf.length false) (((pre ++ [c]).length : Nat) : Int)) (fun k => ?_) ?_
    · rw [comb_step hh, if_pos (by omega), if_pos (by omega), rdi_at, e_succ' pre c (by omega)]
      congr 1
      funext t
      congr 1
      funext u
      rw [if_pos (by simp; omega), Int.toNat_natCast, List.length_cons, set_rep]
    · refine Ev.bind (refIn_ev ha la c) (Ev.bind (refIn_ev hb lb c) ?_)
      have ih := comb_l2 hh ha hb la lb hp suf (pre ++ [c]) (by rw [List.append_assoc]; exact hl) (by rw [List.append_assoc]; exact h)
      simp only [List.append_assoc, List.singleton_append, List.map_append, List.map_cons, List.map_nil] at ih
      rw [show howP how (inB a c) (inB b c) = p c from by rw [hp]]
      exact ih
theorem comb_l1 {how : Int} {a b : List S36} {R : List S36 × Int} : ∀ (suf pre : List S36) (cs : List Int), (pre ++ suf).length ≤ 32768 → cs.length + 2 * suf.length ≤ 1000000 → pre ++ suf = b →
    (∀ s : List Int, s.Perm (cs ++ ends suf) → s.Pairwise (· ≤ ·) → Ev (fun k => redraftref02_combined.l2 k a b how s (List.replicate s.length false) 0) R) → cs.length + 2 * suf.length ≤ 500000 →
    Ev (fun k => redraftref02_combined.l1 k a b how cs (pre.length : Int)) R
  | [], pre, cs, hl, hc, hb, h, h5 => by
    obtain ⟨s, h1, h2, h3⟩ := Sorted_ev cs.length cs (Nat.le_refl _) (by simpa using h5)
    have hsl := h1.length_eq
    simp only [List.append_nil] at hb
    subst hb
    refine Ev.step (f := fun k => (redraftref02_Sorted.f k cs).bind fun t => if 0 ≤ (t.length : Int) then (if (t.length : Int).toNat ≤ 281474976710656 then redraftref02_combined.l2 k a pre how t (List.replicate (t.length : Int).toNat false) 0 else none) else none) (fun k => by simp only [redraftref02_combined.l1]; rw [if_neg (by omega)]) (Ev.bind h3 ?_)
    simp only [List.length_nil] at h5
    refine Ev.congr (fun k => ?_) (h s (by simpa [ends] using h1) h2)
    rw [if_pos (by omega), if_pos (by omega), Int.toNat_natCast]
  | r :: suf, pre, cs, hl, hc, hb, h, h5 => by
    have hl1 : (pre ++ r :: suf).length = pre.length + 1 + suf.length := by simp; omega
    simp only [List.length_cons] at hc h5
    have ih := comb_l1 (how := how) (a := a) (b := b) (R := R) suf (pre ++ [r]) (cs ++ [r.f0, r.f1]) (by rw [List.append_assoc]; exact hl) (by simp; omega) (by rw [List.append_assoc]; exact hb) (fun s h1 h2 => h s (by simpa [ends] using h1) h2) (by simp; omega)
    refine Ev.step (fun k => ?_) ih
    simp only [redraftref02_combined.l1]
    rw [← hb, if_pos (by omega), if_pos (by omega), rd_at]
    simp only [Option.bind_some]
    rw [if_pos (by simp; omega), e_succ pre r (by omega)]
theorem comb_l0 {how : Int} {a b : List S36} {R : List S36 × Int} : ∀ (suf pre : List S36) (cs : List Int), (pre ++ suf).length ≤ 32768 → cs.length + 2 * suf.length ≤ 1000000 → pre ++ suf = a →
    Ev (fun k => redraftref02_combined.l1 k a b how (cs ++ ends suf) 0) R → Ev (fun k => redraftref02_combined.l0 k a b how cs (pre.length : Int)) R
  | [], pre, cs, hl, hc, hb, h => by
    simp only [List.append_nil] at hb
    subst hb
    refine Ev.step (fun k => ?_) h
    simp only [redraftref02_combined.l0]
    rw [if_neg (by omega)]
    simp [ends]
  | r :: suf, pre, cs, hl, hc, hb, h => by
    have hl1 : (pre ++ r :: suf).length = pre.length + 1 + suf.length := by simp; omega
    simp only [List.length_cons] at hc
    have ih := comb_l0 (how := how) (a := a) (b := b) (R := R) suf (pre ++ [r]) (cs ++ [r.f0, r.f1]) (by rw [List.append_assoc]; exact hl) (by simp; omega) (by rw [List.append_assoc]; exact hb) (by simpa [ends] using h)
    refine Ev.step (fun k => ?_) ih
    simp only [redraftref02_combined.l0]
    rw [← hb, if_pos (by omega), if_pos (by omega), rd_at]
    simp only [Option.bind_some]
    rw [if_pos (by simp; omega), e_succ pre r (by omega)]
theorem comb_ev {how : Int} (hh : how = 1 ∨ how = 2 ∨ how = 3) {a b : List S36} (ha : Short a) (hb : Short b) (F : List S36) (hF : Good a → Good b → Nrm F ∧ ∀ q, mem F q ↔ howP how (inB a q) (inB b q) = true) :
    Ev (fun k => redraftref02_combined.f k a b how) (if bothS a b = 0 then few F else ([], bothS a b)) := by
  unfold redraftref02_combined.f
  refine Ev.bind (refCheck_ev ha) ?_
  by_cases c1 : (checkS a).2 = 0
  · simp only [if_pos c1]
    refine Ev.bind (refCheck_ev hb) ?_
    by_cases c2 : (checkS b).2 = 0
    · have hz : bothS a b = 0 := by unfold bothS; rw [if_pos c1, c2]
      simp only [if_pos c2, if_pos hz]
      have ga := checkS_good.1 c1
      have gb := checkS_good.1 c2
      obtain ⟨f1, f2⟩ := hF ga gb
      have la := ga.1
      have lb := gb.1
      refine comb_l0 a [] [] (by simpa using la) (by simp; omega) rfl ?_
      rw [List.nil_append]
      refine comb_l1 b [] (ends a) (by simpa using lb) (by rw [ends_len]; omega) rfl (fun s h1 h2 => ?_) (by rw [ends_len]; omega)
      have hsl : s.length = 2 * a.length + 2 * b.length := by rw [h1.length_eq, List.length_append, ends_len, ends_len]
      have ma : ∀ r ∈ a, r.f0 ∈ s ∧ r.f1 ∈ s := fun r hr => ⟨h1.mem_iff.2 (List.mem_append_left _ (ends_mem hr).1), h1.mem_iff.2 (List.mem_append_left _ (ends_mem hr).2)⟩
      have mb : ∀ r ∈ b, r.f0 ∈ s ∧ r.f1 ∈ s := fun r hr => ⟨h1.mem_iff.2 (List.mem_append_right _ (ends_mem hr).1), h1.mem_iff.2 (List.mem_append_right _ (ends_mem hr).2)⟩
      obtain ⟨g1, g2⟩ := cuts_spec (fun q => howP how (inB a q) (inB b q)) s h2 (fun x y hxy hc => by simp only [inB_const ma hxy hc, inB_const mb hxy hc]) (fun y hc => by simp only [inB_out ma hc, inB_out mb hc, howP_ff]) (fun y hc => by simp only [inB_low ma hc, inB_low mb hc, howP_ff])
      have eF : adds [] (pieces s (s.map fun q => howP how (inB a q) (inB b q))) = F := nrm_ext g1 f1 (fun q => by rw [g2, f2])
      refine comb_l2 hh ga.nrm gb.nrm (by omega) (by omega) rfl s [] (by simp; omega) ?_
      rw [List.nil_append]
      refine Ev.bind (joined_ev (by simp) (by omega) h2) ?_
      rw [eF]
      simp only [reffew]
      exact Ev.now _
    · have hz : ¬ bothS a b = 0 := by unfold bothS; rw [if_pos c1]; exact c2
      simp only [if_neg c2, if_neg hz]
      rw [show bothS a b = (checkS b).2 from by unfold bothS; rw [if_pos c1]]
      exact Ev.now _
  · have hz : ¬ bothS a b = 0 := by unfold bothS; rw [if_neg c1]; exact c1
    simp only [if_neg c1, if_neg hz]
    rw [show bothS a b = (checkS a).2 from by unfold bothS; rw [if_neg c1]]
    exact Ev.now _
theorem refUnion_ev {a b : List S36} (ha : Short a) (hb : Short b) : Ev (fun k => redraftref02_Union.f k a b) (unionA a b) := by
  unfold redraftref02_Union.f
  refine Ev.bind (comb_ev (.inl rfl) ha hb (unionS a b) (fun ga gb => ?_)) ?_
  · obtain ⟨h1, h2⟩ := unionS_spec ga.nrm.ris gb.nrm.ris
    exact ⟨h1, fun q => by rw [h2]; simp [howP, inB_iff]⟩
  · exact Ev.now _
theorem refMeet_ev {a b : List S36} (ha : Short a) (hb : Short b) : Ev (fun k => redraftref02_Meet.f k a b) (meetA a b) := by
  unfold redraftref02_Meet.f
  refine Ev.bind (comb_ev (.inr (.inl rfl)) ha hb (meetS a b) (fun ga gb => ?_)) ?_
  · obtain ⟨h1, h2⟩ := meetS_spec ga.nrm gb.nrm
    exact ⟨h1, fun q => by rw [h2]; simp [howP, inB_iff]⟩
  · exact Ev.now _
theorem refMinus_ev {a b : List S36} (ha : Short a) (hb : Short b) : Ev (fun k => redraftref02_Minus.f k a b) (minusA a b) := by
  unfold redraftref02_Minus.f
  refine Ev.bind (comb_ev (.inr (.inr rfl)) ha hb (minusS a b) (fun ga gb => ?_)) ?_
  · obtain ⟨h1, h2⟩ := minusS_spec ga.nrm gb.nrm
    refine ⟨h1, fun q => ?_⟩
    rw [h2, ← inB_iff, ← inB_iff]
    simp [howP]
  · exact Ev.now _
end Go.Proofs.Ytmidiifgdloojaa.SpanFns
end
section
namespace Go.Proofs.Ytmidiifgdloojaa.SpanFns
open Go.RowKit Go.Proofs.YtmidiifgdloojaaW.PrintWords Go.Proofs.YtmidiifgdloojaaW.PrintMore Go.Proofs.Ytmidiifgdloojaa.Pr Go.Proofs.Ytmidiifgdloojaa.SpanMath
def los (l : List S36) : List Int := l.map (fun r => r.f0)
def his (l : List S36) : List Int := l.map (fun r => r.f1)
theorem cnt_begun (q : Int) : ∀ (l : List S36), (∀ r ∈ l, r.f0 ≤ r.f1) → cntLe (his l) q ≤ cntLe (los l) q ∧ (cntLe (his l) q < cntLe (los l) q ↔ mem l q)
  | [], _ => by simp [cntLe, mem, los, his]
  | r :: l, h => by
    obtain ⟨i1, i2⟩ := cnt_begun q l (fun s hs => h s (List.mem_cons_of_mem _ hs))
    have hr := h r List.mem_cons_self
    have e0 : cntLe (los (r :: l)) q = cntLe (los l) q + if r.f0 ≤ q then 1 else 0 := by simp [cntLe, los, List.countP_cons]
    have e1 : cntLe (his (r :: l)) q = cntLe (his l) q + if r.f1 ≤ q then 1 else 0 := by simp [cntLe, his, List.countP_cons]
    rw [e0, e1, mem_cons, ← i2]
    by_cases c0 : r.f0 ≤ q <;> by_cases c1 : r.f1 ≤ q
    · rw [if_pos c0, if_pos c1]; omega
    · rw [if_pos c0, if_neg c1]; omega
    · omega
    · rw [if_neg c0, if_neg c1]; omega
theorem cntLe_const {l A : List Int} (h : ∀ c ∈ l, c ∈ A) {x y : Int} (hxy : x ≤ y) (hc : ∀ c ∈ A, c ≤ x ∨ y < c) : cntLe l x = cntLe l y := by
  unfold cntLe
  refine List.countP_congr (fun c hm => ?_)
  have := hc c (h c hm)
  simp only [decide_eq_true_iff]
  omega
theorem cntLe_all {l A : List Int} (h : ∀ c ∈ l, c ∈ A) {y : Int} (hc : ∀ c ∈ A, c ≤ y) : cntLe l y = l.length := by
  unfold cntLe
  exact List.countP_eq_length.2 (fun c hm => by simpa using hc c (h c hm))
theorem cntLe_none {l A : List Int} (h : ∀ c ∈ l, c ∈ A) {y : Int} (hc : ∀ c ∈ A, y < c) : cntLe l y = 0 := by
  unfold cntLe
  refine List.countP_eq_zero.2 (fun c hm => ?_)
  have := hc c (h c hm)
  simp only [decide_eq_true_iff]
  omega
theorem Places_l1 {lo hi : List Int} (h1 : lo.Pairwise (· ≤ ·)) (h2 : hi.Pairwise (· ≤ ·)) (l1 : lo.length ≤ 1000000) (l2 : hi.length ≤ 1000000) {p : Int → Bool} (hp : p = fun q => decide ((cntLe lo q : Int) > (cntLe hi q : Int))) {R : List S36} : ∀ (suf pre : List Int),
    (pre ++ suf).length ≤ 1000000 → Ev (fun k => (redraftref02_joined.f k (pre ++ suf) ((pre ++ suf).map p)).bind fun t => some t) R →
    Ev (fun k => redraftref02_Places.l1 k lo hi (pre ++ suf) (pre.map p ++ List.replicate suf.length false) (pre.length : Int)) R
  | [], pre, hl, h => by
    refine Ev.step (fun k => ?_) h
    simp only [redraftref02_Places.l1]
    rw [if_neg (by simp)]
    simp
  | c :: suf, pre, hl, h => by
    have hl1 : (pre ++ c :: suf).length = pre.length + 1 + suf.length := by simp; omega
    refine Ev.step (f := fun k => (redraftref02_upTo.f k lo c).bind fun t => (redraftref02_upTo.f k hi c).bind fun u => redraftref02_Places.l1 k lo hi (pre ++ c :: suf) (pre.map p ++ decide (t > u) :: List.replicate suf.length false) (((pre ++ [c]).length : Nat) : Int)) (fun k => ?_) ?_
    · simp only [redraftref02_Places.l1]
      rw [if_pos (by omega), if_pos (by omega), rdi_at, e_succ' pre c (by omega)]
      congr 1
      funext t
      congr 1
      funext u
      rw [if_pos (by simp; omega), Int.toNat_natCast, List.length_cons, set_rep]
    · refine Ev.bind (upTo_count h1 l1 c) (Ev.bind (upTo_count h2 l2 c) ?_)
      have ih := Places_l1 h1 h2 l1 l2 hp suf (pre ++ [c]) (by rw [List.append_assoc]; exact hl) (by rw [List.append_assoc]; exact h)
      simp only [List.append_assoc, List.singleton_append, List.map_append, List.map_cons, List.map_nil] at ih
      rw [show decide ((cntLe lo c : Int) > (cntLe hi c : Int)) = p c from by rw [hp]]
      exact ih
def tailP (k : Nat) (x3 x4 : List Int) : Option (List S36) := (redraftref02_Sorted.f k x3).bind fun t842 => ((redraftref02_Sorted.f k x4).bind fun t845 => (if ([] : List Int).length + t842.length < 17592186044416 then ((some (([] : List Int) ++ t842 : List Int)).bind fun y848 => (if y848.length + t845.length < 17592186044416 then ((redraftref02_Sorted.f k (y848 ++ t845)).bind fun t854 => (if 0 ≤ (t854.length : Int) then (if ((t854.length : Int) : Int).toNat ≤ 281474976710656 then (redraftref02_Places.l1 k t842 t845 t854 (List.replicate ((t854.length : Int) : Int).toNat false) 0) else (none)) else (none))) else (none))) else (none)))
theorem Places_l0 {R : List S36} : ∀ (suf pre : List S36) (lo hi : List Int), lo.length = pre.length → hi.length = pre.length → (pre ++ suf).length ≤ 100000 → Ev (fun k => tailP k (lo ++ los suf) (hi ++ his suf)) R →
    Ev (fun k => redraftref02_Places.l0 k (pre ++ suf) lo hi (pre.length : Int)) R
  | [], pre, lo, hi, e1, e2, hl, h => by
    refine Ev.step (fun k => ?_) h
    simp only [redraftref02_Places.l0]
    rw [if_neg (by simp)]
    simp [tailP, los, his]
  | r :: suf, pre, lo, hi, e1, e2, hl, h => by
    have hl1 : (pre ++ r :: suf).length = pre.length + 1 + suf.length := by simp; omega
    have ih := Places_l0 (R := R) suf (pre ++ [r]) (lo ++ [r.f0]) (hi ++ [r.f1]) (by simp [e1]) (by simp [e2]) (by rw [List.append_assoc]; exact hl) (by simpa [los, his] using h)
    rw [List.append_assoc, List.singleton_append] at ih
    refine Ev.step (fun k => ?_) ih
    simp only [redraftref02_Places.l0]
    rw [if_pos (by omega), if_pos (by omega), if_pos (by omega), if_pos (by omega), rd_at, e_succ pre r (by omega)]
theorem tailP_ev {l F : List S36} (hl : l.length ≤ 100000) (hr : ∀ r ∈ l, r.f0 ≤ r.f1) (hF : Nrm F) (hm : ∀ q, mem F q ↔ mem l q) : Ev (fun k => tailP k (los l) (his l)) F := by
  have len0 : (los l).length = l.length := by simp [los]
  have len1 : (his l).length = l.length := by simp [his]
  obtain ⟨s, p1, p2, p3⟩ := Sorted_ev l.length (los l) (by omega) (by omega)
  obtain ⟨t, q1, q2, q3⟩ := Sorted_ev l.length (his l) (by omega) (by omega)
  have ls := p1.length_eq
  have lt := q1.length_eq
  obtain ⟨u, r1, r2, r3⟩ := Sorted_ev (2 * l.length) ([] ++ s ++ t) (by simp; omega) (by omega)
  have lu := r1.length_eq
  simp only [List.nil_append, List.length_append] at lu r1
  unfold tailP
  refine Ev.bind p3 (Ev.bind q3 ?_)
  simp only [if_pos (show ([] : List Int).length + s.length < 17592186044416 from by simp; omega), Option.bind_some, if_pos (show ([] ++ s).length + t.length < 17592186044416 from by simp; omega)]
  refine Ev.bind r3 ?_
  simp only [if_pos (show (0 : Int) ≤ (u.length : Int) from by omega), Int.toNat_natCast, if_pos (show u.length ≤ 281474976710656 from by omega)]
  have ms : ∀ c ∈ s, c ∈ u := fun c hc => r1.mem_iff.2 (List.mem_append_left _ hc)
  have mt : ∀ c ∈ t, c ∈ u := fun c hc => r1.mem_iff.2 (List.mem_append_right _ hc)
  have cb : ∀ q, (cntLe s q : Int) > (cntLe t q : Int) ↔ mem l q := fun q => by
    rw [← (cnt_begun q l hr).2, cntLe_perm p1, cntLe_perm q1]
    omega
  obtain ⟨g1, g2⟩ := cuts_spec (fun q => decide ((cntLe s q : Int) > (cntLe t q : Int))) u r2 (fun x y hxy hc => by simp only [cntLe_const ms hxy hc, cntLe_const mt hxy hc]) (fun y hc => by simp only [cntLe_all ms hc, cntLe_all mt hc]; simp; omega) (fun y hc => by simp only [cntLe_none ms hc, cntLe_none mt hc]; simp)
  have eF : adds [] (pieces u (u.map fun q => decide ((cntLe s q : Int) > (cntLe t q : Int)))) = F := nrm_ext g1 hF (fun q => by rw [g2, hm, decide_eq_true_iff, cb])
  refine Places_l1 p2 q2 (by omega) (by omega) rfl u [] (by simp; omega) ?_
  rw [List.nil_append]
  refine Ev.bind (joined_ev (by simp) (by omega) r2) ?_
  rw [eF]
  exact Ev.now _
theorem Places_eq {l F : List S36} (hl : l.length ≤ 100000) (hr : ∀ r ∈ l, r.f0 ≤ r.f1) (hF : Nrm F) (hm : ∀ q, mem F q ↔ mem l q) : Ev (fun k => redraftref02_Places.f k l) F :=
  Places_l0 l [] [] [] rfl rfl hl (tailP_ev hl hr hF hm)
def one (b : Bool) (r : S36) : List S36 := if b then [r] else []
theorem few_short (l : List S36) : Short (few l).1 := by
  unfold few
  split
  · show (0 : Nat) < _; omega
  · show l.length < _; omega
end Go.Proofs.Ytmidiifgdloojaa.SpanFns
end
section
namespace Go.Proofs.Ytmidiifgdloojaa.SpanFns
open Go.RowKit Go.Proofs.YtmidiifgdloojaaW.PrintWords Go.Proofs.YtmidiifgdloojaaW.PrintMore Go.Proofs.Ytmidiifgdloojaa.Pr Go.Proofs.Ytmidiifgdloojaa.SpanMath
def Part (r : S36) : Prop := 0 ≤ r.f0 ∧ r.f0 ≤ r.f1 ∧ r.f1 ≤ 1048576
instance (r : S36) : Decidable (Part r) := by unfold Part; infer_instance
def ofParts (l : List S36) : List S36 := adds [] (span_Make.srt l)
theorem ofParts_spec (l : List S36) : Nrm (ofParts l) ∧ ∀ q, mem (ofParts l) q ↔ mem l q := by
  obtain ⟨h1, h2⟩ := adds_spec (span_Make.srt l) [] nrm_nil (span_Make.srt_ris l).up (fun _ _ _ r hr => by simp at hr)
  exact ⟨h1, fun q => by rw [ofParts, h2, mem_nil, false_or, mem_iff (fun x => (span_Make.srt_perm l).mem_iff) q]⟩
theorem ofParts_len (l : List S36) : (ofParts l).length ≤ l.length := by
  have h := adds_len (span_Make.srt l) []
  rw [(span_Make.srt_perm l).length_eq] at h
  simpa [ofParts] using h
def makeA (l : List S36) : List S36 × Int := if l.length > 32768 then ([], 21) else if ∀ r ∈ l, Part r then (ofParts l, 0) else ([], 20)
theorem makeA_short (l : List S36) : Short (makeA l).1 := by
  unfold makeA
  split
  · show (0 : Nat) < _; omega
  · split
    · have := ofParts_len l
      show (ofParts l).length < _
      omega
    · show (0 : Nat) < _; omega
theorem few_ofParts {l : List S36} (hl : l.length ≤ 32768) : few (ofParts l) = (ofParts l, 0) := by
  have := ofParts_len l
  unfold few
  rw [if_neg (by omega)]
theorem Make_l0 (l : List S36) (hl : l.length ≤ 32768) : ∀ (suf pre : List S36) (k : Nat), pre ++ suf = l → (∀ r ∈ pre, Part r) → suf.length + 1 ≤ k →
    span_Make.l0 k l l (l.length : Int) (pre.length : Int) = some (if ∀ r ∈ l, Part r then (ofParts l, 0) else ([], 20))
  | [], pre, k, e, hp, hk => by
    obtain ⟨k, rfl⟩ : ∃ m, k = m + 1 := ⟨k - 1, by omega⟩
    simp only [List.append_nil] at e
    subst e
    simp only [span_Make.l0]
    rw [if_neg (by omega), if_pos (by omega), if_pos (by omega), if_pos hp]
    unfold span_Make.fin
    rw [if_pos ⟨hl, fun r hr => ⟨(hp r hr).1, by have := hp r hr; unfold Part at this; omega⟩⟩]
    show ((span_bounded.f (ofParts pre)).bind fun b => some (b.1, b.2)) = _
    rw [bounded_few, few_ofParts hl]
  | r :: suf, pre, k, e, hp, hk => by
    simp only [List.length_cons] at hk
    obtain ⟨k, rfl⟩ : ∃ m, k = m + 1 := ⟨k - 1, by omega⟩
    have hl1 : l.length = pre.length + 1 + suf.length := by rw [← e]; simp; omega
    have hr : r ∈ l := by rw [← e]; simp
    have hrd : rd_T36 l (pre.length : Int) = r := by rw [← e]; exact rd_at pre r suf
    simp only [span_Make.l0]
    rw [if_pos (by omega), if_pos (by omega), if_pos (by omega), hrd]
    by_cases c : Part r
    · obtain ⟨c1, c2, c3⟩ := c
      rw [if_neg (by omega), if_neg (by omega), if_neg (by omega), e_succ pre r (by omega)]
      exact Make_l0 l hl suf (pre ++ [r]) k (by rw [List.append_assoc]; exact e) (fun s hs => by
        rcases List.mem_append.1 hs with hs | hs
        · exact hp s hs
        · have : s = r := by simpa using hs
          rw [this]; exact ⟨c1, c2, c3⟩) (by omega)
    · rw [if_neg (show ¬ ∀ r ∈ l, Part r from fun h => c (h r hr))]
      by_cases c1 : r.f0 < 0
      · rw [if_pos c1]
      · rw [if_neg c1]
        by_cases c2 : r.f1 > 1048576
        · rw [if_pos c2]
        · rw [if_neg c2, if_pos (by unfold Part at c; omega)]
theorem Make_f (l : List S36) : span_Make.f l = some (makeA l) := by
  unfold span_Make.f makeA
  by_cases c : l.length > 32768
  · rw [if_pos (by omega), if_pos c]
  · rw [if_neg (by omega), if_neg c]
    exact Make_l0 l (by omega) l [] _ rfl (by simp) (Nat.le_refl _)
theorem refMake_l0 (l : List S36) (hl : l.length ≤ 32768) : ∀ (suf pre : List S36), pre ++ suf = l → (∀ r ∈ pre, Part r) →
    Ev (fun k => redraftref02_Make.l0 k l (pre.length : Int)) (if ∀ r ∈ l, Part r then (ofParts l, 0) else ([], 20))
  | [], pre, e, hp => by
    simp only [List.append_nil] at e
    subst e
    rw [if_pos hp]
    refine Ev.step (f := fun k => (redraftref02_Places.f k pre).bind fun t => (redraftref02_few.f t).bind fun b => some (b.1, b.2)) (fun k => ?_) ?_
    · simp only [redraftref02_Make.l0]
      rw [if_neg (by omega)]
    · refine Ev.bind (Places_eq (by omega) (fun r hr => (hp r hr).2.1) (ofParts_spec pre).1 (ofParts_spec pre).2) ?_
      simp only [reffew, few_ofParts hl]
      exact Ev.now _
  | r :: suf, pre, e, hp => by
    have hl1 : l.length = pre.length + 1 + suf.length := by rw [← e]; simp; omega
    have hr : r ∈ l := by rw [← e]; simp
    have hrd : rd_T36 l (pre.length : Int) = r := by rw [← e]; exact rd_at pre r suf
    by_cases c : Part r
    · obtain ⟨c1, c2, c3⟩ := c
      refine Ev.step (fun k => ?_) (refMake_l0 l hl suf (pre ++ [r]) (by rw [List.append_assoc]; exact e) (fun s hs => by
        rcases List.mem_append.1 hs with hs | hs
        · exact hp s hs
        · have : s = r := by simpa using hs
          rw [this]; exact ⟨c1, c2, c3⟩))
      simp only [redraftref02_Make.l0]
      rw [if_pos (by omega), if_pos (by omega), hrd, if_neg (by omega), if_neg (by omega), if_neg (by omega), e_succ pre r (by omega)]
    · rw [if_neg (show ¬ ∀ r ∈ l, Part r from fun h => c (h r hr))]
      refine Ev.step (f := fun _ => some ([], 20)) (fun k => ?_) (Ev.now _)
      simp only [redraftref02_Make.l0]
      rw [if_pos (by omega), if_pos (by omega), hrd]
      by_cases c1 : r.f0 < 0
      · rw [if_pos c1]
      · rw [if_neg c1]
        by_cases c2 : r.f1 > 1048576
        · rw [if_pos c2]
        · rw [if_neg c2, if_pos (by unfold Part at c; omega)]
theorem refMake_ev (l : List S36) : Ev (fun k => redraftref02_Make.f k l) (makeA l) := by
  unfold redraftref02_Make.f makeA
  by_cases c : l.length > 32768
  · simp only [if_pos (show (l.length : Int) > 32768 from by omega), if_pos c]
    exact Ev.now _
  · simp only [if_neg (show ¬ (l.length : Int) > 32768 from by omega), if_neg c]
    exact refMake_l0 l (by omega) l [] rfl (by simp)
theorem unionA_short (a b : List S36) : Short (unionA a b).1 := by
  unfold unionA
  split
  · exact few_short _
  · show (0 : Nat) < _; omega
theorem meetA_short (a b : List S36) : Short (meetA a b).1 := by
  unfold meetA
  split
  · exact few_short _
  · show (0 : Nat) < _; omega
theorem minusA_short (a b : List S36) : Short (minusA a b).1 := by
  unfold minusA
  split
  · exact few_short _
  · show (0 : Nat) < _; omega
end Go.Proofs.Ytmidiifgdloojaa.SpanFns
end
section
namespace Go.Proofs.Ytmidiifgdloojaa.Kt
open Go.Proofs.Ytmidiifgdloojaa.Pr
open Go.RowKit Go.Proofs.YtmidiifgdloojaaW.PrintWords Go.Proofs.YtmidiifgdloojaaW.PrintLast Go.Proofs.YtmidiifgdloojaaW.PrintMore
attribute [local go_sem] max2_int min2_int max_two min_two max_three min_three max_four min_four
set_option linter.unusedVariables false
set_option linter.unusedSimpArgs false
def redraftlaw02_counts.f (a0_0 : Int) (l0_1 : List (S36)) (l0_2 : List (S36)) (a0_3 : Int) (a0_4 : Int) : Option (Bool) := none
set_option maxHeartbeats 8000000 in
set_option maxRecDepth 100000 in
theorem redraftlaw02_counts.calls (a0_0 : Int) (A0_1 : Option Addr) (c0_1 : Nat) (l0_1 : List (S36)) (A0_2 : Option Addr) (c0_2 : Nat) (l0_2 : List (S36)) (a0_3 : Int) (a0_4 : Int) (r : Bool) (w : World) (hr0_1 : Kd.C k36 w A0_1 l0_1.length l0_1) (hc0_1 : l0_1.length ≤ c0_1) (hr0_2 : Kd.C k36 w A0_2 l0_2.length l0_2) (hc0_2 : l0_2.length ≤ c0_2) (h : redraftlaw02_counts.f a0_0 l0_1 l0_2 a0_3 a0_4 = some r) :
  Calls Try.prog 62 #[.agg #[.int .i64 a0_0, .slice A0_1 l0_1.length c0_1, .slice A0_2 l0_2.length c0_2, .int .i64 a0_3, .int .i64 a0_4]] w fun e w' => e = .returned (.bool r) ∧ Below w.heap.size w w' := by
 have hu76 := Try.underlying76
 have HR0_1 := Aside0.mk hr0_1
 have HC0_1 := Aside0.mk hc0_1
 clear hr0_1 hc0_1
 have HR0_2 := Aside0.mk hr0_2
 have HC0_2 := Aside0.mk hc0_2
 clear hr0_2 hc0_2
 have HB := Aside0.mk (Below.refl w.heap.size w)
 have H : (none) = some r := h
 clear h
 exact absurd H (by simp)
end Go.Proofs.Ytmidiifgdloojaa.Kt
end
section
namespace Go.Proofs.Ytmidiifgdloojaa.Kt
open Go.Proofs.Ytmidiifgdloojaa.Pr
open Go.RowKit Go.Proofs.YtmidiifgdloojaaW.PrintWords Go.Proofs.YtmidiifgdloojaaW.PrintLast Go.Proofs.YtmidiifgdloojaaW.PrintMore
attribute [local go_sem] max2_int min2_int max_two min_two max_three min_three max_four min_four
set_option linter.unusedVariables false
set_option linter.unusedSimpArgs false
def redraftlaw02_moves.f (a0_0 : Int) (l0_1 : List (S36)) (l0_2 : List (S36)) (a0_3 : Int) (a0_4 : Int) : Option (Bool) := none
set_option maxHeartbeats 8000000 in
set_option maxRecDepth 100000 in
theorem redraftlaw02_moves.calls (a0_0 : Int) (A0_1 : Option Addr) (c0_1 : Nat) (l0_1 : List (S36)) (A0_2 : Option Addr) (c0_2 : Nat) (l0_2 : List (S36)) (a0_3 : Int) (a0_4 : Int) (r : Bool) (w : World) (hr0_1 : Kd.C k36 w A0_1 l0_1.length l0_1) (hc0_1 : l0_1.length ≤ c0_1) (hr0_2 : Kd.C k36 w A0_2 l0_2.length l0_2) (hc0_2 : l0_2.length ≤ c0_2) (h : redraftlaw02_moves.f a0_0 l0_1 l0_2 a0_3 a0_4 = some r) :
  Calls Try.prog 63 #[.agg #[.int .i64 a0_0, .slice A0_1 l0_1.length c0_1, .slice A0_2 l0_2.length c0_2, .int .i64 a0_3, .int .i64 a0_4]] w fun e w' => e = .returned (.bool r) ∧ Below w.heap.size w w' := by
 have hu76 := Try.underlying76
 have HR0_1 := Aside0.mk hr0_1
 have HC0_1 := Aside0.mk hc0_1
 clear hr0_1 hc0_1
 have HR0_2 := Aside0.mk hr0_2
 have HC0_2 := Aside0.mk hc0_2
 clear hr0_2 hc0_2
 have HB := Aside0.mk (Below.refl w.heap.size w)
 have H : (none) = some r := h
 clear h
 exact absurd H (by simp)
end Go.Proofs.Ytmidiifgdloojaa.Kt
end
section
namespace Go.Proofs.Ytmidiifgdloojaa.Kt
open Go.Proofs.Ytmidiifgdloojaa.Pr
open Go.RowKit Go.Proofs.YtmidiifgdloojaaW.PrintWords Go.Proofs.YtmidiifgdloojaaW.PrintLast Go.Proofs.YtmidiifgdloojaaW.PrintMore
attribute [local go_sem] max2_int min2_int max_two min_two max_three min_three max_four min_four
set_option linter.unusedVariables false
set_option linter.unusedSimpArgs false
def redraftlaw02_gives.f (a0_0 : Int) (l0_1 : List (S36)) (l0_2 : List (S36)) (a0_3 : Int) (a0_4 : Int) : Option (Bool) := none
set_option maxHeartbeats 8000000 in
set_option maxRecDepth 100000 in
theorem redraftlaw02_gives.calls (a0_0 : Int) (A0_1 : Option Addr) (c0_1 : Nat) (l0_1 : List (S36)) (A0_2 : Option Addr) (c0_2 : Nat) (l0_2 : List (S36)) (a0_3 : Int) (a0_4 : Int) (r : Bool) (w : World) (hr0_1 : Kd.C k36 w A0_1 l0_1.length l0_1) (hc0_1 : l0_1.length ≤ c0_1) (hr0_2 : Kd.C k36 w A0_2 l0_2.length l0_2) (hc0_2 : l0_2.length ≤ c0_2) (h : redraftlaw02_gives.f a0_0 l0_1 l0_2 a0_3 a0_4 = some r) :
  Calls Try.prog 64 #[.agg #[.int .i64 a0_0, .slice A0_1 l0_1.length c0_1, .slice A0_2 l0_2.length c0_2, .int .i64 a0_3, .int .i64 a0_4]] w fun e w' => e = .returned (.bool r) ∧ Below w.heap.size w w' := by
 have hu76 := Try.underlying76
 have HR0_1 := Aside0.mk hr0_1
 have HC0_1 := Aside0.mk hc0_1
 clear hr0_1 hc0_1
 have HR0_2 := Aside0.mk hr0_2
 have HC0_2 := Aside0.mk hc0_2
 clear hr0_2 hc0_2
 have HB := Aside0.mk (Below.refl w.heap.size w)
 have H : (none) = some r := h
 clear h
 exact absurd H (by simp)
end Go.Proofs.Ytmidiifgdloojaa.Kt
end
section
namespace Go.Proofs.Ytmidiifgdloojaa.Kt
open Go.Proofs.Ytmidiifgdloojaa.Pr
open Go.RowKit Go.Proofs.YtmidiifgdloojaaW.PrintWords Go.Proofs.YtmidiifgdloojaaW.PrintLast Go.Proofs.YtmidiifgdloojaaW.PrintMore
attribute [local go_sem] max2_int min2_int max_two min_two max_three min_three max_four min_four
set_option linter.unusedVariables false
set_option linter.unusedSimpArgs false
mutual
def redraftlaw02_plays.j0 : Nat → Int → Bool → Int → List (S36) → List (S36) → Int → Int → Option (Bool)
 | 0, _, _, _, _, _, _, _ => none
 | k + 1, x8, x29, x553000, x553001, x553002, x553003, x553004 => if x29 = true then ((redraftlaw02_sets.f k x553000 x553001 x553002 x553003 x553004).bind fun t561 => (some t561)) else (if x8 = 6 then (redraftlaw02_plays.j1 k x8 (x8 == 6) x553000 x553001 x553002 x553003 x553004) else (if x8 = 7 then (redraftlaw02_plays.j1 k x8 (x8 == 7) x553000 x553001 x553002 x553003 x553004) else (redraftlaw02_plays.j1 k x8 (x8 == 8) x553000 x553001 x553002 x553003 x553004)))
def redraftlaw02_plays.j1 : Nat → Int → Bool → Int → List (S36) → List (S36) → Int → Int → Option (Bool)
 | 0, _, _, _, _, _, _, _ => none
 | k + 1, x8, x36, x553000, x553001, x553002, x553003, x553004 => if x36 = true then ((redraftlaw02_counts.f x553000 x553001 x553002 x553003 x553004).bind fun t562 => (some t562)) else (if x8 = 9 then (redraftlaw02_plays.j2 k x8 (x8 == 9) x553000 x553001 x553002 x553003 x553004) else (redraftlaw02_plays.j2 k x8 (x8 == 10) x553000 x553001 x553002 x553003 x553004))
def redraftlaw02_plays.j2 : Nat → Int → Bool → Int → List (S36) → List (S36) → Int → Int → Option (Bool)
 | 0, _, _, _, _, _, _, _ => none
 | k + 1, x8, x42, x553000, x553001, x553002, x553003, x553004 => if x42 = true then ((redraftlaw02_moves.f x553000 x553001 x553002 x553003 x553004).bind fun t563 => (some t563)) else (if x8 = 11 then ((redraftlaw02_gives.f x553000 x553001 x553002 x553003 x553004).bind fun t564 => (some t564)) else (some true))
end
def redraftlaw02_plays.f (k : Nat) (a0_0 : Int) (l0_1 : List (S36)) (l0_2 : List (S36)) (a0_3 : Int) (a0_4 : Int) : Option (Bool) := if a0_0 = 1 then ((redraftlaw02_copied.f l0_1).bind fun t553 => ((span_Check.f k t553).bind fun bt556 => ((redraftref02_Check.f k l0_1).bind fun bt558 => ((redraftlaw02_number.f bt556.1 bt556.2 bt558.1 bt558.2).bind fun t560 => (some t560))))) else (if a0_0 = 2 then (redraftlaw02_plays.j0 k a0_0 (a0_0 == 2) a0_0 l0_1 l0_2 a0_3 a0_4) else (if a0_0 = 3 then (redraftlaw02_plays.j0 k a0_0 (a0_0 == 3) a0_0 l0_1 l0_2 a0_3 a0_4) else (if a0_0 = 4 then (redraftlaw02_plays.j0 k a0_0 (a0_0 == 4) a0_0 l0_1 l0_2 a0_3 a0_4) else (redraftlaw02_plays.j0 k a0_0 (a0_0 == 5) a0_0 l0_1 l0_2 a0_3 a0_4))))
theorem redraftlaw02_plays.mono_l : ∀ k, (∀ y0 y1 y2 y3 y4 y5 y6, LeO (redraftlaw02_plays.j0 k y0 y1 y2 y3 y4 y5 y6) (redraftlaw02_plays.j0 (k + 1) y0 y1 y2 y3 y4 y5 y6)) ∧ (∀ y0 y1 y2 y3 y4 y5 y6, LeO (redraftlaw02_plays.j1 k y0 y1 y2 y3 y4 y5 y6) (redraftlaw02_plays.j1 (k + 1) y0 y1 y2 y3 y4 y5 y6)) ∧ (∀ y0 y1 y2 y3 y4 y5 y6, LeO (redraftlaw02_plays.j2 k y0 y1 y2 y3 y4 y5 y6) (redraftlaw02_plays.j2 (k + 1) y0 y1 y2 y3 y4 y5 y6))
 | 0 => ⟨fun _ _ _ _ _ _ _ r h => by simp [redraftlaw02_plays.j0] at h, fun _ _ _ _ _ _ _ r h => by simp [redraftlaw02_plays.j1] at h, fun _ _ _ _ _ _ _ r h => by simp [redraftlaw02_plays.j2] at h⟩
 | k + 1 => by
  obtain ⟨ih0, ih1, ih2⟩ := redraftlaw02_plays.mono_l k
  refine ⟨?_, ?_, ?_⟩
  ·intro y0 y1 y2 y3 y4 y5 y6
   unfold redraftlaw02_plays.j0
   repeat' first
   | (with_reducible exact ih0 _ _ _ _ _ _ _)
   | (with_reducible exact ih1 _ _ _ _ _ _ _)
   | (with_reducible exact ih2 _ _ _ _ _ _ _)
   | (with_reducible exact redraftlaw02_sets.mono _ _ _ _ _ _)
   | (with_reducible exact redraftref02_Check.mono _ _)
   | (with_reducible exact span_Check.mono _ _)
   | (with_reducible exact LeO.refl _)
   | (with_reducible exact LeO.none _)
   | (with_reducible refine LeO.ite ?_ ?_)
   | (with_reducible refine LeO.bind ?_ (fun _ => ?_))
   | exact ih0 _ _ _ _ _ _ _
   | exact ih1 _ _ _ _ _ _ _
   | exact ih2 _ _ _ _ _ _ _
   | exact redraftlaw02_sets.mono _ _ _ _ _ _
   | exact redraftref02_Check.mono _ _
   | exact span_Check.mono _ _
   | exact LeO.none _
   | refine LeO.ite ?_ ?_
   | refine LeO.bind ?_ (fun _ => ?_)
  ·intro y0 y1 y2 y3 y4 y5 y6
   unfold redraftlaw02_plays.j1
   repeat' first
   | (with_reducible exact ih0 _ _ _ _ _ _ _)
   | (with_reducible exact ih1 _ _ _ _ _ _ _)
   | (with_reducible exact ih2 _ _ _ _ _ _ _)
   | (with_reducible exact redraftlaw02_sets.mono _ _ _ _ _ _)
   | (with_reducible exact redraftref02_Check.mono _ _)
   | (with_reducible exact span_Check.mono _ _)
   | (with_reducible exact LeO.refl _)
   | (with_reducible exact LeO.none _)
   | (with_reducible refine LeO.ite ?_ ?_)
   | (with_reducible refine LeO.bind ?_ (fun _ => ?_))
   | exact ih0 _ _ _ _ _ _ _
   | exact ih1 _ _ _ _ _ _ _
   | exact ih2 _ _ _ _ _ _ _
   | exact redraftlaw02_sets.mono _ _ _ _ _ _
   | exact redraftref02_Check.mono _ _
   | exact span_Check.mono _ _
   | exact LeO.none _
   | refine LeO.ite ?_ ?_
   | refine LeO.bind ?_ (fun _ => ?_)
  ·intro y0 y1 y2 y3 y4 y5 y6
   unfold redraftlaw02_plays.j2
   repeat' first
   | (with_reducible exact ih0 _ _ _ _ _ _ _)
   | (with_reducible exact ih1 _ _ _ _ _ _ _)
   | (with_reducible exact ih2 _ _ _ _ _ _ _)
   | (with_reducible exact redraftlaw02_sets.mono _ _ _ _ _ _)
   | (with_reducible exact redraftref02_Check.mono _ _)
   | (with_reducible exact span_Check.mono _ _)
   | (with_reducible exact LeO.refl _)
   | (with_reducible exact LeO.none _)
   | (with_reducible refine LeO.ite ?_ ?_)
   | (with_reducible refine LeO.bind ?_ (fun _ => ?_))
   | exact ih0 _ _ _ _ _ _ _
   | exact ih1 _ _ _ _ _ _ _
   | exact ih2 _ _ _ _ _ _ _
   | exact redraftlaw02_sets.mono _ _ _ _ _ _
   | exact redraftref02_Check.mono _ _
   | exact span_Check.mono _ _
   | exact LeO.none _
   | refine LeO.ite ?_ ?_
   | refine LeO.bind ?_ (fun _ => ?_)
theorem redraftlaw02_plays.mono : ∀ a0 a1 a2 a3 a4 k, LeO (redraftlaw02_plays.f k a0 a1 a2 a3 a4) (redraftlaw02_plays.f (k + 1) a0 a1 a2 a3 a4) := by
 intro a0 a1 a2 a3 a4 k
 obtain ⟨ih0, ih1, ih2⟩ := redraftlaw02_plays.mono_l k
 unfold redraftlaw02_plays.f
 repeat' first
   | (with_reducible exact ih0 _ _ _ _ _ _ _)
   | (with_reducible exact ih1 _ _ _ _ _ _ _)
   | (with_reducible exact ih2 _ _ _ _ _ _ _)
   | (with_reducible exact redraftlaw02_sets.mono _ _ _ _ _ _)
   | (with_reducible exact redraftref02_Check.mono _ _)
   | (with_reducible exact span_Check.mono _ _)
   | (with_reducible exact LeO.refl _)
   | (with_reducible exact LeO.none _)
   | (with_reducible refine LeO.ite ?_ ?_)
   | (with_reducible refine LeO.bind ?_ (fun _ => ?_))
   | exact ih0 _ _ _ _ _ _ _
   | exact ih1 _ _ _ _ _ _ _
   | exact ih2 _ _ _ _ _ _ _
   | exact redraftlaw02_sets.mono _ _ _ _ _ _
   | exact redraftref02_Check.mono _ _
   | exact span_Check.mono _ _
   | exact LeO.none _
   | refine LeO.ite ?_ ?_
   | refine LeO.bind ?_ (fun _ => ?_)
set_option maxHeartbeats 8000000 in
set_option maxRecDepth 100000 in
theorem redraftlaw02_plays.calls (k : Nat) (a0_0 : Int) (A0_1 : Option Addr) (c0_1 : Nat) (l0_1 : List (S36)) (A0_2 : Option Addr) (c0_2 : Nat) (l0_2 : List (S36)) (a0_3 : Int) (a0_4 : Int) (r : Bool) (w : World) (hr0_1 : Kd.C k36 w A0_1 l0_1.length l0_1) (hc0_1 : l0_1.length ≤ c0_1) (hr0_2 : Kd.C k36 w A0_2 l0_2.length l0_2) (hc0_2 : l0_2.length ≤ c0_2) (h : redraftlaw02_plays.f k a0_0 l0_1 l0_2 a0_3 a0_4 = some r) :
  Calls Try.prog 57 #[.agg #[.int .i64 a0_0, .slice A0_1 l0_1.length c0_1, .slice A0_2 l0_2.length c0_2, .int .i64 a0_3, .int .i64 a0_4]] w fun e w' => e = .returned (.bool r) ∧ Below w.heap.size w w' := by
 have hu76 := Try.underlying76
 have HR0_1 := Aside0.mk hr0_1
 have HC0_1 := Aside0.mk hc0_1
 clear hr0_1 hc0_1
 have HR0_2 := Aside0.mk hr0_2
 have HC0_2 := Aside0.mk hc0_2
 clear hr0_2 hc0_2
 have HB := Aside0.mk (Below.refl w.heap.size w)
 have H : (if a0_0 = 1 then ((redraftlaw02_copied.f l0_1).bind fun t553 => ((span_Check.f k t553).bind fun bt556 => ((redraftref02_Check.f k l0_1).bind fun bt558 => ((redraftlaw02_number.f bt556.1 bt556.2 bt558.1 bt558.2).bind fun t560 => (some t560))))) else (if a0_0 = 2 then (redraftlaw02_plays.j0 k a0_0 (a0_0 == 2) a0_0 l0_1 l0_2 a0_3 a0_4) else (if a0_0 = 3 then (redraftlaw02_plays.j0 k a0_0 (a0_0 == 3) a0_0 l0_1 l0_2 a0_3 a0_4) else (if a0_0 = 4 then (redraftlaw02_plays.j0 k a0_0 (a0_0 == 4) a0_0 l0_1 l0_2 a0_3 a0_4) else (redraftlaw02_plays.j0 k a0_0 (a0_0 == 5) a0_0 l0_1 l0_2 a0_3 a0_4))))) = some r := h
 clear h
 by_cases c2 : a0_0 = 1
 ·rw [if_pos c2] at H
  have c2b0 : (a0_0 == 1) = true := beq_iff_eq.mpr c2
  have c2b1 : (a0_0 != 1) = false := bne_eq_false_iff_eq.mpr c2
  clear c2
  replace H := Option.bind_eq_some_iff.mp H
  obtain ⟨t553, A30, H⟩ := H
  replace H : ((span_Check.f k t553).bind fun bt556 => ((redraftref02_Check.f k l0_1).bind fun bt558 => ((redraftlaw02_number.f bt556.1 bt556.2 bt558.1 bt558.2).bind fun t560 => (some t560)))) = some r := H
  have A3 := Aside0.mk A30
  clear A30
  replace H := Option.bind_eq_some_iff.mp H
  obtain ⟨⟨t556, t557⟩, A40, H⟩ := H
  replace H : ((redraftref02_Check.f k l0_1).bind fun bt558 => ((redraftlaw02_number.f t556 t557 bt558.1 bt558.2).bind fun t560 => (some t560))) = some r := H
  have A4 := Aside0.mk A40
  clear A40
  replace H := Option.bind_eq_some_iff.mp H
  obtain ⟨⟨t558, t559⟩, A50, H⟩ := H
  replace H : ((redraftlaw02_number.f t556 t557 t558 t559).bind fun t560 => (some t560)) = some r := H
  have A5 := Aside0.mk A50
  clear A50
  replace H := Option.bind_eq_some_iff.mp H
  obtain ⟨t560, A60, H⟩ := H
  replace H : (some t560) = some r := H
  have A6 := Aside0.mk A60
  clear A60
  obtain rfl := Option.some.inj H
  go_enter Try.func57, Try.ntmps57
  go_wp2_with (first | ((with_reducible refine gate_dst (N := 1) rfl ?_); refine box_event ?hg (N := 1) ?hd (cs := #[.int .i64 a0_0, .slice A0_1 l0_1.length c0_1, .slice A0_2 l0_2.length c0_2, .int .i64 a0_3, .int .i64 a0_4]) (t := 76) ?hr ?_; (case hd => rfl); (case hg => rfl); (case hr => first | (go_simp; done) | (go_simp; rfl)); intro gb552 hg w7 hbox hb; have n0_ := Aside0.mk (below_step (by repeat (first | (with_reducible first | exact HB.out | apply below_alloc | apply pw_below_drewN | apply below_drew1) | exact HB.out)) hb); have n1_ := Aside0.mk (hbox); have n2_ := Aside0.mk ((by rw [hg]; exact (below_size (by repeat (first | (with_reducible first | exact HB.out | apply below_alloc | apply pw_below_drewN | apply below_drew1) | exact HB.out))) : w.heap.size ≤ gb552)); have n3_ := Aside0.mk ((by rw [hg]; exact (below_size (by repeat (first | (with_reducible first | exact HB.out | apply below_alloc | apply pw_below_drewN | apply below_drew1) | exact HB.out))) : w.heap.size ≤ gb552)); clear HB; have HB := n0_; have BK552 := n1_; have GW552 := n2_; have GE552 := n3_; clear n0_ n1_ n2_ n3_; clear hb hbox hg; have hcz8_0 : w7.cell? ⟨gb552, 0, none⟩ = some (.int .i64 a0_0) := (blk_cell BK552.out 0).trans rfl; have hcz8_1 : w7.cell? ⟨gb552, 1, none⟩ = some (.slice A0_1 l0_1.length c0_1) := (blk_cell BK552.out 1).trans rfl; have hcz8_2 : w7.cell? ⟨gb552, 2, none⟩ = some (.slice A0_2 l0_2.length c0_2) := (blk_cell BK552.out 2).trans rfl; have hcz8_3 : w7.cell? ⟨gb552, 3, none⟩ = some (.int .i64 a0_3) := (blk_cell BK552.out 3).trans rfl; have hcz8_4 : w7.cell? ⟨gb552, 4, none⟩ = some (.int .i64 a0_4) := (blk_cell BK552.out 4).trans rfl; have hfz8_0 := blk_frozen BK552.out 0; have hfz8_1 := blk_frozen BK552.out 1; have hfz8_2 := blk_frozen BK552.out 2; have hfz8_3 := blk_frozen BK552.out 3; have hfz8_4 := blk_frozen BK552.out 4) | ((with_reducible refine gate_callee (f := 17) rfl ?_); refine goesL_ (some 14) rfl rfl Try.func17 (by kernel_rfl) rfl #[.slice A0_1 l0_1.length c0_1] rfl (by (try simp only [List.map_toArray, List.map_cons, List.map_nil]); first | done | rfl | (simp only [List.length_drop, List.length_take]; rfl)) ?_; (with_reducible refine (redraftlaw02_copied.calls _ _ l0_1 t553 _ ?side1 ?side2 A3.out).mono ?_); (case side1 => repeat (first | exact (Kd.C_below HR0_1.out HB.out) | (with_reducible refine Kd.C_alloc ?_ _) | (with_reducible refine Kd.C_drewN ?_ _) | (with_reducible refine Kd.C_drew ?_))); (case side2 => exact HC0_1.out); rintro e w9 ⟨v554, rfl, ho0, hb⟩; refine ⟨_, rfl, ?_⟩; have n0_ := Aside0.mk (Kd.R_lower ho0 (below_size (by repeat (first | (with_reducible first | exact HB.out | apply below_alloc | apply pw_below_drewN | apply below_drew1 | refine below_set ?_ GE552.out) | exact HB.out)))); have n1_ := Aside0.mk (blk_below (g := gb552) (o := .cells #[.int .i64 a0_0, .slice A0_1 l0_1.length c0_1, .slice A0_2 l0_2.length c0_2, .int .i64 a0_3, .int .i64 a0_4] 76 (0, 0)) (by (with_reducible repeat (first | refine blk_drewN ?_ _ | refine blk_drew ?_ | refine blk_alloc ?_ _)); exact BK552.out) hb); have n2_ := Aside0.mk (below_step (by repeat (first | (with_reducible first | exact HB.out | apply below_alloc | apply pw_below_drewN | apply below_drew1 | refine below_set ?_ GE552.out) | exact HB.out)) hb); clear BK552; clear HB; have HO555 := n0_; have BK552 := n1_; have HB := n2_; clear n0_ n1_ n2_; (try clear hb); (try clear hb2); (try clear hk); (try clear hi); (try clear ho0); obtain ⟨Ao10, co10, eo10⟩ := Kd.R_slice HO555.out; subst eo10) | ((with_reducible refine gate_callee (f := 51) rfl ?_); refine goesL_ (some 15) rfl rfl Try.func51 (by kernel_rfl) rfl #[.slice Ao10 t553.length co10] rfl (by (try simp only [List.map_toArray, List.map_cons, List.map_nil]); first | done | rfl | (simp only [List.length_drop, List.length_take]; rfl)) ?_; (with_reducible refine (span_Check.calls k _ _ t553 t556 t557 _ ?side1 ?side2 A4.out).mono ?_); (case side1 => repeat (first | exact (Kd.R_reads' HO555.out).2.2 | (with_reducible refine Kd.C_alloc ?_ _) | (with_reducible refine Kd.C_drewN ?_ _) | (with_reducible refine Kd.C_drew ?_))); (case side2 => exact (Kd.R_reads' HO555.out).2.1); rintro e w11 ⟨rfl, hb⟩; refine ⟨_, rfl, ?_⟩; have n0_ := Aside0.mk (Kd.R_below (by (with_reducible repeat (first | apply Kd.R_alloc | apply Kd.R_drewN | apply Kd.R_drew)); exact HO555.out) hb); have n1_ := Aside0.mk (blk_below (g := gb552) (o := .cells #[.int .i64 a0_0, .slice A0_1 l0_1.length c0_1, .slice A0_2 l0_2.length c0_2, .int .i64 a0_3, .int .i64 a0_4] 76 (0, 0)) (by (with_reducible repeat (first | refine blk_drewN ?_ _ | refine blk_drew ?_ | refine blk_alloc ?_ _)); exact BK552.out) hb); have n2_ := Aside0.mk (below_step (by repeat (first | (with_reducible first | exact HB.out | apply below_alloc | apply pw_below_drewN | apply below_drew1 | refine below_set ?_ GE552.out) | exact HB.out)) hb); clear HO555; clear BK552; clear HB; have HO555 := n0_; have BK552 := n1_; have HB := n2_; clear n0_ n1_ n2_; (try clear hb); (try clear hb2); (try clear hk); (try clear hi); have hcz12_0 : w11.cell? ⟨gb552, 0, none⟩ = some (.int .i64 a0_0) := (blk_cell BK552.out 0).trans rfl; have hcz12_1 : w11.cell? ⟨gb552, 1, none⟩ = some (.slice A0_1 l0_1.length c0_1) := (blk_cell BK552.out 1).trans rfl; have hcz12_2 : w11.cell? ⟨gb552, 2, none⟩ = some (.slice A0_2 l0_2.length c0_2) := (blk_cell BK552.out 2).trans rfl; have hcz12_3 : w11.cell? ⟨gb552, 3, none⟩ = some (.int .i64 a0_3) := (blk_cell BK552.out 3).trans rfl; have hcz12_4 : w11.cell? ⟨gb552, 4, none⟩ = some (.int .i64 a0_4) := (blk_cell BK552.out 4).trans rfl; have hfz12_0 := blk_frozen BK552.out 0; have hfz12_1 := blk_frozen BK552.out 1; have hfz12_2 := blk_frozen BK552.out 2; have hfz12_3 := blk_frozen BK552.out 3; have hfz12_4 := blk_frozen BK552.out 4) | ((with_reducible refine gate_callee (f := 54) rfl ?_); refine goesL_ (some 21) rfl rfl Try.func54 (by kernel_rfl) rfl #[.slice A0_1 l0_1.length c0_1] rfl (by (try simp only [List.map_toArray, List.map_cons, List.map_nil]); first | done | rfl | (simp only [List.length_drop, List.length_take]; rfl)) ?_; (with_reducible refine (redraftref02_Check.calls k _ _ l0_1 t558 t559 _ ?side1 ?side2 A5.out).mono ?_); (case side1 => repeat (first | exact (Kd.C_below HR0_1.out HB.out) | (with_reducible refine Kd.C_alloc ?_ _) | (with_reducible refine Kd.C_drewN ?_ _) | (with_reducible refine Kd.C_drew ?_))); (case side2 => exact HC0_1.out); rintro e w' ⟨rfl, ⟨nd, rfl⟩⟩; refine ⟨_, rfl, ?_⟩) | ((with_reducible refine gate_callee (f := 60) rfl ?_); refine goesL_ (some 28) rfl rfl Try.func60 (by kernel_rfl) rfl #[.int .i64 t556, .int .i64 t557, .int .i64 t558, .int .i64 t559] rfl (by (try simp only [List.map_toArray, List.map_cons, List.map_nil]); first | done | rfl | (simp only [List.length_drop, List.length_take]; rfl)) ?_; (with_reducible refine (redraftlaw02_number.calls t556 t557 t558 t559 t560 _ A6.out).mono ?_); rintro e w' ⟨rfl, ⟨nd, rfl⟩⟩; refine ⟨_, rfl, ?_⟩))
  go_ret
  exact ⟨by first | rfl | (simp [errW_none, errW_some] <;> rfl) | (simp [*, errW_none, errW_some] <;> rfl), by repeat (first | (with_reducible first | exact HB.out | apply below_alloc | apply pw_below_drewN | apply below_drew1 | refine below_set ?_ GE552.out) | exact HB.out)⟩
 ·rw [if_neg c2] at H
  have c2b0 : (a0_0 == 1) = false := beq_eq_false_iff_ne.mpr c2
  have c2b1 : (a0_0 != 1) = true := bne_iff_ne.mpr c2
  have HC13 := Aside0.mk H
  clear H
  go_enter Try.func57, Try.ntmps57
  go_upto_if 29 with (first | ((with_reducible refine gate_dst (N := 1) rfl ?_); refine box_event ?hg (N := 1) ?hd (cs := #[.int .i64 a0_0, .slice A0_1 l0_1.length c0_1, .slice A0_2 l0_2.length c0_2, .int .i64 a0_3, .int .i64 a0_4]) (t := 76) ?hr ?_; (case hd => rfl); (case hg => rfl); (case hr => first | (go_simp; done) | (go_simp; rfl)); intro gb552 hg w14 hbox hb; have n0_ := Aside0.mk (below_step (by repeat (first | (with_reducible first | exact HB.out | apply below_alloc | apply pw_below_drewN | apply below_drew1) | exact HB.out)) hb); have n1_ := Aside0.mk (hbox); have n2_ := Aside0.mk ((by rw [hg]; exact (below_size (by repeat (first | (with_reducible first | exact HB.out | apply below_alloc | apply pw_below_drewN | apply below_drew1) | exact HB.out))) : w.heap.size ≤ gb552)); have n3_ := Aside0.mk ((by rw [hg]; exact (below_size (by repeat (first | (with_reducible first | exact HB.out | apply below_alloc | apply pw_below_drewN | apply below_drew1) | exact HB.out))) : w.heap.size ≤ gb552)); clear HB; have HB := n0_; have BK552 := n1_; have GW552 := n2_; have GE552 := n3_; clear n0_ n1_ n2_ n3_; clear hb hbox hg; have hcz15_0 : w14.cell? ⟨gb552, 0, none⟩ = some (.int .i64 a0_0) := (blk_cell BK552.out 0).trans rfl; have hcz15_1 : w14.cell? ⟨gb552, 1, none⟩ = some (.slice A0_1 l0_1.length c0_1) := (blk_cell BK552.out 1).trans rfl; have hcz15_2 : w14.cell? ⟨gb552, 2, none⟩ = some (.slice A0_2 l0_2.length c0_2) := (blk_cell BK552.out 2).trans rfl; have hcz15_3 : w14.cell? ⟨gb552, 3, none⟩ = some (.int .i64 a0_3) := (blk_cell BK552.out 3).trans rfl; have hcz15_4 : w14.cell? ⟨gb552, 4, none⟩ = some (.int .i64 a0_4) := (blk_cell BK552.out 4).trans rfl; have hfz15_0 := blk_frozen BK552.out 0; have hfz15_1 := blk_frozen BK552.out 1; have hfz15_2 := blk_frozen BK552.out 2; have hfz15_3 := blk_frozen BK552.out 3; have hfz15_4 := blk_frozen BK552.out 4))
  (try simp only [Act.put, List.setIfInBounds_toArray, List.set_cons_zero, List.set_cons_succ])
  go_cut [29] (fun v29 wc => ∃ (kq : Nat) (x29_12 : Bool), v29 = .bool x29_12 ∧ Aside0 (redraftlaw02_plays.j0 kq a0_0 x29_12 a0_0 l0_1 l0_2 a0_3 a0_4 = some r) ∧ Aside0 (kq ≤ k) ∧ Aside0 (wc.heap[gb552]? = some (.cells #[.int .i64 a0_0, (.slice A0_1 l0_1.length c0_1), (.slice A0_2 l0_2.length c0_2), .int .i64 a0_3, .int .i64 a0_4] 76 (0, 0))) ∧ Aside0 (Below w.heap.size w wc))
  case first =>
   have H := HC13.out
   clear HC13
   by_cases c16 : a0_0 = 2
   ·rw [if_pos c16] at H
    have c16b0 : (a0_0 == 2) = true := beq_iff_eq.mpr c16
    have c16b1 : (a0_0 != 2) = false := bne_eq_false_iff_eq.mpr c16
    clear c16
    (first | rw [c16b0] | rw [c16b1] | (simp only [i64_w, i32_w]; rw [c16b0]) | skip)
    have H' := Aside0.mk H
    clear H
    go_wp2
    go_meet
    case rel => exact ⟨_, ((a0_0 == 2)), (by first | rfl | (simp; done) | (simp [*]; done)), H', ⟨by first | omega | exact Nat.le_refl _⟩, ⟨by (with_reducible repeat (first | refine blk_drewN ?_ _ | refine blk_drew ?_ | refine blk_alloc ?_ _)); exact BK552.out⟩, ⟨by repeat (first | (with_reducible first | exact HB.out | apply below_alloc | apply pw_below_drewN | apply below_drew1 | refine below_set ?_ GE552.out) | exact HB.out)⟩⟩
   ·rw [if_neg c16] at H
    have c16b0 : (a0_0 == 2) = false := beq_eq_false_iff_ne.mpr c16
    have c16b1 : (a0_0 != 2) = true := bne_iff_ne.mpr c16
    (first | rw [c16b0] | rw [c16b1] | (simp only [i64_w, i32_w]; rw [c16b0]) | skip)
    by_cases c17 : a0_0 = 3
    ·rw [if_pos c17] at H
     have c17b0 : (a0_0 == 3) = true := beq_iff_eq.mpr c17
     have c17b1 : (a0_0 != 3) = false := bne_eq_false_iff_eq.mpr c17
     clear c17
     have H' := Aside0.mk H
     clear H
     go_wp2
     go_meet
     case rel => exact ⟨_, ((a0_0 == 3)), (by first | rfl | (simp; done) | (simp [*]; done)), H', ⟨by first | omega | exact Nat.le_refl _⟩, ⟨by (with_reducible repeat (first | refine blk_drewN ?_ _ | refine blk_drew ?_ | refine blk_alloc ?_ _)); exact BK552.out⟩, ⟨by repeat (first | (with_reducible first | exact HB.out | apply below_alloc | apply pw_below_drewN | apply below_drew1 | refine below_set ?_ GE552.out) | exact HB.out)⟩⟩
    ·rw [if_neg c17] at H
     have c17b0 : (a0_0 == 3) = false := beq_eq_false_iff_ne.mpr c17
     have c17b1 : (a0_0 != 3) = true := bne_iff_ne.mpr c17
     by_cases c18 : a0_0 = 4
     ·rw [if_pos c18] at H
      have c18b0 : (a0_0 == 4) = true := beq_iff_eq.mpr c18
      have c18b1 : (a0_0 != 4) = false := bne_eq_false_iff_eq.mpr c18
      clear c18
      have H' := Aside0.mk H
      clear H
      go_wp2
      go_meet
      case rel => exact ⟨_, ((a0_0 == 4)), (by first | rfl | (simp; done) | (simp [*]; done)), H', ⟨by first | omega | exact Nat.le_refl _⟩, ⟨by (with_reducible repeat (first | refine blk_drewN ?_ _ | refine blk_drew ?_ | refine blk_alloc ?_ _)); exact BK552.out⟩, ⟨by repeat (first | (with_reducible first | exact HB.out | apply below_alloc | apply pw_below_drewN | apply below_drew1 | refine below_set ?_ GE552.out) | exact HB.out)⟩⟩
     ·rw [if_neg c18] at H
      have c18b0 : (a0_0 == 4) = false := beq_eq_false_iff_ne.mpr c18
      have c18b1 : (a0_0 != 4) = true := bne_iff_ne.mpr c18
      have H' := Aside0.mk H
      clear H
      go_wp2
      go_meet
      case rel => exact ⟨_, ((a0_0 == 5)), (by first | rfl | (simp; done) | (simp [*]; done)), H', ⟨by first | omega | exact Nat.le_refl _⟩, ⟨by (with_reducible repeat (first | refine blk_drewN ?_ _ | refine blk_drew ?_ | refine blk_alloc ?_ _)); exact BK552.out⟩, ⟨by repeat (first | (with_reducible first | exact HB.out | apply below_alloc | apply pw_below_drewN | apply below_drew1 | refine below_set ?_ GE552.out) | exact HB.out)⟩⟩
  case rest =>
   clear HC13
   try clear c1
   try clear c2
   try clear c2b0
   try clear c2b1
   try clear p2
   try clear c5
   try clear c6
   try clear c16
   try clear c16b0
   try clear c16b1
   try clear c17
   try clear c17b0
   try clear c17b1
   try clear c18
   try clear c18b0
   try clear c18b1
   try clear hcz12_0
   try clear hcz12_1
   try clear hcz12_2
   try clear hcz12_3
   try clear hcz12_4
   try clear hcz15_0
   try clear hcz15_1
   try clear hcz15_2
   try clear hcz15_3
   try clear hcz15_4
   try clear hcz8_0
   try clear hcz8_1
   try clear hcz8_2
   try clear hcz8_3
   try clear hcz8_4
   try clear hfz12_0
   try clear hfz12_1
   try clear hfz12_2
   try clear hfz12_3
   try clear hfz12_4
   try clear hfz15_0
   try clear hfz15_1
   try clear hfz15_2
   try clear hfz15_3
   try clear hfz15_4
   try clear hfz8_0
   try clear hfz8_1
   try clear hfz8_2
   try clear hfz8_3
   try clear hfz8_4
   obtain ⟨kq, x29_12, rfl, HA, HJ12, BK552, HB⟩ := hcut
   cases kq with
   | zero => exact absurd HA.out (by simp [redraftlaw02_plays.j0])
   | succ kj12 =>
    have H := HA.out
    clear HA
    simp only [redraftlaw02_plays.j0] at H
    by_cases c19 : x29_12 = true
    ·subst c19
     have H1 : ((redraftlaw02_sets.f kj12 a0_0 l0_1 l0_2 a0_3 a0_4).bind fun t561 => (some t561)) = some r := by rw [if_pos rfl] at H; exact H
     clear H
     have H := H1
     clear H1
     replace H := Option.bind_eq_some_iff.mp H
     obtain ⟨t561, A200, H⟩ := H
     replace H : (some t561) = some r := H
     have A20 := Aside0.mk A200
     clear A200
     obtain rfl := Option.some.inj H
     have hcz21_0 : wc.cell? ⟨gb552, 0, none⟩ = some (.int .i64 a0_0) := (blk_cell BK552.out 0).trans rfl
     have hcz21_1 : wc.cell? ⟨gb552, 1, none⟩ = some (.slice A0_1 l0_1.length c0_1) := (blk_cell BK552.out 1).trans rfl
     have hcz21_2 : wc.cell? ⟨gb552, 2, none⟩ = some (.slice A0_2 l0_2.length c0_2) := (blk_cell BK552.out 2).trans rfl
     have hcz21_3 : wc.cell? ⟨gb552, 3, none⟩ = some (.int .i64 a0_3) := (blk_cell BK552.out 3).trans rfl
     have hcz21_4 : wc.cell? ⟨gb552, 4, none⟩ = some (.int .i64 a0_4) := (blk_cell BK552.out 4).trans rfl
     have hfz21_0 := blk_frozen BK552.out 0
     have hfz21_1 := blk_frozen BK552.out 1
     have hfz21_2 := blk_frozen BK552.out 2
     have hfz21_3 := blk_frozen BK552.out 3
     have hfz21_4 := blk_frozen BK552.out 4
     go_wp2_with (first | ((with_reducible refine gate_callee (f := 61) rfl ?_); refine goesL_ (some 35) rfl rfl Try.func61 (by kernel_rfl) rfl #[.agg #[.int .i64 a0_0, .slice A0_1 l0_1.length c0_1, .slice A0_2 l0_2.length c0_2, .int .i64 a0_3, .int .i64 a0_4]] rfl (by (try simp only [List.map_toArray, List.map_cons, List.map_nil]); first | done | rfl | (simp only [List.length_drop, List.length_take]; rfl)) ?_; (with_reducible refine (redraftlaw02_sets.calls kj12 a0_0 _ _ l0_1 _ _ l0_2 a0_3 a0_4 t561 _ ?side1 ?side2 ?side3 ?side4 A20.out).mono ?_); (case side1 => repeat (first | exact (Kd.C_below HR0_1.out HB.out) | (with_reducible refine Kd.C_alloc ?_ _) | (with_reducible refine Kd.C_drewN ?_ _) | (with_reducible refine Kd.C_drew ?_))); (case side2 => exact HC0_1.out); (case side3 => repeat (first | exact (Kd.C_below HR0_2.out HB.out) | (with_reducible refine Kd.C_alloc ?_ _) | (with_reducible refine Kd.C_drewN ?_ _) | (with_reducible refine Kd.C_drew ?_))); (case side4 => exact HC0_2.out); rintro e w22 ⟨rfl, hb⟩; refine ⟨_, rfl, ?_⟩; have n0_ := Aside0.mk (blk_below (g := gb552) (o := .cells #[.int .i64 a0_0, .slice A0_1 l0_1.length c0_1, .slice A0_2 l0_2.length c0_2, .int .i64 a0_3, .int .i64 a0_4] 76 (0, 0)) (by (with_reducible repeat (first | refine blk_drewN ?_ _ | refine blk_drew ?_ | refine blk_alloc ?_ _)); exact BK552.out) hb); have n1_ := Aside0.mk (below_step (by repeat (first | (with_reducible first | exact HB.out | apply below_alloc | apply pw_below_drewN | apply below_drew1 | refine below_set ?_ GE552.out) | exact HB.out)) hb); clear BK552; clear HB; have BK552 := n0_; have HB := n1_; clear n0_ n1_; (try clear hb); (try clear hb2); (try clear hk); (try clear hi)))
     go_ret
     exact ⟨by first | rfl | (simp [errW_none, errW_some] <;> rfl) | (simp [*, errW_none, errW_some] <;> rfl), by repeat (first | (with_reducible first | exact HB.out | apply below_alloc | apply pw_below_drewN | apply below_drew1 | refine below_set ?_ GE552.out) | exact HB.out)⟩
    ·replace c19 := Bool.eq_false_iff.mpr c19
     subst c19
     have H1 : (if a0_0 = 6 then (redraftlaw02_plays.j1 kj12 a0_0 (a0_0 == 6) a0_0 l0_1 l0_2 a0_3 a0_4) else (if a0_0 = 7 then (redraftlaw02_plays.j1 kj12 a0_0 (a0_0 == 7) a0_0 l0_1 l0_2 a0_3 a0_4) else (redraftlaw02_plays.j1 kj12 a0_0 (a0_0 == 8) a0_0 l0_1 l0_2 a0_3 a0_4))) = some r := by rw [if_neg (show ¬ (false = true) by decide)] at H; exact H
     clear H
     have H := H1
     clear H1
     have HC23 := Aside0.mk H
     clear H
     go_upto_if 36 with (fail)
     go_cut [36] (fun v36 wc => ∃ (kq : Nat) (x36_22 : Bool), v36 = .bool x36_22 ∧ Aside0 (redraftlaw02_plays.j1 kq a0_0 x36_22 a0_0 l0_1 l0_2 a0_3 a0_4 = some r) ∧ Aside0 (kq ≤ kj12) ∧ Aside0 (wc.heap[gb552]? = some (.cells #[.int .i64 a0_0, (.slice A0_1 l0_1.length c0_1), (.slice A0_2 l0_2.length c0_2), .int .i64 a0_3, .int .i64 a0_4] 76 (0, 0))) ∧ Aside0 (Below w.heap.size w wc))
     case first =>
      have H := HC23.out
      clear HC23
      by_cases c24 : a0_0 = 6
      ·rw [if_pos c24] at H
       have c24b0 : (a0_0 == 6) = true := beq_iff_eq.mpr c24
       have c24b1 : (a0_0 != 6) = false := bne_eq_false_iff_eq.mpr c24
       clear c24
       (first | rw [c24b0] | rw [c24b1] | (simp only [i64_w, i32_w]; rw [c24b0]) | skip)
       have H' := Aside0.mk H
       clear H
       go_wp2
       go_meet
       case rel => exact ⟨_, ((a0_0 == 6)), (by first | rfl | (simp; done) | (simp [*]; done)), H', ⟨by have := HJ12.out; first | omega | exact Nat.le_refl _⟩, ⟨by (with_reducible repeat (first | refine blk_drewN ?_ _ | refine blk_drew ?_ | refine blk_alloc ?_ _)); exact BK552.out⟩, ⟨by repeat (first | (with_reducible first | exact HB.out | apply below_alloc | apply pw_below_drewN | apply below_drew1 | refine below_set ?_ GE552.out) | exact HB.out)⟩⟩
      ·rw [if_neg c24] at H
       have c24b0 : (a0_0 == 6) = false := beq_eq_false_iff_ne.mpr c24
       have c24b1 : (a0_0 != 6) = true := bne_iff_ne.mpr c24
       (first | rw [c24b0] | rw [c24b1] | (simp only [i64_w, i32_w]; rw [c24b0]) | skip)
       by_cases c25 : a0_0 = 7
       ·rw [if_pos c25] at H
        have c25b0 : (a0_0 == 7) = true := beq_iff_eq.mpr c25
        have c25b1 : (a0_0 != 7) = false := bne_eq_false_iff_eq.mpr c25
        clear c25
        have H' := Aside0.mk H
        clear H
        go_wp2
        go_meet
        case rel => exact ⟨_, ((a0_0 == 7)), (by first | rfl | (simp; done) | (simp [*]; done)), H', ⟨by have := HJ12.out; first | omega | exact Nat.le_refl _⟩, ⟨by (with_reducible repeat (first | refine blk_drewN ?_ _ | refine blk_drew ?_ | refine blk_alloc ?_ _)); exact BK552.out⟩, ⟨by repeat (first | (with_reducible first | exact HB.out | apply below_alloc | apply pw_below_drewN | apply below_drew1 | refine below_set ?_ GE552.out) | exact HB.out)⟩⟩
       ·rw [if_neg c25] at H
        have c25b0 : (a0_0 == 7) = false := beq_eq_false_iff_ne.mpr c25
        have c25b1 : (a0_0 != 7) = true := bne_iff_ne.mpr c25
        have H' := Aside0.mk H
        clear H
        go_wp2
        go_meet
        case rel => exact ⟨_, ((a0_0 == 8)), (by first | rfl | (simp; done) | (simp [*]; done)), H', ⟨by have := HJ12.out; first | omega | exact Nat.le_refl _⟩, ⟨by (with_reducible repeat (first | refine blk_drewN ?_ _ | refine blk_drew ?_ | refine blk_alloc ?_ _)); exact BK552.out⟩, ⟨by repeat (first | (with_reducible first | exact HB.out | apply below_alloc | apply pw_below_drewN | apply below_drew1 | refine below_set ?_ GE552.out) | exact HB.out)⟩⟩
     case rest =>
      clear HC23
      try clear c1
      try clear c2
      try clear c2b0
      try clear c2b1
      try clear p2
      try clear c5
      try clear c6
      try clear c16
      try clear c16b0
      try clear c16b1
      try clear c17
      try clear c17b0
      try clear c17b1
      try clear c18
      try clear c18b0
      try clear c18b1
      try clear c19
      try clear c24
      try clear c24b0
      try clear c24b1
      try clear c25
      try clear c25b0
      try clear c25b1
      try clear hcz12_0
      try clear hcz12_1
      try clear hcz12_2
      try clear hcz12_3
      try clear hcz12_4
      try clear hcz15_0
      try clear hcz15_1
      try clear hcz15_2
      try clear hcz15_3
      try clear hcz15_4
      try clear hcz21_0
      try clear hcz21_1
      try clear hcz21_2
      try clear hcz21_3
      try clear hcz21_4
      try clear hcz8_0
      try clear hcz8_1
      try clear hcz8_2
      try clear hcz8_3
      try clear hcz8_4
      try clear hfz12_0
      try clear hfz12_1
      try clear hfz12_2
      try clear hfz12_3
      try clear hfz12_4
      try clear hfz15_0
      try clear hfz15_1
      try clear hfz15_2
      try clear hfz15_3
      try clear hfz15_4
      try clear hfz21_0
      try clear hfz21_1
      try clear hfz21_2
      try clear hfz21_3
      try clear hfz21_4
      try clear hfz8_0
      try clear hfz8_1
      try clear hfz8_2
      try clear hfz8_3
      try clear hfz8_4
      try clear p2
      obtain ⟨kq, x36_22, rfl, HA, HJ22, BK552, HB⟩ := hcut
      cases kq with
      | zero => exact absurd HA.out (by simp [redraftlaw02_plays.j1])
      | succ kj22 =>
       have H := HA.out
       clear HA
       simp only [redraftlaw02_plays.j1] at H
       by_cases c26 : x36_22 = true
       ·subst c26
        have H1 : ((redraftlaw02_counts.f a0_0 l0_1 l0_2 a0_3 a0_4).bind fun t562 => (some t562)) = some r := by rw [if_pos rfl] at H; exact H
        clear H
        have H := H1
        clear H1
        replace H := Option.bind_eq_some_iff.mp H
        obtain ⟨t562, A270, H⟩ := H
        replace H : (some t562) = some r := H
        have A27 := Aside0.mk A270
        clear A270
        obtain rfl := Option.some.inj H
        have hcz28_0 : wc.cell? ⟨gb552, 0, none⟩ = some (.int .i64 a0_0) := (blk_cell BK552.out 0).trans rfl
        have hcz28_1 : wc.cell? ⟨gb552, 1, none⟩ = some (.slice A0_1 l0_1.length c0_1) := (blk_cell BK552.out 1).trans rfl
        have hcz28_2 : wc.cell? ⟨gb552, 2, none⟩ = some (.slice A0_2 l0_2.length c0_2) := (blk_cell BK552.out 2).trans rfl
        have hcz28_3 : wc.cell? ⟨gb552, 3, none⟩ = some (.int .i64 a0_3) := (blk_cell BK552.out 3).trans rfl
        have hcz28_4 : wc.cell? ⟨gb552, 4, none⟩ = some (.int .i64 a0_4) := (blk_cell BK552.out 4).trans rfl
        have hfz28_0 := blk_frozen BK552.out 0
        have hfz28_1 := blk_frozen BK552.out 1
        have hfz28_2 := blk_frozen BK552.out 2
        have hfz28_3 := blk_frozen BK552.out 3
        have hfz28_4 := blk_frozen BK552.out 4
        go_wp2_with (first | ((with_reducible refine gate_callee (f := 62) rfl ?_); refine goesL_ (some 41) rfl rfl Try.func62 (by kernel_rfl) rfl #[.agg #[.int .i64 a0_0, .slice A0_1 l0_1.length c0_1, .slice A0_2 l0_2.length c0_2, .int .i64 a0_3, .int .i64 a0_4]] rfl (by (try simp only [List.map_toArray, List.map_cons, List.map_nil]); first | done | rfl | (simp only [List.length_drop, List.length_take]; rfl)) ?_; (with_reducible refine (redraftlaw02_counts.calls a0_0 _ _ l0_1 _ _ l0_2 a0_3 a0_4 t562 _ ?side1 ?side2 ?side3 ?side4 A27.out).mono ?_); (case side1 => repeat (first | exact (Kd.C_below HR0_1.out HB.out) | (with_reducible refine Kd.C_alloc ?_ _) | (with_reducible refine Kd.C_drewN ?_ _) | (with_reducible refine Kd.C_drew ?_))); (case side2 => exact HC0_1.out); (case side3 => repeat (first | exact (Kd.C_below HR0_2.out HB.out) | (with_reducible refine Kd.C_alloc ?_ _) | (with_reducible refine Kd.C_drewN ?_ _) | (with_reducible refine Kd.C_drew ?_))); (case side4 => exact HC0_2.out); rintro e w29 ⟨rfl, hb⟩; refine ⟨_, rfl, ?_⟩; have n0_ := Aside0.mk (blk_below (g := gb552) (o := .cells #[.int .i64 a0_0, .slice A0_1 l0_1.length c0_1, .slice A0_2 l0_2.length c0_2, .int .i64 a0_3, .int .i64 a0_4] 76 (0, 0)) (by (with_reducible repeat (first | refine blk_drewN ?_ _ | refine blk_drew ?_ | refine blk_alloc ?_ _)); exact BK552.out) hb); have n1_ := Aside0.mk (below_step (by repeat (first | (with_reducible first | exact HB.out | apply below_alloc | apply pw_below_drewN | apply below_drew1 | refine below_set ?_ GE552.out) | exact HB.out)) hb); clear BK552; clear HB; have BK552 := n0_; have HB := n1_; clear n0_ n1_; (try clear hb); (try clear hb2); (try clear hk); (try clear hi)))
        go_ret
        exact ⟨by first | rfl | (simp [errW_none, errW_some] <;> rfl) | (simp [*, errW_none, errW_some] <;> rfl), by repeat (first | (with_reducible first | exact HB.out | apply below_alloc | apply pw_below_drewN | apply below_drew1 | refine below_set ?_ GE552.out) | exact HB.out)⟩
       ·replace c26 := Bool.eq_false_iff.mpr c26
        subst c26
        have H1 : (if a0_0 = 9 then (redraftlaw02_plays.j2 kj22 a0_0 (a0_0 == 9) a0_0 l0_1 l0_2 a0_3 a0_4) else (redraftlaw02_plays.j2 kj22 a0_0 (a0_0 == 10) a0_0 l0_1 l0_2 a0_3 a0_4)) = some r := by rw [if_neg (show ¬ (false = true) by decide)] at H; exact H
        clear H
        have H := H1
        clear H1
        have HC30 := Aside0.mk H
        clear H
        go_upto_if 42 with (fail)
        go_cut [42] (fun v42 wc => ∃ (kq : Nat) (x42_29 : Bool), v42 = .bool x42_29 ∧ Aside0 (redraftlaw02_plays.j2 kq a0_0 x42_29 a0_0 l0_1 l0_2 a0_3 a0_4 = some r) ∧ Aside0 (kq ≤ kj22) ∧ Aside0 (wc.heap[gb552]? = some (.cells #[.int .i64 a0_0, (.slice A0_1 l0_1.length c0_1), (.slice A0_2 l0_2.length c0_2), .int .i64 a0_3, .int .i64 a0_4] 76 (0, 0))) ∧ Aside0 (Below w.heap.size w wc))
        case first =>
         have H := HC30.out
         clear HC30
         by_cases c31 : a0_0 = 9
         ·rw [if_pos c31] at H
          have c31b0 : (a0_0 == 9) = true := beq_iff_eq.mpr c31
          have c31b1 : (a0_0 != 9) = false := bne_eq_false_iff_eq.mpr c31
          clear c31
          (first | rw [c31b0] | rw [c31b1] | (simp only [i64_w, i32_w]; rw [c31b0]) | skip)
          have H' := Aside0.mk H
          clear H
          go_wp2
          go_meet
          case rel => exact ⟨_, ((a0_0 == 9)), (by first | rfl | (simp; done) | (simp [*]; done)), H', ⟨by have := HJ12.out; have := HJ22.out; first | omega | exact Nat.le_refl _⟩, ⟨by (with_reducible repeat (first | refine blk_drewN ?_ _ | refine blk_drew ?_ | refine blk_alloc ?_ _)); exact BK552.out⟩, ⟨by repeat (first | (with_reducible first | exact HB.out | apply below_alloc | apply pw_below_drewN | apply below_drew1 | refine below_set ?_ GE552.out) | exact HB.out)⟩⟩
         ·rw [if_neg c31] at H
          have c31b0 : (a0_0 == 9) = false := beq_eq_false_iff_ne.mpr c31
          have c31b1 : (a0_0 != 9) = true := bne_iff_ne.mpr c31
          (first | rw [c31b0] | rw [c31b1] | (simp only [i64_w, i32_w]; rw [c31b0]) | skip)
          have H' := Aside0.mk H
          clear H
          go_wp2
          go_meet
          case rel => exact ⟨_, ((a0_0 == 10)), (by first | rfl | (simp; done) | (simp [*]; done)), H', ⟨by have := HJ12.out; have := HJ22.out; first | omega | exact Nat.le_refl _⟩, ⟨by (with_reducible repeat (first | refine blk_drewN ?_ _ | refine blk_drew ?_ | refine blk_alloc ?_ _)); exact BK552.out⟩, ⟨by repeat (first | (with_reducible first | exact HB.out | apply below_alloc | apply pw_below_drewN | apply below_drew1 | refine below_set ?_ GE552.out) | exact HB.out)⟩⟩
        case rest =>
         clear HC30
         try clear c1
         try clear c2
         try clear c2b0
         try clear c2b1
         try clear p2
         try clear c3
         try clear c5
         try clear c6
         try clear c16
         try clear c16b0
         try clear c16b1
         try clear c17
         try clear c17b0
         try clear c17b1
         try clear c18
         try clear c18b0
         try clear c18b1
         try clear c19
         try clear c24
         try clear c24b0
         try clear c24b1
         try clear c25
         try clear c25b0
         try clear c25b1
         try clear c26
         try clear c31
         try clear c31b0
         try clear c31b1
         try clear hcz12_0
         try clear hcz12_1
         try clear hcz12_2
         try clear hcz12_3
         try clear hcz12_4
         try clear hcz15_0
         try clear hcz15_1
         try clear hcz15_2
         try clear hcz15_3
         try clear hcz15_4
         try clear hcz21_0
         try clear hcz21_1
         try clear hcz21_2
         try clear hcz21_3
         try clear hcz21_4
         try clear hcz28_0
         try clear hcz28_1
         try clear hcz28_2
         try clear hcz28_3
         try clear hcz28_4
         try clear hcz8_0
         try clear hcz8_1
         try clear hcz8_2
         try clear hcz8_3
         try clear hcz8_4
         try clear hfz12_0
         try clear hfz12_1
         try clear hfz12_2
         try clear hfz12_3
         try clear hfz12_4
         try clear hfz15_0
         try clear hfz15_1
         try clear hfz15_2
         try clear hfz15_3
         try clear hfz15_4
         try clear hfz21_0
         try clear hfz21_1
         try clear hfz21_2
         try clear hfz21_3
         try clear hfz21_4
         try clear hfz28_0
         try clear hfz28_1
         try clear hfz28_2
         try clear hfz28_3
         try clear hfz28_4
         try clear hfz8_0
         try clear hfz8_1
         try clear hfz8_2
         try clear hfz8_3
         try clear hfz8_4
         try clear p2
         obtain ⟨kq, x42_29, rfl, HA, HJ29, BK552, HB⟩ := hcut
         cases kq with
         | zero => exact absurd HA.out (by simp [redraftlaw02_plays.j2])
         | succ kj29 =>
          have H := HA.out
          clear HA
          simp only [redraftlaw02_plays.j2] at H
          by_cases c32 : x42_29 = true
          ·subst c32
           have H1 : ((redraftlaw02_moves.f a0_0 l0_1 l0_2 a0_3 a0_4).bind fun t563 => (some t563)) = some r := by rw [if_pos rfl] at H; exact H
           clear H
           have H := H1
           clear H1
           replace H := Option.bind_eq_some_iff.mp H
           obtain ⟨t563, A330, H⟩ := H
           replace H : (some t563) = some r := H
           have A33 := Aside0.mk A330
           clear A330
           obtain rfl := Option.some.inj H
           have hcz34_0 : wc.cell? ⟨gb552, 0, none⟩ = some (.int .i64 a0_0) := (blk_cell BK552.out 0).trans rfl
           have hcz34_1 : wc.cell? ⟨gb552, 1, none⟩ = some (.slice A0_1 l0_1.length c0_1) := (blk_cell BK552.out 1).trans rfl
           have hcz34_2 : wc.cell? ⟨gb552, 2, none⟩ = some (.slice A0_2 l0_2.length c0_2) := (blk_cell BK552.out 2).trans rfl
           have hcz34_3 : wc.cell? ⟨gb552, 3, none⟩ = some (.int .i64 a0_3) := (blk_cell BK552.out 3).trans rfl
           have hcz34_4 : wc.cell? ⟨gb552, 4, none⟩ = some (.int .i64 a0_4) := (blk_cell BK552.out 4).trans rfl
           have hfz34_0 := blk_frozen BK552.out 0
           have hfz34_1 := blk_frozen BK552.out 1
           have hfz34_2 := blk_frozen BK552.out 2
           have hfz34_3 := blk_frozen BK552.out 3
           have hfz34_4 := blk_frozen BK552.out 4
           go_wp2_with (first | ((with_reducible refine gate_callee (f := 63) rfl ?_); refine goesL_ (some 46) rfl rfl Try.func63 (by kernel_rfl) rfl #[.agg #[.int .i64 a0_0, .slice A0_1 l0_1.length c0_1, .slice A0_2 l0_2.length c0_2, .int .i64 a0_3, .int .i64 a0_4]] rfl (by (try simp only [List.map_toArray, List.map_cons, List.map_nil]); first | done | rfl | (simp only [List.length_drop, List.length_take]; rfl)) ?_; (with_reducible refine (redraftlaw02_moves.calls a0_0 _ _ l0_1 _ _ l0_2 a0_3 a0_4 t563 _ ?side1 ?side2 ?side3 ?side4 A33.out).mono ?_); (case side1 => repeat (first | exact (Kd.C_below HR0_1.out HB.out) | (with_reducible refine Kd.C_alloc ?_ _) | (with_reducible refine Kd.C_drewN ?_ _) | (with_reducible refine Kd.C_drew ?_))); (case side2 => exact HC0_1.out); (case side3 => repeat (first | exact (Kd.C_below HR0_2.out HB.out) | (with_reducible refine Kd.C_alloc ?_ _) | (with_reducible refine Kd.C_drewN ?_ _) | (with_reducible refine Kd.C_drew ?_))); (case side4 => exact HC0_2.out); rintro e w35 ⟨rfl, hb⟩; refine ⟨_, rfl, ?_⟩; have n0_ := Aside0.mk (blk_below (g := gb552) (o := .cells #[.int .i64 a0_0, .slice A0_1 l0_1.length c0_1, .slice A0_2 l0_2.length c0_2, .int .i64 a0_3, .int .i64 a0_4] 76 (0, 0)) (by (with_reducible repeat (first | refine blk_drewN ?_ _ | refine blk_drew ?_ | refine blk_alloc ?_ _)); exact BK552.out) hb); have n1_ := Aside0.mk (below_step (by repeat (first | (with_reducible first | exact HB.out | apply below_alloc | apply pw_below_drewN | apply below_drew1 | refine below_set ?_ GE552.out) | exact HB.out)) hb); clear BK552; clear HB; have BK552 := n0_; have HB := n1_; clear n0_ n1_; (try clear hb); (try clear hb2); (try clear hk); (try clear hi)))
           go_ret
           exact ⟨by first | rfl | (simp [errW_none, errW_some] <;> rfl) | (simp [*, errW_none, errW_some] <;> rfl), by repeat (first | (with_reducible first | exact HB.out | apply below_alloc | apply pw_below_drewN | apply below_drew1 | refine below_set ?_ GE552.out) | exact HB.out)⟩
          ·replace c32 := Bool.eq_false_iff.mpr c32
           subst c32
           have H1 : (if a0_0 = 11 then ((redraftlaw02_gives.f a0_0 l0_1 l0_2 a0_3 a0_4).bind fun t564 => (some t564)) else (some true)) = some r := by rw [if_neg (show ¬ (false = true) by decide)] at H; exact H
           clear H
           have H := H1
           clear H1
           by_cases c36 : a0_0 = 11
           ·rw [if_pos c36] at H
            have c36b0 : (a0_0 == 11) = true := beq_iff_eq.mpr c36
            have c36b1 : (a0_0 != 11) = false := bne_eq_false_iff_eq.mpr c36
            clear c36
            replace H := Option.bind_eq_some_iff.mp H
            obtain ⟨t564, A370, H⟩ := H
            replace H : (some t564) = some r := H
            have A37 := Aside0.mk A370
            clear A370
            obtain rfl := Option.some.inj H
            have hcz38_0 : wc.cell? ⟨gb552, 0, none⟩ = some (.int .i64 a0_0) := (blk_cell BK552.out 0).trans rfl
            have hcz38_1 : wc.cell? ⟨gb552, 1, none⟩ = some (.slice A0_1 l0_1.length c0_1) := (blk_cell BK552.out 1).trans rfl
            have hcz38_2 : wc.cell? ⟨gb552, 2, none⟩ = some (.slice A0_2 l0_2.length c0_2) := (blk_cell BK552.out 2).trans rfl
            have hcz38_3 : wc.cell? ⟨gb552, 3, none⟩ = some (.int .i64 a0_3) := (blk_cell BK552.out 3).trans rfl
            have hcz38_4 : wc.cell? ⟨gb552, 4, none⟩ = some (.int .i64 a0_4) := (blk_cell BK552.out 4).trans rfl
            have hfz38_0 := blk_frozen BK552.out 0
            have hfz38_1 := blk_frozen BK552.out 1
            have hfz38_2 := blk_frozen BK552.out 2
            have hfz38_3 := blk_frozen BK552.out 3
            have hfz38_4 := blk_frozen BK552.out 4
            go_wp2_with (first | ((with_reducible refine gate_callee (f := 64) rfl ?_); refine goesL_ (some 50) rfl rfl Try.func64 (by kernel_rfl) rfl #[.agg #[.int .i64 a0_0, .slice A0_1 l0_1.length c0_1, .slice A0_2 l0_2.length c0_2, .int .i64 a0_3, .int .i64 a0_4]] rfl (by (try simp only [List.map_toArray, List.map_cons, List.map_nil]); first | done | rfl | (simp only [List.length_drop, List.length_take]; rfl)) ?_; (with_reducible refine (redraftlaw02_gives.calls a0_0 _ _ l0_1 _ _ l0_2 a0_3 a0_4 t564 _ ?side1 ?side2 ?side3 ?side4 A37.out).mono ?_); (case side1 => repeat (first | exact (Kd.C_below HR0_1.out HB.out) | (with_reducible refine Kd.C_alloc ?_ _) | (with_reducible refine Kd.C_drewN ?_ _) | (with_reducible refine Kd.C_drew ?_))); (case side2 => exact HC0_1.out); (case side3 => repeat (first | exact (Kd.C_below HR0_2.out HB.out) | (with_reducible refine Kd.C_alloc ?_ _) | (with_reducible refine Kd.C_drewN ?_ _) | (with_reducible refine Kd.C_drew ?_))); (case side4 => exact HC0_2.out); rintro e w39 ⟨rfl, hb⟩; refine ⟨_, rfl, ?_⟩; have n0_ := Aside0.mk (blk_below (g := gb552) (o := .cells #[.int .i64 a0_0, .slice A0_1 l0_1.length c0_1, .slice A0_2 l0_2.length c0_2, .int .i64 a0_3, .int .i64 a0_4] 76 (0, 0)) (by (with_reducible repeat (first | refine blk_drewN ?_ _ | refine blk_drew ?_ | refine blk_alloc ?_ _)); exact BK552.out) hb); have n1_ := Aside0.mk (below_step (by repeat (first | (with_reducible first | exact HB.out | apply below_alloc | apply pw_below_drewN | apply below_drew1 | refine below_set ?_ GE552.out) | exact HB.out)) hb); clear BK552; clear HB; have BK552 := n0_; have HB := n1_; clear n0_ n1_; (try clear hb); (try clear hb2); (try clear hk); (try clear hi)))
            go_ret
            exact ⟨by first | rfl | (simp [errW_none, errW_some] <;> rfl) | (simp [*, errW_none, errW_some] <;> rfl), by repeat (first | (with_reducible first | exact HB.out | apply below_alloc | apply pw_below_drewN | apply below_drew1 | refine below_set ?_ GE552.out) | exact HB.out)⟩
           ·rw [if_neg c36] at H
            have c36b0 : (a0_0 == 11) = false := beq_eq_false_iff_ne.mpr c36
            have c36b1 : (a0_0 != 11) = true := bne_iff_ne.mpr c36
            obtain rfl := Option.some.inj H
            go_wp2
            go_ret
            exact ⟨by first | rfl | (simp [errW_none, errW_some] <;> rfl) | (simp [*, errW_none, errW_some] <;> rfl), by repeat (first | (with_reducible first | exact HB.out | apply below_alloc | apply pw_below_drewN | apply below_drew1 | refine below_set ?_ GE552.out) | exact HB.out)⟩
end Go.Proofs.Ytmidiifgdloojaa.Kt
end
section
namespace Go.Proofs.Ytmidiifgdloojaa.Kt
open Go.Proofs.Ytmidiifgdloojaa.Pr
open Go.RowKit Go.Proofs.YtmidiifgdloojaaW.PrintWords Go.Proofs.YtmidiifgdloojaaW.PrintLast Go.Proofs.YtmidiifgdloojaaW.PrintMore
attribute [local go_sem] max2_int min2_int max_two min_two max_three min_three max_four min_four
set_option linter.unusedVariables false
set_option linter.unusedSimpArgs false
mutual
def redraftlaw02_upTo.l0 : Nat → List (S76) → Int → Int → Int → Option (Bool)
 | 0, _, _, _, _ => none
 | k + 1, x0, x1, x2, x7 => if x7 < (x0.length : Int) then (if 0 ≤ x7 then (if ((rd_T76 x0 x7).f0) ≥ x1 then (redraftlaw02_upTo.j1 k x0 x1 x2 x7 (decide (((rd_T76 x0 x7).f0) ≤ x2)) ((rd_T76 x0 x7).f0) ((rd_T76 x0 x7).f1) ((rd_T76 x0 x7).f2) ((rd_T76 x0 x7).f3) ((rd_T76 x0 x7).f4)) else (redraftlaw02_upTo.j1 k x0 x1 x2 x7 false ((rd_T76 x0 x7).f0) ((rd_T76 x0 x7).f1) ((rd_T76 x0 x7).f2) ((rd_T76 x0 x7).f3) ((rd_T76 x0 x7).f4))) else (none)) else (some true)
def redraftlaw02_upTo.j1 : Nat → List (S76) → Int → Int → Int → Bool → Int → List (S36) → List (S36) → Int → Int → Option (Bool)
 | 0, _, _, _, _, _, _, _, _, _, _ => none
 | k + 1, x0, x1, x2, x7, x29, x567000, x567001, x567002, x567003, x567004 => if x29 = true then ((redraftlaw02_plays.f k x567000 x567001 x567002 x567003 x567004).bind fun t567 => (if t567 = true then (redraftlaw02_upTo.l0 k x0 x1 x2 (wrap64 (x7 + 1))) else (some false))) else (redraftlaw02_upTo.l0 k x0 x1 x2 (wrap64 (x7 + 1)))
end
def redraftlaw02_upTo.f (k : Nat) (l0 : List (S76)) (a1 : Int) (a2 : Int) : Option (Bool) := redraftlaw02_upTo.l0 k l0 a1 a2 0
theorem redraftlaw02_upTo.mono_l : ∀ k, (∀ y0 y1 y2 y3, LeO (redraftlaw02_upTo.l0 k y0 y1 y2 y3) (redraftlaw02_upTo.l0 (k + 1) y0 y1 y2 y3)) ∧ (∀ y0 y1 y2 y3 y4 y5 y6 y7 y8 y9, LeO (redraftlaw02_upTo.j1 k y0 y1 y2 y3 y4 y5 y6 y7 y8 y9) (redraftlaw02_upTo.j1 (k + 1) y0 y1 y2 y3 y4 y5 y6 y7 y8 y9))
 | 0 => ⟨fun _ _ _ _ r h => by simp [redraftlaw02_upTo.l0] at h, fun _ _ _ _ _ _ _ _ _ _ r h => by simp [redraftlaw02_upTo.j1] at h⟩
 | k + 1 => by
  obtain ⟨ih0, ih1⟩ := redraftlaw02_upTo.mono_l k
  refine ⟨?_, ?_⟩
  ·intro y0 y1 y2 y3
   unfold redraftlaw02_upTo.l0
   repeat' first
   | (with_reducible exact ih0 _ _ _ _)
   | (with_reducible exact ih1 _ _ _ _ _ _ _ _ _ _)
   | (with_reducible exact redraftlaw02_plays.mono _ _ _ _ _ _)
   | (with_reducible exact LeO.refl _)
   | (with_reducible exact LeO.none _)
   | (with_reducible refine LeO.ite ?_ ?_)
   | (with_reducible refine LeO.bind ?_ (fun _ => ?_))
   | exact ih0 _ _ _ _
   | exact ih1 _ _ _ _ _ _ _ _ _ _
   | exact redraftlaw02_plays.mono _ _ _ _ _ _
   | exact LeO.none _
   | refine LeO.ite ?_ ?_
   | refine LeO.bind ?_ (fun _ => ?_)
  ·intro y0 y1 y2 y3 y4 y5 y6 y7 y8 y9
   unfold redraftlaw02_upTo.j1
   repeat' first
   | (with_reducible exact ih0 _ _ _ _)
   | (with_reducible exact ih1 _ _ _ _ _ _ _ _ _ _)
   | (with_reducible exact redraftlaw02_plays.mono _ _ _ _ _ _)
   | (with_reducible exact LeO.refl _)
   | (with_reducible exact LeO.none _)
   | (with_reducible refine LeO.ite ?_ ?_)
   | (with_reducible refine LeO.bind ?_ (fun _ => ?_))
   | exact ih0 _ _ _ _
   | exact ih1 _ _ _ _ _ _ _ _ _ _
   | exact redraftlaw02_plays.mono _ _ _ _ _ _
   | exact LeO.none _
   | refine LeO.ite ?_ ?_
   | refine LeO.bind ?_ (fun _ => ?_)
theorem redraftlaw02_upTo.mono : ∀ a0 a1 a2 k, LeO (redraftlaw02_upTo.f k a0 a1 a2) (redraftlaw02_upTo.f (k + 1) a0 a1 a2) := by
 intro a0 a1 a2 k
 obtain ⟨ih0, ih1⟩ := redraftlaw02_upTo.mono_l k
 unfold redraftlaw02_upTo.f
 repeat' first
   | (with_reducible exact ih0 _ _ _ _)
   | (with_reducible exact ih1 _ _ _ _ _ _ _ _ _ _)
   | (with_reducible exact redraftlaw02_plays.mono _ _ _ _ _ _)
   | (with_reducible exact LeO.refl _)
   | (with_reducible exact LeO.none _)
   | (with_reducible refine LeO.ite ?_ ?_)
   | (with_reducible refine LeO.bind ?_ (fun _ => ?_))
   | exact ih0 _ _ _ _
   | exact ih1 _ _ _ _ _ _ _ _ _ _
   | exact redraftlaw02_plays.mono _ _ _ _ _ _
   | exact LeO.none _
   | refine LeO.ite ?_ ?_
   | refine LeO.bind ?_ (fun _ => ?_)
set_option maxHeartbeats 8000000 in
set_option maxRecDepth 100000 in
theorem redraftlaw02_upTo.calls (k : Nat) (A0 : Option Addr) (c0 : Nat) (l0 : List (S76)) (a1 : Int) (a2 : Int) (r : Bool) (w : World) (hr0 : Kd.C k76 w A0 l0.length l0) (hc0 : l0.length ≤ c0) (h : redraftlaw02_upTo.f k l0 a1 a2 = some r) :
  Calls Try.prog 41 #[.slice A0 l0.length c0, .int .i64 a1, .int .i64 a2] w fun e w' => e = .returned (.bool r) ∧ Below w.heap.size w w' := by
 have hu76 := Try.underlying76
 have HR0 := Aside0.mk hr0
 have HC0 := Aside0.mk hc0
 clear hr0 hc0
 have HB := Aside0.mk (Below.refl w.heap.size w)
 have H : (redraftlaw02_upTo.l0 k l0 a1 a2 0) = some r := h
 clear h
 have H' := Aside0.mk H
 clear H
 go_enter Try.func41, Try.ntmps41
 go_wp2
 go_loopg [7] k (fun kq v7 w' => ∃ (x7_1 : Int), v7 = .int .i64 x7_1 ∧ Aside0 (redraftlaw02_upTo.l0 kq l0 a1 a2 x7_1 = some r) ∧ Aside0 (kq ≤ k) ∧ Aside0 (Below w.heap.size w w'))
 case atStart => exact ⟨(0), (by first | rfl | (simp; done) | (simp [*]; done)), H', ⟨Nat.le_refl _⟩, ⟨by repeat (first | (with_reducible first | exact HB.out | apply below_alloc | apply pw_below_drewN | apply below_drew1) | exact HB.out)⟩⟩
 case round =>
  clear H'
  try clear p2
  obtain ⟨x7_1, rfl, HA, HK1, HB⟩ := hrel
  cases gk with
  | zero => exact absurd HA.out (by simp [redraftlaw02_upTo.l0])
  | succ k1 =>
   have H := HA.out
   clear HA
   simp only [redraftlaw02_upTo.l0] at H
   by_cases c4 : x7_1 < (l0.length : Int)
   ·rw [if_pos c4] at H
    have c4b0 : decide (x7_1 < (l0.length : Int)) = true := decide_eq_true c4
    clear c4
    by_cases c5 : 0 ≤ x7_1
    ·rw [if_pos c5] at H
     have c5b0 : decide (0 ≤ x7_1) = true := decide_eq_true c5
     clear c5
     have HC6 := Aside0.mk H
     clear H
     have p565 : 0 ≤ (x7_1 : Int) := of_decide_eq_true (by first | (with_reducible assumption) | assumption)
     have q565 : x7_1 < (l0.length : Int) := of_decide_eq_true (by first | (with_reducible assumption) | assumption)
     obtain ⟨ad565, A565_1, c565_1, A565_2, c565_2, e565, hx565_0, hx565_1, hx565_2, hx565_3, hx565_4, hl565_1, hi565_1, hl565_2, hi565_2⟩ := at_T76 HR0.out x7_1 p565 q565
     cases e565
     replace hx565_0 := (HB.out.cell (World.block_lt_of_cell? w _ hx565_0)).trans hx565_0
     replace hx565_1 := (HB.out.cell (World.block_lt_of_cell? w _ hx565_1)).trans hx565_1
     replace hx565_2 := (HB.out.cell (World.block_lt_of_cell? w _ hx565_2)).trans hx565_2
     replace hx565_3 := (HB.out.cell (World.block_lt_of_cell? w _ hx565_3)).trans hx565_3
     replace hx565_4 := (HB.out.cell (World.block_lt_of_cell? w _ hx565_4)).trans hx565_4
     have HR565_1 := Aside0.mk hi565_1
     have HC565_1 := Aside0.mk hl565_1
     clear hi565_1 hl565_1
     have HR565_2 := Aside0.mk hi565_2
     have HC565_2 := Aside0.mk hl565_2
     clear hi565_2 hl565_2
     replace p565 := eq_true p565
     replace q565 := eq_true q565
     go_upto_region 5 with (first | ((with_reducible refine gate_dst (N := 8) rfl ?_); refine box_event ?hg (N := 8) ?hd (cs := #[.int .i64 0, .slice none 0 0, .slice none 0 0, .int .i64 0, .int .i64 0]) (t := 76) ?hr ?_; (case hd => rfl); (case hg => rfl); (case hr => first | (go_simp; done) | (go_simp; rfl)); intro gb566 hg w7 hbox hb; have n0_ := Aside0.mk (below_step (by repeat (first | (with_reducible first | exact HB.out | apply below_alloc | apply pw_below_drewN | apply below_drew1) | exact HB.out)) hb); have n1_ := Aside0.mk (hbox); have n2_ := Aside0.mk ((by rw [hg]; exact (below_size (by repeat (first | (with_reducible first | exact HB.out | apply below_alloc | apply pw_below_drewN | apply below_drew1) | exact HB.out))) : w.heap.size ≤ gb566)); have n3_ := Aside0.mk ((by rw [hg]; exact (below_size (by repeat (first | (with_reducible first | exact HB.out | apply below_alloc | apply pw_below_drewN | apply below_drew1) | exact HB.out))) : w.heap.size ≤ gb566)); clear HB; have HB := n0_; have BK566 := n1_; have GW566 := n2_; have GE566 := n3_; clear n0_ n1_ n2_ n3_; clear hb hbox hg; have hcz8_0 : w7.cell? ⟨gb566, 0, none⟩ = some (.int .i64 0) := (blk_cell BK566.out 0).trans rfl; have hcz8_1 : w7.cell? ⟨gb566, 1, none⟩ = some (.slice none 0 0) := (blk_cell BK566.out 1).trans rfl; have hcz8_2 : w7.cell? ⟨gb566, 2, none⟩ = some (.slice none 0 0) := (blk_cell BK566.out 2).trans rfl; have hcz8_3 : w7.cell? ⟨gb566, 3, none⟩ = some (.int .i64 0) := (blk_cell BK566.out 3).trans rfl; have hcz8_4 : w7.cell? ⟨gb566, 4, none⟩ = some (.int .i64 0) := (blk_cell BK566.out 4).trans rfl; have hfz8_0 := blk_frozen BK566.out 0; have hfz8_1 := blk_frozen BK566.out 1; have hfz8_2 := blk_frozen BK566.out 2; have hfz8_3 := blk_frozen BK566.out 3; have hfz8_4 := blk_frozen BK566.out 4))
     (try simp only [Act.put, List.setIfInBounds_toArray, List.set_cons_zero, List.set_cons_succ])
     go_cut [29] (fun v29 wc => ∃ (kq : Nat) (x29_5 : Bool), v29 = .bool x29_5 ∧ Aside0 (redraftlaw02_upTo.j1 kq l0 a1 a2 x7_1 x29_5 ((rd_T76 l0 x7_1).f0) ((rd_T76 l0 x7_1).f1) ((rd_T76 l0 x7_1).f2) ((rd_T76 l0 x7_1).f3) ((rd_T76 l0 x7_1).f4) = some r) ∧ Aside0 (kq ≤ k1) ∧ Aside0 (wc.heap[gb566]? = some (.cells #[.int .i64 ((rd_T76 l0 x7_1).f0), (.slice A565_1 ((rd_T76 l0 x7_1).f1).length c565_1), (.slice A565_2 ((rd_T76 l0 x7_1).f2).length c565_2), .int .i64 ((rd_T76 l0 x7_1).f3), .int .i64 ((rd_T76 l0 x7_1).f4)] 76 (0, 0))) ∧ Aside0 (Below w.heap.size w wc))
     case first =>
      have H := HC6.out
      clear HC6
      by_cases c9 : ((rd_T76 l0 x7_1).f0) ≥ a1
      ·rw [if_pos c9] at H
       have c9b0 : decide (a1 ≤ ((rd_T76 l0 x7_1).f0)) = true := decide_eq_true c9
       clear c9
       (first | rw [c9b0] | (simp only [i64_w, i32_w]; rw [c9b0]) | skip)
       have H' := Aside0.mk H
       clear H
       have hcz10_0 : w7.cell? ⟨gb566, 0, none⟩ = some (.int .i64 0) := (blk_cell BK566.out 0).trans rfl
       have hcz10_1 : w7.cell? ⟨gb566, 1, none⟩ = some (.slice none 0 0) := (blk_cell BK566.out 1).trans rfl
       have hcz10_2 : w7.cell? ⟨gb566, 2, none⟩ = some (.slice none 0 0) := (blk_cell BK566.out 2).trans rfl
       have hcz10_3 : w7.cell? ⟨gb566, 3, none⟩ = some (.int .i64 0) := (blk_cell BK566.out 3).trans rfl
       have hcz10_4 : w7.cell? ⟨gb566, 4, none⟩ = some (.int .i64 0) := (blk_cell BK566.out 4).trans rfl
       have hfz10_0 := blk_frozen BK566.out 0
       have hfz10_1 := blk_frozen BK566.out 1
       have hfz10_2 := blk_frozen BK566.out 2
       have hfz10_3 := blk_frozen BK566.out 3
       have hfz10_4 := blk_frozen BK566.out 4
       go_wp2
       go_meet
       case rel => exact ⟨_, (decide (((rd_T76 l0 x7_1).f0) ≤ a2)), (by first | rfl | (simp; done) | (simp [*]; done)), H', ⟨by have := HK1.out; first | omega | exact Nat.le_refl _⟩, ⟨by (with_reducible repeat (first | refine blk_drewN ?_ _ | refine blk_drew ?_ | refine blk_alloc ?_ _)); refine blk_put (cs := #[.int .i64 ((rd_T76 l0 x7_1).f0), .slice A565_1 ((rd_T76 l0 x7_1).f1).length c565_1, .slice A565_2 ((rd_T76 l0 x7_1).f2).length c565_2, .int .i64 ((rd_T76 l0 x7_1).f3), .int .i64 0]) ?_ 4 _ rfl; (with_reducible repeat (first | refine blk_drewN ?_ _ | refine blk_drew ?_ | refine blk_alloc ?_ _)); refine blk_put (cs := #[.int .i64 ((rd_T76 l0 x7_1).f0), .slice A565_1 ((rd_T76 l0 x7_1).f1).length c565_1, .slice A565_2 ((rd_T76 l0 x7_1).f2).length c565_2, .int .i64 0, .int .i64 0]) ?_ 3 _ rfl; (with_reducible repeat (first | refine blk_drewN ?_ _ | refine blk_drew ?_ | refine blk_alloc ?_ _)); refine blk_put (cs := #[.int .i64 ((rd_T76 l0 x7_1).f0), .slice A565_1 ((rd_T76 l0 x7_1).f1).length c565_1, .slice none 0 0, .int .i64 0, .int .i64 0]) ?_ 2 _ rfl; (with_reducible repeat (first | refine blk_drewN ?_ _ | refine blk_drew ?_ | refine blk_alloc ?_ _)); refine blk_put (cs := #[.int .i64 ((rd_T76 l0 x7_1).f0), .slice none 0 0, .slice none 0 0, .int .i64 0, .int .i64 0]) ?_ 1 _ rfl; (with_reducible repeat (first | refine blk_drewN ?_ _ | refine blk_drew ?_ | refine blk_alloc ?_ _)); refine blk_put (cs := #[.int .i64 0, .slice none 0 0, .slice none 0 0, .int .i64 0, .int .i64 0]) ?_ 0 _ rfl; (with_reducible repeat (first | refine blk_drewN ?_ _ | refine blk_drew ?_ | refine blk_alloc ?_ _)); exact BK566.out⟩, ⟨by repeat (first | (with_reducible first | exact HB.out | apply below_alloc | apply pw_below_drewN | apply below_drew1 | refine below_set ?_ GE566.out) | exact HB.out)⟩⟩
      ·rw [if_neg c9] at H
       have c9b0 : decide (a1 ≤ ((rd_T76 l0 x7_1).f0)) = false := decide_eq_false c9
       clear c9
       (first | rw [c9b0] | (simp only [i64_w, i32_w]; rw [c9b0]) | skip)
       have H' := Aside0.mk H
       clear H
       have hcz11_0 : w7.cell? ⟨gb566, 0, none⟩ = some (.int .i64 0) := (blk_cell BK566.out 0).trans rfl
       have hcz11_1 : w7.cell? ⟨gb566, 1, none⟩ = some (.slice none 0 0) := (blk_cell BK566.out 1).trans rfl
       have hcz11_2 : w7.cell? ⟨gb566, 2, none⟩ = some (.slice none 0 0) := (blk_cell BK566.out 2).trans rfl
       have hcz11_3 : w7.cell? ⟨gb566, 3, none⟩ = some (.int .i64 0) := (blk_cell BK566.out 3).trans rfl
       have hcz11_4 : w7.cell? ⟨gb566, 4, none⟩ = some (.int .i64 0) := (blk_cell BK566.out 4).trans rfl
       have hfz11_0 := blk_frozen BK566.out 0
       have hfz11_1 := blk_frozen BK566.out 1
       have hfz11_2 := blk_frozen BK566.out 2
       have hfz11_3 := blk_frozen BK566.out 3
       have hfz11_4 := blk_frozen BK566.out 4
       go_wp2
       go_meet
       case rel => exact ⟨_, (false), (by first | rfl | (simp; done) | (simp [*]; done)), H', ⟨by have := HK1.out; first | omega | exact Nat.le_refl _⟩, ⟨by (with_reducible repeat (first | refine blk_drewN ?_ _ | refine blk_drew ?_ | refine blk_alloc ?_ _)); refine blk_put (cs := #[.int .i64 ((rd_T76 l0 x7_1).f0), .slice A565_1 ((rd_T76 l0 x7_1).f1).length c565_1, .slice A565_2 ((rd_T76 l0 x7_1).f2).length c565_2, .int .i64 ((rd_T76 l0 x7_1).f3), .int .i64 0]) ?_ 4 _ rfl; (with_reducible repeat (first | refine blk_drewN ?_ _ | refine blk_drew ?_ | refine blk_alloc ?_ _)); refine blk_put (cs := #[.int .i64 ((rd_T76 l0 x7_1).f0), .slice A565_1 ((rd_T76 l0 x7_1).f1).length c565_1, .slice A565_2 ((rd_T76 l0 x7_1).f2).length c565_2, .int .i64 0, .int .i64 0]) ?_ 3 _ rfl; (with_reducible repeat (first | refine blk_drewN ?_ _ | refine blk_drew ?_ | refine blk_alloc ?_ _)); refine blk_put (cs := #[.int .i64 ((rd_T76 l0 x7_1).f0), .slice A565_1 ((rd_T76 l0 x7_1).f1).length c565_1, .slice none 0 0, .int .i64 0, .int .i64 0]) ?_ 2 _ rfl; (with_reducible repeat (first | refine blk_drewN ?_ _ | refine blk_drew ?_ | refine blk_alloc ?_ _)); refine blk_put (cs := #[.int .i64 ((rd_T76 l0 x7_1).f0), .slice none 0 0, .slice none 0 0, .int .i64 0, .int .i64 0]) ?_ 1 _ rfl; (with_reducible repeat (first | refine blk_drewN ?_ _ | refine blk_drew ?_ | refine blk_alloc ?_ _)); refine blk_put (cs := #[.int .i64 0, .slice none 0 0, .slice none 0 0, .int .i64 0, .int .i64 0]) ?_ 0 _ rfl; (with_reducible repeat (first | refine blk_drewN ?_ _ | refine blk_drew ?_ | refine blk_alloc ?_ _)); exact BK566.out⟩, ⟨by repeat (first | (with_reducible first | exact HB.out | apply below_alloc | apply pw_below_drewN | apply below_drew1 | refine below_set ?_ GE566.out) | exact HB.out)⟩⟩
     case rest =>
      clear HC6
      try clear p2
      try clear c4
      try clear c4b0
      try clear c5
      try clear c5b0
      try clear p5
      try clear q5
      try clear hx5
      try clear c9
      try clear c9b0
      try clear hcz10_0
      try clear hcz10_1
      try clear hcz10_2
      try clear hcz10_3
      try clear hcz10_4
      try clear hcz11_0
      try clear hcz11_1
      try clear hcz11_2
      try clear hcz11_3
      try clear hcz11_4
      try clear hcz8_0
      try clear hcz8_1
      try clear hcz8_2
      try clear hcz8_3
      try clear hcz8_4
      try clear hfz10_0
      try clear hfz10_1
      try clear hfz10_2
      try clear hfz10_3
      try clear hfz10_4
      try clear hfz11_0
      try clear hfz11_1
      try clear hfz11_2
      try clear hfz11_3
      try clear hfz11_4
      try clear hfz8_0
      try clear hfz8_1
      try clear hfz8_2
      try clear hfz8_3
      try clear hfz8_4
      try clear hx565_0
      try clear hx565_1
      try clear hx565_2
      try clear hx565_3
      try clear hx565_4
      try clear p2
      try clear p565
      try clear q565
      obtain ⟨kq, x29_5, rfl, HA, HJ5, BK566, HB⟩ := hcut
      cases kq with
      | zero => exact absurd HA.out (by simp [redraftlaw02_upTo.j1])
      | succ kj5 =>
       have H := HA.out
       clear HA
       simp only [redraftlaw02_upTo.j1] at H
       by_cases c12 : x29_5 = true
       ·subst c12
        have H1 : ((redraftlaw02_plays.f kj5 ((rd_T76 l0 x7_1).f0) ((rd_T76 l0 x7_1).f1) ((rd_T76 l0 x7_1).f2) ((rd_T76 l0 x7_1).f3) ((rd_T76 l0 x7_1).f4)).bind fun t567 => (if t567 = true then (redraftlaw02_upTo.l0 kj5 l0 a1 a2 (wrap64 (x7_1 + 1))) else (some false))) = some r := by rw [if_pos rfl] at H; exact H
        clear H
        have H := H1
        clear H1
        replace H := Option.bind_eq_some_iff.mp H
        obtain ⟨t567, A130, H⟩ := H
        replace H : (if t567 = true then (redraftlaw02_upTo.l0 kj5 l0 a1 a2 (wrap64 (x7_1 + 1))) else (some false)) = some r := H
        have A13 := Aside0.mk A130
        clear A130
        by_cases c14 : t567 = true
        ·subst c14
         have H1 : (redraftlaw02_upTo.l0 kj5 l0 a1 a2 (wrap64 (x7_1 + 1))) = some r := by rw [if_pos rfl] at H; exact H
         clear H
         have H := H1
         clear H1
         have H' := Aside0.mk H
         clear H
         have hcz15_0 : wc.cell? ⟨gb566, 0, none⟩ = some (.int .i64 ((rd_T76 l0 x7_1).f0)) := (blk_cell BK566.out 0).trans rfl
         have hcz15_1 : wc.cell? ⟨gb566, 1, none⟩ = some (.slice A565_1 ((rd_T76 l0 x7_1).f1).length c565_1) := (blk_cell BK566.out 1).trans rfl
         have hcz15_2 : wc.cell? ⟨gb566, 2, none⟩ = some (.slice A565_2 ((rd_T76 l0 x7_1).f2).length c565_2) := (blk_cell BK566.out 2).trans rfl
         have hcz15_3 : wc.cell? ⟨gb566, 3, none⟩ = some (.int .i64 ((rd_T76 l0 x7_1).f3)) := (blk_cell BK566.out 3).trans rfl
         have hcz15_4 : wc.cell? ⟨gb566, 4, none⟩ = some (.int .i64 ((rd_T76 l0 x7_1).f4)) := (blk_cell BK566.out 4).trans rfl
         have hfz15_0 := blk_frozen BK566.out 0
         have hfz15_1 := blk_frozen BK566.out 1
         have hfz15_2 := blk_frozen BK566.out 2
         have hfz15_3 := blk_frozen BK566.out 3
         have hfz15_4 := blk_frozen BK566.out 4
         go_wp2_with (first | ((with_reducible refine gate_callee (f := 57) rfl ?_); refine goesL_ (some 31) rfl rfl Try.func57 (by kernel_rfl) rfl #[.agg #[.int .i64 ((rd_T76 l0 x7_1).f0), .slice A565_1 ((rd_T76 l0 x7_1).f1).length c565_1, .slice A565_2 ((rd_T76 l0 x7_1).f2).length c565_2, .int .i64 ((rd_T76 l0 x7_1).f3), .int .i64 ((rd_T76 l0 x7_1).f4)]] rfl (by (try simp only [List.map_toArray, List.map_cons, List.map_nil]); first | done | rfl | (simp only [List.length_drop, List.length_take]; rfl)) ?_; (with_reducible refine (redraftlaw02_plays.calls kj5 ((rd_T76 l0 x7_1).f0) _ _ ((rd_T76 l0 x7_1).f1) _ _ ((rd_T76 l0 x7_1).f2) ((rd_T76 l0 x7_1).f3) ((rd_T76 l0 x7_1).f4) true _ ?side1 ?side2 ?side3 ?side4 A13.out).mono ?_); (case side1 => repeat (first | exact (Kd.C_below HR565_1.out HB.out) | (with_reducible refine Kd.C_alloc ?_ _) | (with_reducible refine Kd.C_drewN ?_ _) | (with_reducible refine Kd.C_drew ?_))); (case side2 => exact HC565_1.out); (case side3 => repeat (first | exact (Kd.C_below HR565_2.out HB.out) | (with_reducible refine Kd.C_alloc ?_ _) | (with_reducible refine Kd.C_drewN ?_ _) | (with_reducible refine Kd.C_drew ?_))); (case side4 => exact HC565_2.out); rintro e w16 ⟨rfl, hb⟩; refine ⟨_, rfl, ?_⟩; have n0_ := Aside0.mk (blk_below (g := gb566) (o := .cells #[.int .i64 ((rd_T76 l0 x7_1).f0), .slice A565_1 ((rd_T76 l0 x7_1).f1).length c565_1, .slice A565_2 ((rd_T76 l0 x7_1).f2).length c565_2, .int .i64 ((rd_T76 l0 x7_1).f3), .int .i64 ((rd_T76 l0 x7_1).f4)] 76 (0, 0)) (by (with_reducible repeat (first | refine blk_drewN ?_ _ | refine blk_drew ?_ | refine blk_alloc ?_ _)); exact BK566.out) hb); have n1_ := Aside0.mk (below_step (by repeat (first | (with_reducible first | exact HB.out | apply below_alloc | apply pw_below_drewN | apply below_drew1 | refine below_set ?_ GE566.out) | exact HB.out)) hb); clear BK566; clear HB; have BK566 := n0_; have HB := n1_; clear n0_ n1_; (try clear hb); (try clear hb2); (try clear hk); (try clear hi)))
         go_roundg kj5
         case measure => have := HK1.out; have := HJ5.out; omega
         case rel => exact ⟨(wrap64 (x7_1 + 1)), (by first | rfl | (simp; done) | (simp [*]; done)), H', ⟨by have := HK1.out; have := HJ5.out; omega⟩, ⟨by repeat (first | (with_reducible first | exact HB.out | apply below_alloc | apply pw_below_drewN | apply below_drew1 | refine below_set ?_ GE566.out) | exact HB.out)⟩⟩
        ·replace c14 := Bool.eq_false_iff.mpr c14
         subst c14
         have H1 : (some false) = some r := by rw [if_neg (show ¬ (false = true) by decide)] at H; exact H
         clear H
         have H := H1
         clear H1
         obtain rfl := Option.some.inj H
         have hcz17_0 : wc.cell? ⟨gb566, 0, none⟩ = some (.int .i64 ((rd_T76 l0 x7_1).f0)) := (blk_cell BK566.out 0).trans rfl
         have hcz17_1 : wc.cell? ⟨gb566, 1, none⟩ = some (.slice A565_1 ((rd_T76 l0 x7_1).f1).length c565_1) := (blk_cell BK566.out 1).trans rfl
         have hcz17_2 : wc.cell? ⟨gb566, 2, none⟩ = some (.slice A565_2 ((rd_T76 l0 x7_1).f2).length c565_2) := (blk_cell BK566.out 2).trans rfl
         have hcz17_3 : wc.cell? ⟨gb566, 3, none⟩ = some (.int .i64 ((rd_T76 l0 x7_1).f3)) := (blk_cell BK566.out 3).trans rfl
         have hcz17_4 : wc.cell? ⟨gb566, 4, none⟩ = some (.int .i64 ((rd_T76 l0 x7_1).f4)) := (blk_cell BK566.out 4).trans rfl
         have hfz17_0 := blk_frozen BK566.out 0
         have hfz17_1 := blk_frozen BK566.out 1
         have hfz17_2 := blk_frozen BK566.out 2
         have hfz17_3 := blk_frozen BK566.out 3
         have hfz17_4 := blk_frozen BK566.out 4
         go_wp2_with (first | ((with_reducible refine gate_callee (f := 57) rfl ?_); refine goesL_ (some 31) rfl rfl Try.func57 (by kernel_rfl) rfl #[.agg #[.int .i64 ((rd_T76 l0 x7_1).f0), .slice A565_1 ((rd_T76 l0 x7_1).f1).length c565_1, .slice A565_2 ((rd_T76 l0 x7_1).f2).length c565_2, .int .i64 ((rd_T76 l0 x7_1).f3), .int .i64 ((rd_T76 l0 x7_1).f4)]] rfl (by (try simp only [List.map_toArray, List.map_cons, List.map_nil]); first | done | rfl | (simp only [List.length_drop, List.length_take]; rfl)) ?_; (with_reducible refine (redraftlaw02_plays.calls kj5 ((rd_T76 l0 x7_1).f0) _ _ ((rd_T76 l0 x7_1).f1) _ _ ((rd_T76 l0 x7_1).f2) ((rd_T76 l0 x7_1).f3) ((rd_T76 l0 x7_1).f4) false _ ?side1 ?side2 ?side3 ?side4 A13.out).mono ?_); (case side1 => repeat (first | exact (Kd.C_below HR565_1.out HB.out) | (with_reducible refine Kd.C_alloc ?_ _) | (with_reducible refine Kd.C_drewN ?_ _) | (with_reducible refine Kd.C_drew ?_))); (case side2 => exact HC565_1.out); (case side3 => repeat (first | exact (Kd.C_below HR565_2.out HB.out) | (with_reducible refine Kd.C_alloc ?_ _) | (with_reducible refine Kd.C_drewN ?_ _) | (with_reducible refine Kd.C_drew ?_))); (case side4 => exact HC565_2.out); rintro e w18 ⟨rfl, hb⟩; refine ⟨_, rfl, ?_⟩; have n0_ := Aside0.mk (blk_below (g := gb566) (o := .cells #[.int .i64 ((rd_T76 l0 x7_1).f0), .slice A565_1 ((rd_T76 l0 x7_1).f1).length c565_1, .slice A565_2 ((rd_T76 l0 x7_1).f2).length c565_2, .int .i64 ((rd_T76 l0 x7_1).f3), .int .i64 ((rd_T76 l0 x7_1).f4)] 76 (0, 0)) (by (with_reducible repeat (first | refine blk_drewN ?_ _ | refine blk_drew ?_ | refine blk_alloc ?_ _)); exact BK566.out) hb); have n1_ := Aside0.mk (below_step (by repeat (first | (with_reducible first | exact HB.out | apply below_alloc | apply pw_below_drewN | apply below_drew1 | refine below_set ?_ GE566.out) | exact HB.out)) hb); clear BK566; clear HB; have BK566 := n0_; have HB := n1_; clear n0_ n1_; (try clear hb); (try clear hb2); (try clear hk); (try clear hi)))
         go_ret
         exact ⟨by first | rfl | (simp [errW_none, errW_some] <;> rfl) | (simp [*, errW_none, errW_some] <;> rfl), by repeat (first | (with_reducible first | exact HB.out | apply below_alloc | apply pw_below_drewN | apply below_drew1 | refine below_set ?_ GE566.out) | exact HB.out)⟩
       ·replace c12 := Bool.eq_false_iff.mpr c12
        subst c12
        have H1 : (redraftlaw02_upTo.l0 kj5 l0 a1 a2 (wrap64 (x7_1 + 1))) = some r := by rw [if_neg (show ¬ (false = true) by decide)] at H; exact H
        clear H
        have H := H1
        clear H1
        have H' := Aside0.mk H
        clear H
        go_wp2
        go_roundg kj5
        case measure => have := HK1.out; have := HJ5.out; omega
        case rel => exact ⟨(wrap64 (x7_1 + 1)), (by first | rfl | (simp; done) | (simp [*]; done)), H', ⟨by have := HK1.out; have := HJ5.out; omega⟩, ⟨by repeat (first | (with_reducible first | exact HB.out | apply below_alloc | apply pw_below_drewN | apply below_drew1 | refine below_set ?_ GE566.out) | exact HB.out)⟩⟩
    ·rw [if_neg c5] at H
     exact absurd H (by simp)
   ·rw [if_neg c4] at H
    have c4b0 : decide (x7_1 < (l0.length : Int)) = false := decide_eq_false c4
    clear c4
    obtain rfl := Option.some.inj H
    go_wp2
    go_ret
    exact ⟨by first | rfl | (simp [errW_none, errW_some] <;> rfl) | (simp [*, errW_none, errW_some] <;> rfl), by repeat (first | (with_reducible first | exact HB.out | apply below_alloc | apply pw_below_drewN | apply below_drew1) | exact HB.out)⟩
end Go.Proofs.Ytmidiifgdloojaa.Kt
end
section
namespace Go.Proofs.Ytmidiifgdloojaa.Kt
open Go.Proofs.Ytmidiifgdloojaa.Pr
open Go.RowKit Go.Proofs.YtmidiifgdloojaaW.PrintWords Go.Proofs.YtmidiifgdloojaaW.PrintLast Go.Proofs.YtmidiifgdloojaaW.PrintMore
attribute [local go_sem] max2_int min2_int max_two min_two max_three min_three max_four min_four
set_option linter.unusedVariables false
set_option linter.unusedSimpArgs false
def redraftlaw02_SpanSets.f (k : Nat) (l0 : List (S76)) : Option (Bool) := (redraftlaw02_awake.f k).bind fun t568 => (if t568 = true then ((redraftlaw02_upTo.f k l0 2 5).bind fun t569 => (some t569)) else (some false))
theorem redraftlaw02_SpanSets.mono : ∀ a0 k, LeO (redraftlaw02_SpanSets.f k a0) (redraftlaw02_SpanSets.f (k + 1) a0) := by
 intro a0 k
 unfold redraftlaw02_SpanSets.f
 repeat' first
   | (with_reducible exact redraftlaw02_awake.mono _)
   | (with_reducible exact redraftlaw02_upTo.mono _ _ _ _)
   | (with_reducible exact LeO.refl _)
   | (with_reducible exact LeO.none _)
   | (with_reducible refine LeO.ite ?_ ?_)
   | (with_reducible refine LeO.bind ?_ (fun _ => ?_))
   | exact redraftlaw02_awake.mono _
   | exact redraftlaw02_upTo.mono _ _ _ _
   | exact LeO.none _
   | refine LeO.ite ?_ ?_
   | refine LeO.bind ?_ (fun _ => ?_)
set_option maxHeartbeats 8000000 in
set_option maxRecDepth 100000 in
theorem redraftlaw02_SpanSets.calls (k : Nat) (A0 : Option Addr) (c0 : Nat) (l0 : List (S76)) (r : Bool) (w : World) (hr0 : Kd.C k76 w A0 l0.length l0) (hc0 : l0.length ≤ c0) (h : redraftlaw02_SpanSets.f k l0 = some r) :
  Calls Try.prog 10 #[.slice A0 l0.length c0] w fun e w' => e = .returned (.bool r) ∧ Below w.heap.size w w' := by
 have HR0 := Aside0.mk hr0
 have HC0 := Aside0.mk hc0
 clear hr0 hc0
 have HB := Aside0.mk (Below.refl w.heap.size w)
 have H : ((redraftlaw02_awake.f k).bind fun t568 => (if t568 = true then ((redraftlaw02_upTo.f k l0 2 5).bind fun t569 => (some t569)) else (some false))) = some r := h
 clear h
 replace H := Option.bind_eq_some_iff.mp H
 obtain ⟨t568, A20, H⟩ := H
 replace H : (if t568 = true then ((redraftlaw02_upTo.f k l0 2 5).bind fun t569 => (some t569)) else (some false)) = some r := H
 have A2 := Aside0.mk A20
 clear A20
 by_cases c3 : t568 = true
 ·subst c3
  have H1 : ((redraftlaw02_upTo.f k l0 2 5).bind fun t569 => (some t569)) = some r := by rw [if_pos rfl] at H; exact H
  clear H
  have H := H1
  clear H1
  replace H := Option.bind_eq_some_iff.mp H
  obtain ⟨t569, A40, H⟩ := H
  replace H : (some t569) = some r := H
  have A4 := Aside0.mk A40
  clear A40
  obtain rfl := Option.some.inj H
  go_enter Try.func10, Try.ntmps10
  go_wp2_with (first | ((with_reducible refine gate_callee (f := 20) rfl ?_); refine goesL_ (some 3) rfl rfl Try.func20 (by kernel_rfl) rfl #[] rfl (by (try simp only [List.map_toArray, List.map_cons, List.map_nil]); first | done | rfl | (simp only [List.length_drop, List.length_take]; rfl)) ?_; (with_reducible refine (redraftlaw02_awake.calls k  true _ A2.out).mono ?_); rintro e w5 ⟨rfl, hb⟩; refine ⟨_, rfl, ?_⟩; have n0_ := Aside0.mk (below_step (by repeat (first | (with_reducible first | exact HB.out | apply below_alloc | apply pw_below_drewN | apply below_drew1) | exact HB.out)) hb); clear HB; have HB := n0_; clear n0_; (try clear hb); (try clear hb2); (try clear hk); (try clear hi)) | (go_at_call 41; (with_reducible refine (redraftlaw02_upTo.calls k _ _ l0 2 5 t569 _ ?side1 ?side2 A4.out).mono ?_); (case side1 => repeat (first | exact (Kd.C_below HR0.out HB.out) | (with_reducible refine Kd.C_alloc ?_ _) | (with_reducible refine Kd.C_drewN ?_ _) | (with_reducible refine Kd.C_drew ?_))); (case side2 => exact HC0.out); rintro e w6 ⟨rfl, hb⟩; have n0_ := Aside0.mk (below_step (by repeat (first | (with_reducible first | exact HB.out | apply below_alloc | apply pw_below_drewN | apply below_drew1) | exact HB.out)) hb); clear HB; have HB := n0_; clear n0_; (try clear hb); (try clear hb2); (try clear hk); (try clear hi)))
  go_ret
  exact ⟨by first | rfl | (simp [errW_none, errW_some] <;> rfl) | (simp [*, errW_none, errW_some] <;> rfl), by repeat (first | (with_reducible first | exact HB.out | apply below_alloc | apply pw_below_drewN | apply below_drew1) | exact HB.out)⟩
 ·replace c3 := Bool.eq_false_iff.mpr c3
  subst c3
  have H1 : (some false) = some r := by rw [if_neg (show ¬ (false = true) by decide)] at H; exact H
  clear H
  have H := H1
  clear H1
  obtain rfl := Option.some.inj H
  go_enter Try.func10, Try.ntmps10
  go_wp2_with (first | ((with_reducible refine gate_callee (f := 20) rfl ?_); refine goesL_ (some 3) rfl rfl Try.func20 (by kernel_rfl) rfl #[] rfl (by (try simp only [List.map_toArray, List.map_cons, List.map_nil]); first | done | rfl | (simp only [List.length_drop, List.length_take]; rfl)) ?_; (with_reducible refine (redraftlaw02_awake.calls k  false _ A2.out).mono ?_); rintro e w7 ⟨rfl, hb⟩; refine ⟨_, rfl, ?_⟩; have n0_ := Aside0.mk (below_step (by repeat (first | (with_reducible first | exact HB.out | apply below_alloc | apply pw_below_drewN | apply below_drew1) | exact HB.out)) hb); clear HB; have HB := n0_; clear n0_; (try clear hb); (try clear hb2); (try clear hk); (try clear hi)))
  go_ret
  exact ⟨by first | rfl | (simp [errW_none, errW_some] <;> rfl) | (simp [*, errW_none, errW_some] <;> rfl), by repeat (first | (with_reducible first | exact HB.out | apply below_alloc | apply pw_below_drewN | apply below_drew1) | exact HB.out)⟩
end Go.Proofs.Ytmidiifgdloojaa.Kt
end
section
namespace Go.Proofs.Ytmidiifgdloojaa.SpanFnsKt
open Go.Proofs.Ytmidiifgdloojaa.Kt
open Go.RowKit Go.Proofs.YtmidiifgdloojaaW.PrintWords Go.Proofs.YtmidiifgdloojaaW.PrintMore Go.Proofs.Ytmidiifgdloojaa.Pr Go.Proofs.Ytmidiifgdloojaa.SpanMath Go.Proofs.Ytmidiifgdloojaa.SpanReads Go.Proofs.Ytmidiifgdloojaa.SpanFns
theorem upTo_l0 {lo hi : Int} : ∀ (suf pre : List S76), (pre ++ suf).length < 8796093022208 →
    (∀ o ∈ suf, lo ≤ o.f0 → o.f0 ≤ hi → Ev (fun k => Kt.redraftlaw02_plays.f k o.f0 o.f1 o.f2 o.f3 o.f4) true) → Ev (fun k => Kt.redraftlaw02_upTo.l0 k (pre ++ suf) lo hi (pre.length : Int)) true
  | [], pre, _, _ => Ev.step (f := fun _ => some true) (fun k => by simp only [Kt.redraftlaw02_upTo.l0]; rw [if_neg (by simp)]) (Ev.now _)
  | o :: suf, pre, hl, h => by
    have hl1 : (pre ++ o :: suf).length = pre.length + 1 + suf.length := by simp; omega
    have ih := upTo_l0 suf (pre ++ [o]) (by rw [List.append_assoc]; exact hl) (fun x hx => h x (List.mem_cons_of_mem _ hx))
    rw [List.append_assoc, List.singleton_append] at ih
    have e1 : wrap64 ((pre.length : Int) + 1) = ((pre ++ [o]).length : Int) := by rw [w64 (by omega) (by omega)]; simp
    have key : ∀ b : Bool, b = decide (lo ≤ o.f0 ∧ o.f0 ≤ hi) → Ev (fun k => Kt.redraftlaw02_upTo.j1 k (pre ++ o :: suf) lo hi (pre.length : Int) b o.f0 o.f1 o.f2 o.f3 o.f4) true := by
      rintro b rfl
      by_cases c : lo ≤ o.f0 ∧ o.f0 ≤ hi
      · refine Ev.step (f := fun k => (Kt.redraftlaw02_plays.f k o.f0 o.f1 o.f2 o.f3 o.f4).bind fun t => if t = true then Kt.redraftlaw02_upTo.l0 k (pre ++ o :: suf) lo hi (wrap64 ((pre.length : Int) + 1)) else some false) (fun k => by simp only [Kt.redraftlaw02_upTo.j1]; rw [if_pos (by simpa using c)]) ?_
        refine Ev.bind (h o List.mem_cons_self c.1 c.2) ?_
        simp only [if_true, e1]
        exact ih
      · refine Ev.step (f := fun k => Kt.redraftlaw02_upTo.l0 k (pre ++ o :: suf) lo hi (wrap64 ((pre.length : Int) + 1))) (fun k => by simp only [Kt.redraftlaw02_upTo.j1]; rw [if_neg (by simpa using c)]) ?_
        simp only [e1]
        exact ih
    by_cases c : lo ≤ o.f0
    · refine Ev.step (f := fun k => Kt.redraftlaw02_upTo.j1 k (pre ++ o :: suf) lo hi (pre.length : Int) (decide (o.f0 ≤ hi)) o.f0 o.f1 o.f2 o.f3 o.f4) (fun k => by simp only [Kt.redraftlaw02_upTo.l0]; rw [if_pos (by omega), if_pos (by omega), rd76_at, if_pos c]) ?_
      exact key _ (by simp [c])
    · refine Ev.step (f := fun k => Kt.redraftlaw02_upTo.j1 k (pre ++ o :: suf) lo hi (pre.length : Int) false o.f0 o.f1 o.f2 o.f3 o.f4) (fun k => by simp only [Kt.redraftlaw02_upTo.l0]; rw [if_pos (by omega), if_pos (by omega), rd76_at, if_neg c]) ?_
      exact key _ (by simp [c])
theorem upTo_ev {lo hi : Int} {ops : List S76} (hl : ops.length < 8796093022208) (h : ∀ o ∈ ops, lo ≤ o.f0 → o.f0 ≤ hi → Ev (fun k => Kt.redraftlaw02_plays.f k o.f0 o.f1 o.f2 o.f3 o.f4) true) : Ev (fun k => Kt.redraftlaw02_upTo.f k ops lo hi) true :=
  upTo_l0 ops [] hl h
theorem list_ok {x : List S36 × Int} (h : Short x.1) : Ev (fun k => redraftlaw02_list.f k x.1 x.2 x.1 x.2) true := by
  unfold redraftlaw02_list.f
  simp only [num_f, Option.bind_some, if_true]
  refine ⟨x.1.length + 1, fun k hk => ?_⟩
  dsimp only
  rw [same_f h hk]
  simp
theorem sets_ev {l m : List S36} (kd a b : Int) (h : WfL l) (h2 : WfL m) (hk : kd = 2 ∨ kd = 3 ∨ kd = 4 ∨ kd = 5) : Ev (fun k => redraftlaw02_sets.f k kd l m a b) true := by
  have hs := wfl_short h
  have hm := wfl_short h2
  unfold redraftlaw02_sets.f
  simp only [copied_f hs, copied_f hm, Option.bind_some, Make_f]
  rcases hk with rfl | rfl | rfl | rfl
  · simp only [if_true]
    exact Ev.bind (refMake_ev l) (Ev.bind (list_ok (makeA_short l)) (Ev.now true))
  · simp only [if_true, show ¬ ((3 : Int) = 2) from by omega, if_false]
    exact Ev.bind (Union_ev hs hm) (Ev.bind (refUnion_ev hs hm) (Ev.bind (list_ok (unionA_short l m)) (Ev.now true)))
  · simp only [if_true, show ¬ ((4 : Int) = 2) from by omega, show ¬ ((4 : Int) = 3) from by omega, if_false]
    exact Ev.bind (Meet_ev hs hm) (Ev.bind (refMeet_ev hs hm) (Ev.bind (list_ok (meetA_short l m)) (Ev.now true)))
  · simp only [show ¬ ((5 : Int) = 2) from by omega, show ¬ ((5 : Int) = 3) from by omega, show ¬ ((5 : Int) = 4) from by omega, if_false]
    exact Ev.bind (Minus_ev hs hm) (Ev.bind (refMinus_ev hs hm) (Ev.bind (list_ok (minusA_short l m)) (Ev.now true)))
theorem plays_sets {l m : List S36} (kd a b : Int) (h : WfL l) (h2 : WfL m) (hk : kd = 2 ∨ kd = 3 ∨ kd = 4 ∨ kd = 5) : Ev (fun k => Kt.redraftlaw02_plays.f k kd l m a b) true := by
  have hc := sets_ev kd a b h h2 hk
  have j0 : Ev (fun k => Kt.redraftlaw02_plays.j0 k kd true kd l m a b) true := by
    refine Ev.step (f := fun k => (redraftlaw02_sets.f k kd l m a b).bind fun t => some t) (fun k => by simp only [Kt.redraftlaw02_plays.j0, if_true]) ?_
    exact Ev.bind hc (Ev.now _)
  refine Ev.congr (f := fun k => Kt.redraftlaw02_plays.j0 k kd true kd l m a b) (fun k => ?_) j0
  unfold Kt.redraftlaw02_plays.f
  rcases hk with rfl | rfl | rfl | rfl <;> simp
theorem SpanSets_pure (ops : List S76) (h : ops.length * 72 ≤ 140737488351232 ∧ ∀ o ∈ ops, WfOp o) : ∃ k, Kt.redraftlaw02_SpanSets.f k ops = some true := by
  refine Ev.rounds (g := fun k => Kt.redraftlaw02_SpanSets.f k ops) ?_
  refine Ev.congr (f := fun k => (redraftlaw02_awake.f k).bind fun t => if t = true then ((Kt.redraftlaw02_upTo.f k ops 2 5).bind fun t => some t) else some false) (fun k => rfl) ?_
  refine Ev.bind awake_ev ?_
  simp only [if_true]
  refine Ev.bind (upTo_ev (by have := h.1; omega) (fun o ho h1 h2 => ?_)) (Ev.now true)
  have w := h.2 o ho
  exact plays_sets o.f0 o.f3 o.f4 w.2.1 w.2.2.1 (by omega)
end Go.Proofs.Ytmidiifgdloojaa.SpanFnsKt
end
