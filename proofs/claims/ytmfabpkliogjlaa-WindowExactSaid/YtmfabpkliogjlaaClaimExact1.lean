/- Every answer of two windows, in turns, is the answer of the document: put, peek, pass, drop, loops over what is ready that end early and put from within, and at the end what they hold. -/
import Derived.Maps.OwnSet
import Derived.Below
import Derived.WalkKit
import Derived.KernelRfl
import Derived.Test.YtmfabpkliogjlaaProg
import Derived.Tactics
import Derived.IntWalk
import Derived.RangeFuncBox
import Derived.RangeFuncNested
import Derived.RangeFuncBound
import Derived.RangeFuncCalls
import Derived.RangeFuncLeaves
import Derived.Shelf.Abstract
import Derived.Shelf.RegionOpen
import Derived.OwnWalkIn
import Derived.TacticsInMore
import Derived.LoopNIn
import Derived.LoopIn
import Derived.Deep.AppendLies
import Derived.OwnWalk
import Derived.Deep.Onto
import Derived.Deep.CutBlock
import Derived.Deep.DeepCutAuto
import Derived.Lib.Hide
import Derived.BigQuiet
import Derived.StillTailTactics
import Derived.Maps.AppendAt
import Derived.Maps.OwnIn
import Derived.Deep.RegionLaw
import Derived.Laws.OwnMore
import Derived.Shelf.SlIterI.Nil
import Derived.Shelf.SortM.Plain
import Derived.Shelf.SortM.SortNone
import Derived.Shelf.SlGeneric
import Derived.Ground.GgzProg
import Derived.Ground.SlgmProg
import Derived.Deep.RegionWith
import Derived.Sort.QuietIn
import Derived.Sort.BigQuietIn
import Derived.SizedLaws
import Derived.Deep.Slices
import Derived.ChangeArms
import Derived.DataReads
import Derived.Test.YtmfabpkliogjlaaClaimExactW0
section
namespace Go.Proofs.YtmfabpkliogjlaaWin
set_option linter.unusedSimpArgs false
set_option linter.unusedVariables false
abbrev Things := List (Int × Int)
def look (hs : Things) (x : Int) : Option Int := (hs.find? (fun y => y.1 == x)).map (·.2)
def wo (hs : Things) (x : Int) : Things := hs.filter (fun y => y.1 != x)
theorem look_nil (x : Int) : look [] x = none := rfl
theorem look_cons (a : Int × Int) (hs : Things) (x : Int) : look (a :: hs) x = if a.1 = x then some a.2 else look hs x := by
  unfold look
  rw [List.find?_cons]
  by_cases c : a.1 = x
  · rw [if_pos c, show (a.1 == x) = true from beq_iff_eq.2 c]; rfl
  · rw [if_neg c, show (a.1 == x) = false from beq_eq_false_iff_ne.2 c]
theorem look_none_iff {hs : Things} {x : Int} : look hs x = none ↔ ∀ y ∈ hs, y.1 ≠ x := by
  induction hs with
  | nil => simp [look_nil]
  | cons a hs ih =>
    rw [look_cons]
    by_cases c : a.1 = x
    · rw [if_pos c]; simp [c]
    · rw [if_neg c, ih]; simp [c]
theorem look_isSome {hs : Things} {x : Int} : (look hs x).isSome = true ↔ x ∈ hs.map (·.1) := by
  cases h : look hs x with
  | none =>
    rw [look_none_iff] at h
    simp only [Option.isSome_none, Bool.false_eq_true, false_iff, List.mem_map, not_exists, not_and]
    exact fun y hy e => h y hy e
  | some v =>
    simp only [Option.isSome_some, true_iff]
    refine Classical.byContradiction fun hn => ?_
    have : look hs x = none := look_none_iff.2 (fun y hy e => hn (List.mem_map.2 ⟨y, hy, e⟩))
    rw [h] at this
    cases this
theorem look_put {hs : Things} {n v : Int} (h : look hs n = none) : look (hs ++ [(n, v)]) = fun y => if y = n then some v else look hs y := by
  funext y
  induction hs with
  | nil =>
    rw [List.nil_append, look_cons, look_nil]
    by_cases c : y = n
    · rw [if_pos c, if_pos c.symm]
    · rw [if_neg c, if_neg (fun e => c e.symm)]
  | cons a hs ih =>
    rw [look_cons] at h
    by_cases ca : a.1 = n
    · rw [if_pos ca] at h; cases h
    · rw [if_neg ca] at h
      rw [List.cons_append, look_cons, ih h, look_cons]
      by_cases c : a.1 = y
      · rw [if_pos c, if_pos c, if_neg (fun e => ca (c.trans e))]
      · rw [if_neg c, if_neg c]
theorem look_wo (hs : Things) (n : Int) : look (wo hs n) = fun y => if y = n then none else look hs y := by
  funext y
  induction hs with
  | nil => simp [wo, look_nil]
  | cons a hs ih =>
    unfold wo at ih ⊢
    rw [List.filter_cons]
    by_cases ca : a.1 = n
    · rw [if_neg (by simp [ca]), ih, look_cons]
      by_cases c : y = n
      · rw [if_pos c, if_pos c]
      · rw [if_neg c, if_neg c, if_neg (fun e => c (e.symm.trans ca))]
    · rw [if_pos (by simp [ca]), look_cons, ih, look_cons]
      by_cases c : a.1 = y
      · rw [if_pos c, if_pos c, if_neg (fun e => ca (c.trans e))]
      · rw [if_neg c, if_neg c]
def Keys (hs : Things) : Prop := (hs.map (·.1)).Nodup
theorem Keys.put {hs : Things} (h : Keys hs) {n v : Int} (hn : look hs n = none) : Keys (hs ++ [(n, v)]) := by
  unfold Keys at *
  rw [List.map_append, List.nodup_append]
  refine ⟨h, by simp, ?_⟩
  intro a ha b hb
  have hb' : b = n := by simpa using hb
  rw [hb']
  intro e
  obtain ⟨y, hy, e2⟩ := List.mem_map.1 ha
  exact look_none_iff.1 hn y hy (e2.trans e)
theorem Keys.wo {hs : Things} (h : Keys hs) (n : Int) : Keys (wo hs n) := by
  unfold Keys at *
  exact List.Sublist.nodup (List.Sublist.map _ List.filter_sublist) h
theorem wo_at {hs : Things} (h : Keys hs) {i : Nat} (hi : i < hs.length) : wo hs hs[i].1 = hs.take i ++ hs.drop (i + 1) := by
  have e : hs = hs.take i ++ hs[i] :: hs.drop (i + 1) := by simp
  have hk := h
  unfold Keys at hk
  rw [e, List.map_append, List.map_cons, List.nodup_append, List.nodup_cons] at hk
  obtain ⟨_, ⟨h2, _⟩, h3⟩ := hk
  obtain ⟨x, hx⟩ : ∃ x, x = hs[i] := ⟨_, rfl⟩
  rw [← hx] at e h2 h3 ⊢
  have k1 : wo (hs.take i) x.1 = hs.take i := by
    unfold wo
    rw [List.filter_eq_self]
    intro a ha
    have := h3 a.1 (List.mem_map.2 ⟨a, ha, rfl⟩) x.1 (by simp)
    simpa using this
  have k2 : wo (hs.drop (i + 1)) x.1 = hs.drop (i + 1) := by
    unfold wo
    rw [List.filter_eq_self]
    intro a ha
    have : a.1 ≠ x.1 := fun e => h2 (List.mem_map.2 ⟨a, ha, e⟩)
    simpa using this
  have : wo hs x.1 = wo (hs.take i) x.1 ++ wo (x :: hs.drop (i + 1)) x.1 := by
    conv => lhs; rw [e]
    simp [wo]
  rw [this, k1]
  congr 1
  rw [show wo (x :: hs.drop (i + 1)) x.1 = wo (hs.drop (i + 1)) x.1 by simp [wo], k2]
theorem wo_len {hs : Things} (h : Keys hs) {i : Nat} (hi : i < hs.length) : (wo hs hs[i].1).length + 1 = hs.length := by
  rw [wo_at h hi, List.length_append, List.length_take, List.length_drop]
  omega
theorem wo_mem {hs : Things} {n : Int} {y : Int × Int} (h : y ∈ wo hs n) : y ∈ hs ∧ y.1 ≠ n := by
  unfold wo at h
  rw [List.mem_filter] at h
  exact ⟨h.1, by simpa using h.2⟩
theorem rising_uniq : ∀ (a b : List Int), a.Pairwise (· < ·) → b.Pairwise (· < ·) → (∀ x, x ∈ a ↔ x ∈ b) → a = b
  | [], [], _, _, _ => rfl
  | [], y :: b, _, _, h => absurd ((h y).2 List.mem_cons_self) (by simp)
  | x :: a, [], _, _, h => absurd ((h x).1 List.mem_cons_self) (by simp)
  | x :: a, y :: b, ha, hb, h => by
    rw [List.pairwise_cons] at ha hb
    have e : x = y := by
      have h1 := (h x).1 List.mem_cons_self
      have h2 := (h y).2 List.mem_cons_self
      rcases List.mem_cons.1 h1 with e | h1
      · exact e
      · rcases List.mem_cons.1 h2 with e | h2
        · exact e.symm
        · have := ha.1 y h2
          have := hb.1 x h1
          omega
    subst e
    congr 1
    refine rising_uniq a b ha.2 hb.2 (fun z => ?_)
    have hz := h z
    rw [List.mem_cons, List.mem_cons] at hz
    constructor
    · intro hm
      have := ha.1 z hm
      rcases hz.1 (.inr hm) with e | hm'
      · omega
      · exact hm'
    · intro hm
      have := hb.1 z hm
      rcases hz.2 (.inr hm) with e | hm'
      · omega
      · exact hm'
def best (hs : Things) (last : Int) (b : Int) : Int := hs.foldl (fun b y => if y.1 > last ∧ (b < 0 ∨ y.1 < b) then y.1 else b) b
theorem best_snoc (hs : Things) (y : Int × Int) (last b : Int) : best (hs ++ [y]) last b = if y.1 > last ∧ (best hs last b < 0 ∨ y.1 < best hs last b) then y.1 else best hs last b := by
  simp [best]
theorem best_law (last : Int) : ∀ (hs : Things), (∀ y ∈ hs, 0 ≤ y.1) → (best hs last (-1) = -1 ∧ ∀ y ∈ hs, y.1 ≤ last) ∨ (0 ≤ best hs last (-1) ∧ best hs last (-1) ∈ hs.map (·.1) ∧ last < best hs last (-1) ∧ ∀ y ∈ hs, y.1 ≤ last ∨ best hs last (-1) ≤ y.1) := by
  intro hs
  obtain ⟨l, hl⟩ : ∃ l, l = hs.reverse := ⟨_, rfl⟩
  have e : hs = l.reverse := by rw [hl, List.reverse_reverse]
  clear hl
  subst e
  induction l with
  | nil => intro _; exact .inl ⟨rfl, by simp⟩
  | cons y l ih =>
    intro h
    rw [List.reverse_cons] at h ⊢
    have hy := h y (by simp)
    have ih := ih (fun z hz => h z (List.mem_append_left _ hz))
    rw [best_snoc]
    generalize best l.reverse last (-1) = q at ih
    rcases ih with ⟨rfl, h2⟩ | ⟨h1, h2, h3, h4⟩
    · by_cases c : y.1 > last
      · rw [if_pos ⟨c, .inl (by decide)⟩]
        refine .inr ⟨hy, by simp, c, fun z hz => ?_⟩
        rcases List.mem_append.1 hz with hz | hz
        · exact .inl (h2 z hz)
        · rw [List.mem_singleton.1 hz]; exact .inr (Int.le_refl _)
      · rw [if_neg (fun hh => c hh.1)]
        refine .inl ⟨rfl, fun z hz => ?_⟩
        rcases List.mem_append.1 hz with hz | hz
        · exact h2 z hz
        · rw [List.mem_singleton.1 hz]; omega
    · by_cases c : y.1 > last ∧ (q < 0 ∨ y.1 < q)
      · rw [if_pos c]
        refine .inr ⟨hy, by simp, c.1, fun z hz => ?_⟩
        rcases List.mem_append.1 hz with hz | hz
        · rcases h4 z hz with h | h
          · exact .inl h
          · right; omega
        · rw [List.mem_singleton.1 hz]; exact .inr (Int.le_refl _)
      · rw [if_neg c]
        refine .inr ⟨h1, by rw [List.map_append]; exact List.mem_append_left _ h2, h3, fun z hz => ?_⟩
        rcases List.mem_append.1 hz with hz | hz
        · exact h4 z hz
        · rw [List.mem_singleton.1 hz]; omega
def above (hs : Things) (last : Int) : Nat := (hs.filter (fun y => y.1 > last)).length
theorem above_lt {hs : Things} {last b : Int} (hb : b ∈ hs.map (·.1)) (hl : last < b) : above hs b < above hs last := by
  unfold above
  have key : ∀ l : Things, (l.filter (fun y => y.1 > b)).length ≤ (l.filter (fun y => y.1 > last)).length := by
    intro l
    induction l with
    | nil => exact Nat.le_refl _
    | cons a l ih =>
      rw [List.filter_cons, List.filter_cons]
      by_cases c : a.1 > b
      · rw [if_pos (by simpa using c), if_pos (by simp; omega)]; simpa using ih
      · rw [if_neg (by simpa using c)]
        split
        · simp only [List.length_cons]; omega
        · exact ih
  induction hs with
  | nil => simp at hb
  | cons a l ih =>
    rw [List.map_cons, List.mem_cons] at hb
    rw [List.filter_cons, List.filter_cons]
    rcases hb with rfl | hb
    · rw [if_neg (by simp), if_pos (by simpa using hl)]
      have := key l
      simp only [List.length_cons]
      omega
    · have ih := ih hb
      by_cases c : a.1 > b
      · rw [if_pos (by simpa using c), if_pos (by simp; omega)]; simpa using ih
      · rw [if_neg (by simpa using c)]
        split
        · simp only [List.length_cons]; omega
        · exact ih
end Go.Proofs.YtmfabpkliogjlaaWin
end
section
namespace Go.Proofs.YtmfabpkliogjlaaWin
open Go.RowKit Go.Maps
structure ElemK (α : Type) where
  R : Value → Option (DataW Unit × List MemPlace)
  val : α → Value
  dat : α → DataW Unit
  put : ∀ a, R (val a) = some (dat a, [])
  inv : ∀ {v a ps}, R v = some (dat a, ps) → v = val a
structure Only (K : Nat → Prop) (W W' : World) : Prop where
  os : W'.os = W.os
  tape : W'.tape = W.tape
  output : W'.output = W.output
  size : W.heap.size ≤ W'.heap.size
  block : ∀ k, k < W.heap.size → ¬ K k → W'.heap[k]? = W.heap[k]?
theorem Only.refl (K : Nat → Prop) (W : World) : Only K W W := ⟨rfl, rfl, rfl, Nat.le_refl _, fun _ _ _ => rfl⟩
theorem Only.trans {K : Nat → Prop} {A B C : World} (h : Only K A B) (k : Only K B C) : Only K A C :=
  ⟨k.os.trans h.os, k.tape.trans h.tape, k.output.trans h.output, Nat.le_trans h.size k.size, fun i hi hn => (k.block i (Nat.lt_of_lt_of_le hi h.size) hn).trans (h.block i hi hn)⟩
theorem Only.mono {K K' : Nat → Prop} {A B : World} (h : Only K A B) (hk : ∀ i, K i → K' i) : Only K' A B := ⟨h.os, h.tape, h.output, h.size, fun i hi hn => h.block i hi (fun hki => hn (hk i hki))⟩
theorem Only.below {K : Nat → Prop} {A B : World} (h : Only K A B) {n : Nat} (hn : n ≤ A.heap.size) (hk : ∀ i, K i → n ≤ i) : Below n A B :=
  ⟨h.os, h.tape, h.output, h.size, fun i hi => h.block i (Nat.lt_of_lt_of_le hi hn) (fun hki => by have := hk i hki; omega)⟩
theorem Only.of_below {K : Nat → Prop} {A B : World} (h : Below A.heap.size A B) : Only K A B := ⟨h.os, h.tape, h.output, h.size, fun i hi _ => h.block i hi⟩
theorem Only.alloc (K : Nat → Prop) (W : World) (o : Obj) : Only K W (W.alloc o) := Only.of_below ((Below.refl _ W).alloc (Nat.le_refl _) o)
theorem Only.drew {K : Nat → Prop} {A B : World} (h : Only K A B) : Only K A B.drew := ⟨h.os, h.tape, h.output, h.size, h.block⟩
theorem Only.setCell (K : Nat → Prop) (W : World) (p : Addr) (v : Value) (hk : K p.block) : Only K W (W.setCell p v) :=
  ⟨rfl, rfl, rfl, by simp [World.setCell], fun i _ hn => Below.heap_setCell _ _ _ _ (fun e => hn (e ▸ hk))⟩
theorem Only.turned {K : Nat → Prop} {A B : World} {b : Nat} (h : A.mapTurned B b) (hk : K b) : Only K A B := by
  obtain ⟨es, clock, es', clock', hb, rfl⟩ := h
  exact ⟨rfl, rfl, rfl, by simp [ChangeMaps.setBlock], fun i _ hn => ChangeMaps.heap_setBlock_other hb _ (fun e => hn (e ▸ hk))⟩
section
variable {α : Type} {P : Program}
def MapIs (P : Program) (E : ElemK α) (W : World) (b : Nat) (m : Int → Option α) (n : Nat) : Prop :=
  ∃ D : DataW Unit, W.ownsMap P 3 E.R b n D ∧ ∀ x, (Lit.int .i64 x).wf = true → match m x with
    | some a => ∀ z, D.atKey (.int .i64 x) z = E.dat a
    | none => ∀ z, D.atKey (.int .i64 x) z = z
variable {E : ElemK α} {W W' : World} {b n : Nat} {m : Int → Option α}
theorem MapIs.mono (h : MapIs P E W b m n) {n' : Nat} (hn : n ≤ n') : MapIs P E W b m n' := by
  obtain ⟨D, h1, h2⟩ := h
  exact ⟨D, h1.mono hn, h2⟩
theorem MapIs.lt (h : MapIs P E W b m n) : b < W.heap.size := by
  obtain ⟨D, h1, _⟩ := h
  exact h1.lt
theorem MapIs.block (h : MapIs P E W b m n) (hb : W'.heap[b]? = W.heap[b]?) : MapIs P E W' b m n := by
  obtain ⟨D, ⟨es, clock, h0, h1⟩, h2⟩ := h
  exact ⟨D, ⟨es, clock, hb.trans h0, h1⟩, h2⟩
theorem MapIs.isMap (h : MapIs P E W b m n) : ∃ es clock, W.heap[b]? = some (.map es clock) := by
  obtain ⟨D, ⟨es, clock, h0, _⟩, _⟩ := h
  exact ⟨es, clock, h0⟩
theorem MapIs.made (W : World) : MapIs P E (W.alloc (.map #[] 0)) W.heap.size (fun _ => none) 0 :=
  ⟨_, World.ownsMap_made W P 3 E.R, fun _ _ => fun _ => rfl⟩
theorem litKey (x : Int) : WideAt.IsKeyLit (.int .i64 x) := trivial
theorem litNe {x y : Int} (h : x ≠ y) : (Lit.int .i64 x) ≠ Lit.int .i64 y := fun e => h (by cases e; rfl)
variable {t e : TypeId} (K : Keyed P 3) (h3 : P.underlying 3 = some (.int .i64)) (ht : P.underlying t = some (.map 3 e))
theorem MapIs.look (h : MapIs P E W b m n) (h3 : P.underlying 3 = some (.int .i64)) (ht : P.underlying t = some (.map 3 e)) {z : α} (hz : (zeroValue e).run P W = .ok (E.val z) W) {x : Int} (hx : (Lit.int .i64 x).wf = true) :
    (Instr.lookup t (.map (some b)) (.int .i64 x) true).run P W = .ok (.tuple #[E.val ((m x).getD z), .bool (m x).isSome]) W := by
  obtain ⟨D, h1, h2⟩ := h
  obtain ⟨v, ps, hrun, hv⟩ := h1.look_ok (int_keyed h3) ht hz (E.put z) (keyOf_int_mk h3 hx)
  have h2 := h2 x hx
  rw [hrun]
  cases hm : m x with
  | none =>
    rw [hm] at h2
    simp only at h2
    rw [h2] at hv
    rw [E.inv hv, has_false_of_atKey h2]
    rfl
  | some a =>
    rw [hm] at h2
    simp only at h2
    rw [h2] at hv
    rw [E.inv hv, has_true_of_atKey h2]
    rfl
theorem MapIs.store (h : MapIs P E W b m n) (h3 : P.underlying 3 = some (.int .i64)) (ht : P.underlying t = some (.map 3 e)) (hn : n < maxLen) {x : Int} (hx : (Lit.int .i64 x).wf = true) (a : α) :
    ∃ W', (Instr.mapUpdate t (.map (some b)) (.int .i64 x) (E.val a)).run P W = .ok () W' ∧ MapIs P E W' b (fun y => if y = x then some a else m y) (n + 1) ∧ W.mapTurned W' b := by
  obtain ⟨D, h1, h2⟩ := h
  have hD := h1.isMap
  obtain ⟨W', hrun, hown, hturn⟩ := h1.store (int_keyed h3) ht hn (keyOf_int_mk h3 hx) (E.put a)
  refine ⟨W', hrun, ⟨_, hown, fun y hy => ?_⟩, hturn⟩
  by_cases c : y = x
  · subst c
    simp only [if_true]
    exact fun z => atKey_put_same hD (litKey _) _ _
  · simp only [if_neg c]
    have := h2 y hy
    cases hm : m y with
    | none => rw [hm] at this; exact fun z => (atKey_put_other (litNe c) _ _).trans (this z)
    | some a' => rw [hm] at this; exact fun z => (atKey_put_other (litNe c) _ _).trans (this z)
theorem MapIs.drop (h : MapIs P E W b m n) (h3 : P.underlying 3 = some (.int .i64)) (ht : P.underlying t = some (.map 3 e)) (ty : TypeId) {x : Int} (hx : (Lit.int .i64 x).wf = true) :
    ∃ W', (Builtin.delete_ #[t, 3] ty #[.map (some b), .int .i64 x]).run P W = .ok (.tuple #[]) W' ∧ MapIs P E W' b (fun y => if y = x then none else m y) n ∧ W.mapTurned W' b := by
  obtain ⟨D, h1, h2⟩ := h
  obtain ⟨W', hrun, hown, hturn⟩ := h1.drop (int_keyed h3) ht (keyOf_int_mk h3 hx) ty
  refine ⟨W', hrun, ⟨_, hown, fun y hy => ?_⟩, hturn⟩
  by_cases c : y = x
  · subst c
    simp only [if_true]
    exact fun z => atKey_del_same _
  · simp only [if_neg c]
    have := h2 y hy
    cases hm : m y with
    | none => rw [hm] at this; exact fun z => (atKey_del_other (litNe c) _).trans (this z)
    | some a' => rw [hm] at this; exact fun z => (atKey_del_other (litNe c) _).trans (this z)
end
end Go.Proofs.YtmfabpkliogjlaaWin
end
section
namespace Go.Proofs.YtmfabpkliogjlaaWin
open Go.RowKit
set_option linter.unusedSimpArgs false
set_option linter.unusedVariables false
structure Act_ (i : Nat) (lab lab' : Nat → Nat) (W W' : World) : Prop where
  only : Only (fun k => lab k = i) W W'
  old : ∀ k, k < W.heap.size → lab' k = lab k
  new : ∀ k, W.heap.size ≤ k → k < W'.heap.size → lab' k = i
def relab (lab : Nat → Nat) (n i : Nat) : Nat → Nat := fun k => if k < n then lab k else i
theorem Act_.of {i : Nat} {lab : Nat → Nat} {S : Nat → Prop} {W W' : World} (h : Only S W W') (hS : ∀ k, S k → lab k = i) : Act_ i lab (relab lab W.heap.size i) W W' :=
  ⟨h.mono hS, fun k hk => if_pos hk, fun k hk _ => if_neg (by omega)⟩
theorem Act_.refl (i : Nat) (lab : Nat → Nat) (W : World) : Act_ i lab lab W W := ⟨Only.refl _ _, fun _ _ => rfl, fun k h1 h2 => by omega⟩
theorem Act_.trans {i : Nat} {lab lab' lab'' : Nat → Nat} {A B C : World} (h : Act_ i lab lab' A B) (k : Act_ i lab' lab'' B C) : Act_ i lab lab'' A C := by
  refine ⟨⟨k.only.os.trans h.only.os, k.only.tape.trans h.only.tape, k.only.output.trans h.only.output, Nat.le_trans h.only.size k.only.size, fun x hx hn => ?_⟩, fun x hx => (k.old x (Nat.lt_of_lt_of_le hx h.only.size)).trans (h.old x hx), fun x hx hx2 => ?_⟩
  · exact (k.only.block x (Nat.lt_of_lt_of_le hx h.only.size) (by rw [h.old x hx]; exact hn)).trans (h.only.block x hx hn)
  · by_cases c : x < B.heap.size
    · exact (k.old x c).trans (h.new x hx c)
    · exact k.new x (by omega) hx2
theorem Act_.block {i j k : Nat} {lab lab' : Nat → Nat} {W W' : World} (h : Act_ i lab lab' W W') (hk : k < W.heap.size) (hl : lab k = j) (hij : j ≠ i) : W'.heap[k]? = W.heap[k]? ∧ lab' k = j :=
  ⟨h.only.block k hk (by rw [hl]; exact hij), (h.old k hk).trans hl⟩
theorem Act_.size {i : Nat} {lab lab' : Nat → Nat} {W W' : World} (h : Act_ i lab lab' W W') : W.heap.size ≤ W'.heap.size := h.only.size
end Go.Proofs.YtmfabpkliogjlaaWin
end
section
namespace Go.Proofs.YtmfabpkliogjlaaWin
open Go.RowKit Go.Maps
set_option linter.unusedSimpArgs false
set_option linter.unusedVariables false
def EI : ElemK Int where
  R v := match v with
    | .agg cs => match cs.toList with
      | [.int .i64 a] => some (.lit (.int .i64 a), [])
      | _ => none
    | _ => none
  val a := .agg #[.int .i64 a]
  dat a := .lit (.int .i64 a)
  put a := rfl
  inv {v a ps} h := by
    cases v <;> simp at h
    rename_i cs
    cases cs with | mk l =>
    split at h
    · rename_i h'
      simp at h h'
      subst h'
      rw [h.1]
    · cases h
def WinAt (W : World) (p b : Nat) (nx sz : Int) (m : Int → Option Int) (n : Nat) : Prop :=
  W.heap[p]? = some (.cells #[.int .i64 nx, .int .i64 sz, .map (some b)] 73 (0, 0)) ∧ MapIs Try.prog EI W b m n
section
variable {W W' : World} {p b : Nat} {nx sz : Int} {m : Int → Option Int} {n : Nat}
theorem WinAt.c0 (h : WinAt W p b nx sz m n) : W.cell? ⟨p, 0, none⟩ = some (.int .i64 nx) := by simp [World.cell?, h.1]
theorem WinAt.c1 (h : WinAt W p b nx sz m n) : W.cell? ⟨p, 1, none⟩ = some (.int .i64 sz) := by simp [World.cell?, h.1]
theorem WinAt.c2 (h : WinAt W p b nx sz m n) : W.cell? ⟨p, 2, none⟩ = some (.map (some b)) := by simp [World.cell?, h.1]
theorem WinAt.f0 (h : WinAt W p b nx sz m n) : W.frozen? ⟨p, 0, none⟩ = false := by simp [World.frozen?, h.1]
theorem WinAt.lt (h : WinAt W p b nx sz m n) : p < W.heap.size := (Array.getElem?_eq_some_iff.1 h.1).1
theorem WinAt.ne (h : WinAt W p b nx sz m n) : p ≠ b := by
  rintro rfl
  obtain ⟨es, clock, he⟩ := h.2.isMap
  rw [h.1] at he
  cases he
theorem WinAt.only {K : Nat → Prop} (h : WinAt W p b nx sz m n) (hk : Only K W W') (h1 : ¬ K p) (h2 : ¬ K b) : WinAt W' p b nx sz m n :=
  ⟨(hk.block p h.lt h1).trans h.1, h.2.block (hk.block b h.2.lt h2)⟩
theorem WinAt.below (h : WinAt W p b nx sz m n) (hk : Below W.heap.size W W') : WinAt W' p b nx sz m n := h.only (K := fun _ => False) (Only.of_below hk) (fun h => h) (fun h => h)
theorem WinAt.mono (h : WinAt W p b nx sz m n) {n' : Nat} (hn : n ≤ n') : WinAt W p b nx sz m n' := ⟨h.1, h.2.mono hn⟩
theorem WinAt.turn {m' : Int → Option Int} {n' : Nat} (h : WinAt W p b nx sz m n) (ht : W.mapTurned W' b) (hm : MapIs Try.prog EI W' b m' n') : WinAt W' p b nx sz m' n' :=
  ⟨((Only.turned (K := fun k => k = b) ht rfl).block p h.lt h.ne).trans h.1, hm⟩
theorem WinAt.set (h : WinAt W p b nx sz m n) (y : Int) : WinAt (W.setCell ⟨p, 0, none⟩ (.int .i64 y)) p b y sz m n := by
  refine ⟨?_, h.2.block (Below.heap_setCell _ _ _ _ h.ne.symm)⟩
  have hp := h.1
  have hlt := h.lt
  simp only [World.setCell]
  rw [Array.getElem?_modify, if_pos rfl, hp]
  rfl
end
abbrev Fits (x : Int) : Prop := (Lit.int .i64 x).wf = true
theorem wf64 {x : Int} (h : Fits x) : -9223372036854775808 ≤ x ∧ x ≤ 9223372036854775807 := by
  have h' : (Lit.int .i64 x).wf = true := h
  simp [Lit.wf, IntKind.min, IntKind.max, IntKind.signed, IntKind.bits] at h'
  omega
set_option maxRecDepth 100000 in
set_option maxHeartbeats 4000000 in
theorem New_calls (nx sz : Int) (w : World) : Calls Try.prog 12 #[.int .i64 nx, .int .i64 sz] w fun e w' =>
    if nx < 0 ∨ nx > 1048576 ∨ sz < 1 ∨ sz > 1048576 then e = .returned (.tuple #[.pointer none, .int .i64 2]) ∧ Below w.heap.size w w'
    else e = .returned (.tuple #[.pointer (some ⟨w.heap.size + 1, 0, none⟩), .int .i64 0]) ∧ WinAt w' (w.heap.size + 1) w.heap.size nx sz (fun _ => none) 0 ∧ Below w.heap.size w w' := by
  have hmm := @run_makeMap Try.prog
  by_cases c1 : nx < 0
  · simp only [if_pos (Or.inl c1 : nx < 0 ∨ nx > 1048576 ∨ sz < 1 ∨ sz > 1048576)]
    go_enter Try.func12, Try.ntmps12
    go_wp2
    go_ret2
    exact ⟨rfl, Below.refl _ _⟩
  by_cases c2 : nx > 1048576
  · simp only [if_pos (Or.inr (Or.inl c2) : nx < 0 ∨ nx > 1048576 ∨ sz < 1 ∨ sz > 1048576)]
    go_enter Try.func12, Try.ntmps12
    go_wp2
    go_ret2
    exact ⟨rfl, Below.refl _ _⟩
  by_cases c3 : sz < 1
  · simp only [if_pos (Or.inr (Or.inr (Or.inl c3)) : nx < 0 ∨ nx > 1048576 ∨ sz < 1 ∨ sz > 1048576)]
    go_enter Try.func12, Try.ntmps12
    go_wp2
    go_ret2
    exact ⟨rfl, Below.refl _ _⟩
  by_cases c4 : sz > 1048576
  · simp only [if_pos (Or.inr (Or.inr (Or.inr c4)) : nx < 0 ∨ nx > 1048576 ∨ sz < 1 ∨ sz > 1048576)]
    go_enter Try.func12, Try.ntmps12
    go_wp2
    go_ret2
    exact ⟨rfl, Below.refl _ _⟩
  simp only [if_neg (fun h => by omega : ¬ (nx < 0 ∨ nx > 1048576 ∨ sz < 1 ∨ sz > 1048576))]
  have hM := MapIs.made (P := Try.prog) (E := EI) w
  have hb := ((Below.refl w.heap.size w).alloc (Nat.le_refl _) (.map #[] 0)).alloc (by simp) (.cells #[.int .i64 nx, .int .i64 sz, .map (some w.heap.size)] 73)
  have h1 := World.alloc_heap_new (w.alloc (.map #[] 0)) (.cells #[.int .i64 nx, .int .i64 sz, .map (some w.heap.size)] 73)
  rw [World.size_alloc] at h1
  go_enter Try.func12, Try.ntmps12
  go_wp2
  go_ret2
  exact ⟨rfl, ⟨h1, hM.block (Below.heap_alloc _ _ _ (by simp))⟩, hb⟩
set_option maxRecDepth 100000 in
set_option maxHeartbeats 4000000 in
theorem Next_calls {p b n : Nat} {nx sz : Int} {m : Int → Option Int} (w : World) (h : WinAt w p b nx sz m n) : Calls Try.prog 15 #[.pointer (some ⟨p, 0, none⟩)] w fun e w' => e = .returned (.int .i64 nx) ∧ Only (fun _ => False) w w' := by
  have c0 := h.c0
  go_enter Try.func15, Try.ntmps15
  go_wp2
  go_ret
  exact ⟨rfl, Only.refl _ _⟩
theorem look_some {W : World} {p b n : Nat} {nx sz : Int} {m : Int → Option Int} (h : WinAt W p b nx sz m n) {x a : Int} (hf : Fits x) (hm : m x = some a) :
    (Instr.lookup 71 (.map (some b)) (.int .i64 x) true).run Try.prog W = .ok (.tuple #[.agg #[.int .i64 a], .bool true]) W := by
  have := h.2.look Try.underlying3 Try.underlying71 (z := (0 : Int)) (Try.zeroValue75 W) hf
  rw [hm] at this
  exact this
theorem look_none {W : World} {p b n : Nat} {nx sz : Int} {m : Int → Option Int} (h : WinAt W p b nx sz m n) {x : Int} (hf : Fits x) (hm : m x = none) :
    (Instr.lookup 71 (.map (some b)) (.int .i64 x) true).run Try.prog W = .ok (.tuple #[.agg #[.int .i64 0], .bool false]) W := by
  have := h.2.look Try.underlying3 Try.underlying71 (z := (0 : Int)) (Try.zeroValue75 W) hf
  rw [hm] at this
  exact this
set_option maxRecDepth 100000 in
set_option maxHeartbeats 4000000 in
theorem Peek_calls {p b n : Nat} {nx sz : Int} {m : Int → Option Int} (w : World) (h : WinAt w p b nx sz m n) (hf : Fits nx) : Calls Try.prog 17 #[.pointer (some ⟨p, 0, none⟩)] w fun e w' =>
    e = .returned (.tuple #[.int .i64 ((m nx).getD 0), .int .i64 (if (m nx).isSome then 0 else 15)]) ∧ Only (fun _ => False) w w' := by
  have c0 := h.c0
  have c2 := h.c2
  cases hm : m nx with
  | none =>
    have h2 : WinAt (w.alloc (.cells #[.int .i64 0] 75)).drew p b nx sz m n := h.below (((Below.refl _ w).alloc (Nat.le_refl _) _).drew)
    have h3 : WinAt w.drew p b nx sz m n := h.below (Below.refl _ w).drew
    have d0 := h2.c0
    have d2 := h2.c2
    have e0 := h3.c0
    have e2 := h3.c2
    have hl := look_none h hf hm
    have hl2 := look_none h2 hf hm
    have hl3 := look_none h3 hf hm
    clear h h2 h3 hf hm
    simp only [Option.isSome_none, Option.isSome_some, Bool.false_eq_true, if_false, if_true, Option.getD_none, Option.getD_some]
    go_enter Try.func17, Try.ntmps17
    go_wp2
    go_region
    all_goals go_wp2
    all_goals go_ret2
    all_goals exact ⟨rfl, (Only.alloc _ _ _).drew⟩
  | some a =>
    have h2 : WinAt (w.alloc (.cells #[.int .i64 0] 75)).drew p b nx sz m n := h.below (((Below.refl _ w).alloc (Nat.le_refl _) _).drew)
    have h3 : WinAt w.drew p b nx sz m n := h.below (Below.refl _ w).drew
    have d0 := h2.c0
    have d2 := h2.c2
    have e0 := h3.c0
    have e2 := h3.c2
    have hl := look_some h hf hm
    have hl2 := look_some h2 hf hm
    have hl3 := look_some h3 hf hm
    clear h h2 h3 hf hm
    simp only [Option.isSome_none, Option.isSome_some, Bool.false_eq_true, if_false, if_true, Option.getD_none, Option.getD_some]
    go_enter Try.func17, Try.ntmps17
    go_wp2
    go_region
    all_goals go_wp2
    all_goals go_ret2
    all_goals exact ⟨rfl, (Only.alloc _ _ _).drew⟩
set_option maxRecDepth 100000 in
set_option maxHeartbeats 4000000 in
theorem Drop_calls {p b n : Nat} {nx sz : Int} {m : Int → Option Int} (w : World) (h : WinAt w p b nx sz m n) (x : Int) (hf : Fits x) : Calls Try.prog 30 #[.pointer (some ⟨p, 0, none⟩), .int .i64 x] w fun e w' =>
    e = .returned (.int .i64 (if (m x).isSome then 0 else 15)) ∧ WinAt w' p b nx sz (fun y => if y = x then none else m y) n ∧ Only (fun k => k = b) w w' := by
  have c2 := h.c2
  cases hm : m x with
  | none =>
    have hl := look_none h hf hm
    simp only [Option.isSome_none, Bool.false_eq_true, if_false]
    go_enter Try.func30, Try.ntmps30
    go_wp2
    go_ret
    have e1 : (fun y => if y = x then none else m y) = m := by
      funext y
      by_cases c : y = x
      · rw [if_pos c, c, hm]
      · rw [if_neg c]
    refine ⟨rfl, ?_, Only.alloc _ _ _⟩
    rw [e1]
    exact h.below ((Below.refl _ w).alloc (Nat.le_refl _) _)
  | some a =>
    have hl := look_some h hf hm
    simp only [Option.isSome_some, if_true]
    have h2 := h.below ((Below.refl _ w).alloc (Nat.le_refl _) (.cells #[.int .i64 a] 75))
    have c3 := h2.c2
    obtain ⟨W', hrun, hM, ht⟩ := h2.2.drop Try.underlying3 Try.underlying71 0 hf
    go_enter Try.func30, Try.ntmps30
    go_wp2
    go_ret
    exact ⟨rfl, h2.turn ht hM, (Only.alloc _ _ _).trans (Only.turned ht rfl)⟩
set_option maxRecDepth 100000 in
set_option maxHeartbeats 4000000 in
theorem Pass_calls {p b n : Nat} {nx sz : Int} {m : Int → Option Int} (w : World) (h : WinAt w p b nx sz m n) (hf : Fits nx) (hlt : nx < 9223372036854775807) : Calls Try.prog 33 #[.pointer (some ⟨p, 0, none⟩)] w fun e w' =>
    e = .returned (.int .i64 (if (m nx).isSome then 0 else 15)) ∧ WinAt w' p b (if (m nx).isSome then nx + 1 else nx) sz (fun y => if y = nx then none else m y) n ∧ Only (fun k => k = b ∨ k = p) w w' := by
  have c0 := h.c0
  cases hm : m nx with
  | none =>
    have hd := Drop_calls w h nx hf
    rw [hm] at hd
    simp only [Option.isSome_none, Bool.false_eq_true, if_false] at hd ⊢
    go_enter Try.func33, Try.ntmps33
    go_wp2_with (go_at_call 30; refine hd.mono ?_; rintro e w' ⟨rfl, h2, ho⟩)
    go_ret
    exact ⟨rfl, h2, ho.mono (fun i hi => Or.inl hi)⟩
  | some a =>
    have hd := Drop_calls w h nx hf
    rw [hm] at hd
    simp only [Option.isSome_some, if_true] at hd ⊢
    go_enter Try.func33, Try.ntmps33
    go_wp2_with (go_at_call 30; refine hd.mono ?_; rintro e w' ⟨rfl, h2, ho⟩; have d0 := h2.c0; have df := h2.f0)
    go_ret
    have hw : wrap64 (nx + 1) = nx + 1 := IntWalk.wrap64_in _ ⟨by have := (wf64 hf).1; omega, by omega⟩
    rw [hw]
    exact ⟨rfl, h2.set _, (ho.mono (fun i hi => Or.inl hi)).trans (Only.setCell _ _ _ _ (Or.inr rfl))⟩
def putE (nx sz : Int) (m : Int → Option Int) (x : Int) : Int := if x < nx then 130 else if x - nx ≥ sz then 132 else if (m x).isSome then 131 else 0
set_option maxRecDepth 100000 in
set_option maxHeartbeats 4000000 in
theorem Put_calls {p b n : Nat} {nx sz : Int} {m : Int → Option Int} (w : World) (h : WinAt w p b nx sz m n) (hn0 : 0 ≤ nx) (hn : n < maxLen) (x v : Int) (hf : Fits x) : Calls Try.prog 13 #[.pointer (some ⟨p, 0, none⟩), .int .i64 x, .int .i64 v] w fun e w' =>
    e = .returned (.int .i64 (putE nx sz m x)) ∧ WinAt w' p b nx sz (if putE nx sz m x = 0 then fun y => if y = x then some v else m y else m) (n + 1) ∧ Only (fun k => k = b) w w' := by
  have c0 := h.c0
  have c1 := h.c1
  have c2 := h.c2
  unfold putE
  by_cases q1 : x < nx
  · simp only [if_pos q1, show ¬ ((130 : Int) = 0) from by decide, if_false]
    go_enter Try.func13, Try.ntmps13
    go_wp2
    go_ret
    exact ⟨rfl, h.mono (Nat.le_succ _), Only.refl _ _⟩
  simp only [if_neg q1]
  have hx := wf64 hf
  have hw : wrap64 (x - nx) = x - nx := IntWalk.wrap64_in _ ⟨by omega, by omega⟩
  have h3 : WinAt w.drew p b nx sz m n := h.below (Below.refl _ w).drew
  have e0 := h3.c0
  have e1 := h3.c1
  have e2 := h3.c2
  by_cases q2 : x - nx ≥ sz
  · simp only [if_pos q2, show ¬ ((132 : Int) = 0) from by decide, if_false]
    go_enter Try.func13, Try.ntmps13
    go_wp2
    go_region
    all_goals go_wp2
    all_goals go_ret
    all_goals exact ⟨rfl, h3.mono (Nat.le_succ _), (Only.refl _ _).drew⟩
  simp only [if_neg q2]
  cases hm : m x with
  | some a =>
    have hl := look_some h3 hf hm
    simp only [Option.isSome_some, if_true, show ¬ ((131 : Int) = 0) from by decide, if_false]
    go_enter Try.func13, Try.ntmps13
    go_wp2
    go_region
    all_goals go_wp2
    all_goals go_ret
    all_goals exact ⟨rfl, (h.below ((Below.refl _ w).alloc (Nat.le_refl _) _).drew).mono (Nat.le_succ _), (Only.alloc _ _ _).drew⟩
  | none =>
    have hl := look_none h3 hf hm
    have h2 := h.below ((Below.refl _ w).alloc (Nat.le_refl _) (.cells #[.int .i64 0] 75)).drew
    have d2 := h2.c2
    obtain ⟨W', hrun, hM, ht⟩ := h2.2.store Try.underlying3 Try.underlying71 hn hf v
    rw [show EI.val v = .agg #[.int .i64 v] from rfl] at hrun
    simp only [Option.isSome_none, Bool.false_eq_true, if_false, if_true]
    go_enter Try.func13, Try.ntmps13
    go_wp2
    go_region
    all_goals go_wp2
    all_goals go_ret
    all_goals exact ⟨rfl, h2.turn ht hM, (Only.alloc _ _ _).drew.trans (Only.turned ht rfl)⟩
end Go.Proofs.YtmfabpkliogjlaaWin
end
section
namespace Go.Proofs.YtmfabpkliogjlaaWin
open Go.RowKit Go.Maps Go.Shelf
set_option linter.unusedSimpArgs false
set_option linter.unusedVariables false
attribute [local go_sem] Oper.semAt_some
structure WS where
  nx : Int
  m : Int → Option Int
  n : Nat
def WS.passed (s : WS) : WS := ⟨s.nx + 1, fun y => if y = s.nx then none else s.m y, s.n⟩
abbrev WinS (W : World) (p b : Nat) (sz : Int) (s : WS) : Prop := WinAt W p b s.nx sz s.m s.n
def ReadyStops (n p b : Nat) (sz B : Int) (lb : Array Value) : Prop :=
  ∀ (l : Nat) (J : WS → World → Prop) (Jx : World → Prop) (s0 : WS) (W0 : World),
    (∀ s W, J s W → WinS W p b sz s ∧ Fits s.nx ∧ B < 4611686018427387904 ∧ ((s.m s.nx).isSome → s.nx < B) ∧ ∀ v, lb = #[.pointer (some ⟨v, 0, none⟩)] → W.cell? ⟨v, 0, none⟩ = some (.pointer (some ⟨p, 0, none⟩))) →
    (∀ s W W', J s W → Only (fun _ => False) W W' → J s W') →
    (∀ s W a W', J s W → s.m s.nx = some a → Only (fun k => k = b ∨ k = p) W W' → WinS W' p b sz s.passed → YieldAt Fence.wide (n - 1) Try.prog l #[.int .i64 s.nx, .int .i64 a] W' fun e W'' =>
      (e = .returned (.bool true) ∧ ∃ s', s.nx < s'.nx ∧ J s' W'') ∨ (e = .returned (.bool false) ∧ Jx W'')) →
    J s0 W0 →
    CallsIn Fence.wide n Try.prog 32 (#[.func (.yield l) #[] #[]] ++ lb) W0 fun e W' => (∃ v, e = .returned v) ∧ ((∃ s, J s W' ∧ s.m s.nx = none) ∨ Jx W')
def leftTo (B : Int) (p : Nat) (W : World) : Nat := (B - intOf ((W.cell? ⟨p, 0, none⟩).getD undef)).toNat
theorem leftTo_eq {B : Int} {W : World} {p b : Nat} {sz : Int} {s : WS} (h : WinS W p b sz s) : leftTo B p W = (B - s.nx).toNat := by
  unfold leftTo
  rw [h.c0]
  rfl
theorem cell_lt {W : World} {v j : Nat} {x : Value} (h : W.cell? ⟨v, j, none⟩ = some x) : v < W.heap.size := by
  by_cases c : v < W.heap.size
  · exact c
  · simp [World.cell?, Array.getElem?_eq_none (Nat.le_of_not_lt c)] at h
set_option maxRecDepth 100000 in
set_option maxHeartbeats 4000000 in
theorem ready1_stops (n p b v : Nat) (sz B : Int) (hn : 1 ≤ n) : ReadyStops n p b sz B #[.pointer (some ⟨v, 0, none⟩)] := by
  intro l J Jx s0 W0 hJ hJo hY h0
  refine callsIn_of_wp Try.func32 rfl trivial ?_ rfl
  simp only [Try.ntmps32, List.size_toArray, List.length_cons, List.length_nil, Nat.reduceAdd, Nat.reduceSub, Array.replicate_succ, Array.replicate_zero, List.push_toArray, List.append_toArray, List.nil_append, List.cons_append]
  gi_wp2
  gi_loopw [3] (fun x wr => ∃ s, J s wr) (fun x wr => leftTo B p wr)
  case atStart => exact ⟨s0, h0⟩
  case round =>
    obtain ⟨s, hs⟩ := hrel
    obtain ⟨w1, rfl⟩ : ∃ w1, w1 = wr := ⟨wr, rfl⟩
    obtain ⟨hW, hf, hB, hlt, hv⟩ := hJ s w1 hs
    have hv := hv v rfl
    have c0 := hW.c0
    cases hm : s.m s.nx with
    | none =>
      gi_wp2_with (refine ⟨trivial, ?_⟩; gi_at_call 17; refine (callsIn_wide.2 (Peek_calls _ hW hf)).mono ?_; rintro e w2 ⟨rfl, ho⟩; rw [hm])
      refine bodyPost_ret (results_none rfl _ _ _) rfl ?_
      exact ⟨⟨_, rfl⟩, .inl ⟨s, hJo s _ _ hs ho, hm⟩⟩
    | some a =>
      have hlt' := hlt (by rw [hm]; rfl)
      gi_wp2_with (first | (refine ⟨trivial, ?_⟩; gi_at_call 17; refine (callsIn_wide.2 (Peek_calls _ hW hf)).mono ?_; rintro e w2 ⟨rfl, ho⟩; rw [hm]; have hW2 := hW.only ho (fun h => h) (fun h => h); have hv2 := (ho.below (n := w1.heap.size) (Nat.le_refl _) (fun _ h => h.elim)).cell (p := ⟨v, 0, none⟩) (cell_lt hv); rw [hv] at hv2) | (refine ⟨trivial, ?_⟩; gi_at_call 33; refine (callsIn_wide.2 (Pass_calls _ hW2 hf (by omega))).mono ?_; rintro e w3 ⟨rfl, hW3, ho3⟩; rw [hm] at hW3; obtain ⟨fn, tmps, assign, body, hy, hR⟩ := hY s w1 a w3 hs hm ((ho.mono (fun _ h => h.elim)).trans ho3) hW3))
      refine hR.mono ?_
      rintro e w4 (⟨rfl, s', hlt4, hJ4⟩ | ⟨rfl, hx4⟩)
      · gi_wp2
        refine ⟨⟨s', hJ4⟩, ?_⟩
        rw [leftTo_eq (hJ s' w4 hJ4).1, leftTo_eq hW]
        omega
      · gi_wp2
        refine bodyPost_ret (results_none rfl _ _ _) rfl ?_
        exact ⟨⟨_, rfl⟩, .inr hx4⟩
end Go.Proofs.YtmfabpkliogjlaaWin
end
section
namespace Go.Proofs.YtmfabpkliogjlaaWin
open Go.RowKit Go.Maps Go.Shelf
set_option linter.unusedSimpArgs false
set_option linter.unusedVariables false
def winPost (B : Nat) (I : WS → World → Prop) (Ix : Code → World → Prop) (s : WS) (W : World) : Exit → Act → World → Prop
  | .normal, _, W' => KeepsFrom B W W' ∧ ∃ s', s.nx < s'.nx ∧ I s' W'
  | .ret, _, W' => KeepsFrom B W W' ∧ Ix .ret W'
  | .exit id, _, W' => KeepsFrom B W W' ∧ Ix (.exit id) W'
  | .goto t, _, W' => KeepsFrom B W W' ∧ Ix (.goto t) W'
  | _, _, _ => False
def WinI (p b : Nat) (sz B : Int) (lb : Array Value) (I : WS → World → Prop) : Prop :=
  ∀ s W, I s W → WinS W p b sz s ∧ Fits s.nx ∧ B < 4611686018427387904 ∧ ((s.m s.nx).isSome → s.nx < B) ∧ ∀ v, lb = #[.pointer (some ⟨v, 0, none⟩)] → W.cell? ⟨v, 0, none⟩ = some (.pointer (some ⟨p, 0, none⟩))
section
variable {n p b : Nat} {sz B : Int} {w : World}
end
end Go.Proofs.YtmfabpkliogjlaaWin
end
section
namespace Go.Proofs.YtmfabpkliogjlaaWin
open Go.RowKit Go.Maps Go.Shelf
set_option linter.unusedSimpArgs false
set_option linter.unusedVariables false
theorem fits_of {x : Int} (h : -9223372036854775808 ≤ x ∧ x ≤ 9223372036854775807) : Fits x := by
  show (Lit.int .i64 x).wf = true
  simp [Lit.wf, IntKind.min, IntKind.max, IntKind.signed, IntKind.bits]
  omega
theorem boxed_only {K : Nat → Prop} {W W' : World} {i : Nat} {t : TypeId} {v : Value} (h : Boxed W i t v) (ho : Only K W W') (hn : ¬ K i) : Boxed W' i t v := (ho.block i h.lt hn).trans h
theorem keeps_below {B B' : Nat} {W0 W W' : World} (h : KeepsFrom B W0 W) (hb : Below B' W W') (hB : W0.heap.size ≤ B') : KeepsFrom B W0 W' :=
  ⟨Nat.le_trans h.size hb.size, fun k o hk h0 ho => (hb.block k (by have := (Array.getElem?_eq_some_iff.1 h0).1; omega)).trans (h.same k o hk h0 ho)⟩
theorem keeps_only {B : Nat} {K : Nat → Prop} {W W' : World} (h : Only K W W') (hK : ∀ k, K k → k < B ∨ ∃ c t f, W.heap[k]? = some (.cells c t f)) : KeepsFrom B W W' :=
  ⟨h.size, fun k o hk h0 ho => (h.block k (Array.getElem?_eq_some_iff.1 h0).1 (fun hkk => by
    rcases hK k hkk with h1 | ⟨c, t, f, h1⟩
    · omega
    · rw [h0] at h1; cases h1; cases ho)).trans h0⟩
end Go.Proofs.YtmfabpkliogjlaaWin
end
section
namespace Go.Proofs.YtmfabpkliogjlaaWin
open Go.RowKit Go.Lib
set_option linter.unusedSimpArgs false
set_option linter.unusedVariables false
def cellsT (y : Int × Int) : List Value := [.int .i64 y.1, .int .i64 y.2]
def flatT (hs : Things) : List Value := hs.flatMap cellsT
theorem flatT_snoc (L : Things) (q : Int × Int) : flatT (L ++ [q]) = flatT L ++ cellsT q := by simp [flatT]
theorem flatT_get (l : Things) (j : Nat) (hj : j < l.length) : (flatT l)[j * 2]? = some (.int .i64 (l[j]).1) ∧ (flatT l)[j * 2 + 1]? = some (.int .i64 (l[j]).2) := by
  induction l generalizing j with
  | nil => simp at hj
  | cons r l ih =>
    cases j with
    | zero => exact ⟨rfl, rfl⟩
    | succ j =>
      have h := ih j (by simpa using hj)
      have e0 : flatT (r :: l) = cellsT r ++ flatT l := rfl
      rw [e0]
      have e : (j + 1) * 2 = j * 2 + 2 := by omega
      rw [e]
      exact h
theorem cell_of {w : World} {g : Nat} {cs : Array Value} {t : TypeId} {f : Nat × Nat} (h : w.heap[g]? = some (.cells cs t f)) (i : Nat) : w.cell? ⟨g, i, none⟩ = cs[i]? := by
  simp [World.cell?, h]
theorem frozen_of {w : World} {g : Nat} {cs : Array Value} {t : TypeId} (h : w.heap[g]? = some (.cells cs t (0, 0))) (i : Nat) : w.frozen? ⟨g, i, none⟩ = false := by
  simp [World.frozen?, h]
def RefAt (W : World) (q : Nat) (nx sz : Int) (hs : Things) (S : Nat → Prop) : Prop :=
  ∃ v, W.heap[q]? = some (.cells #[.int .i64 nx, .int .i64 sz, v] 100 (0, 0)) ∧ W.ownsRow 0 103 2 v hs.length (flatT hs) ∧ S q ∧ ∀ g, v.ownBlock = some g → S g
section
variable {W W' : World} {q : Nat} {nx sz : Int} {hs : Things} {S : Nat → Prop}
theorem RefAt.lt (h : RefAt W q nx sz hs S) : q < W.heap.size := by
  obtain ⟨v, h1, _⟩ := h
  exact (Array.getElem?_eq_some_iff.1 h1).1
theorem row_keep {base k t c : Nat} {v : Value} {xs : List Value} (h : W.ownsRow base t c v k xs) (hk : ∀ g, v.ownBlock = some g → W'.heap[g]? = W.heap[g]?) : W'.ownsRow base t c v k xs := by
  refine ⟨h.1, ?_⟩
  rcases h.2 with h2 | ⟨g, cap, cur, hv, h1, h2, h3⟩
  · exact .inl h2
  · exact .inr ⟨g, cap, cur, hv, h1, (hk g (by rw [hv]; rfl)).trans h2, h3⟩
theorem RefAt.only {K : Nat → Prop} (h : RefAt W q nx sz hs S) (ho : Only K W W') (hd : ∀ k, S k → ¬ K k) : RefAt W' q nx sz hs S := by
  obtain ⟨v, h1, h2, h3, h4⟩ := h
  have hlt := fun g hg => (h2.lt g hg).2
  exact ⟨v, (ho.block q (Array.getElem?_eq_some_iff.1 h1).1 (hd q h3)).trans h1, row_keep h2 (fun g hg => ho.block g (hlt g hg) (hd g (h4 g hg))), h3, h4⟩
theorem RefAt.below (h : RefAt W q nx sz hs S) (ho : Below W.heap.size W W') : RefAt W' q nx sz hs S := h.only (K := fun _ => False) (Only.of_below ho) (fun _ _ hk => hk)
theorem RefAt.mono {S' : Nat → Prop} (h : RefAt W q nx sz hs S) (hS : ∀ k, S k → S' k) : RefAt W q nx sz hs S' := by
  obtain ⟨v, h1, h2, h3, h4⟩ := h
  exact ⟨v, h1, h2, hS _ h3, fun g hg => hS _ (h4 g hg)⟩
theorem RefAt.open_ (h : RefAt W q nx sz hs S) : ∃ A c, W.heap[q]? = some (.cells #[.int .i64 nx, .int .i64 sz, .slice A hs.length c] 100 (0, 0)) ∧ W.ownsRow 0 103 2 (.slice A hs.length c) hs.length (flatT hs) ∧ S q ∧ (∀ g, (Value.slice A hs.length c).ownBlock = some g → S g) ∧
    ∀ i (hi : i < hs.length), ∃ g, A = some ⟨g, 0, none⟩ ∧ g ≠ q ∧ W.cell? ⟨g, i * 2, none⟩ = some (.int .i64 hs[i].1) ∧ W.cell? ⟨g, i * 2 + 1, none⟩ = some (.int .i64 hs[i].2) := by
  obtain ⟨v, h1, h2, h3, h4⟩ := h
  rcases h2.2 with ⟨hv, h0⟩ | ⟨g, cap, cur, hv, hbg, hh, hnc, hcm, hcs, htake⟩
  · subst hv
    refine ⟨none, 0, by rw [h0]; exact h1, by rw [h0] at h2 ⊢; exact h2, h3, (fun g hg => by cases hg), (fun i hi => by omega)⟩
  · subst hv
    refine ⟨_, _, h1, h2, h3, h4, fun i hi => ⟨g, rfl, ?_, ?_⟩⟩
    · rintro rfl
      rw [h1] at hh
      cases hh
    · obtain ⟨g0, g1⟩ := flatT_get hs i hi
      have key : ∀ (t : Nat) (x : Value), t < hs.length * 2 → (flatT hs)[t]? = some x → W.cell? ⟨g, t, none⟩ = some x := by
        intro t x ht hx
        rw [← htake, List.getElem?_take, if_pos ht, Array.getElem?_toList] at hx
        rw [cell_of hh]
        exact hx
      exact ⟨key _ _ (by omega) g0, key _ _ (by omega) g1⟩
end
theorem RNew_yes (nx sz : Int) (h : 0 ≤ nx ∧ nx ≤ 1048576 ∧ 1 ≤ sz ∧ sz ≤ 1048576) (w : World) : Calls Try.prog 31 #[.int .i64 nx, .int .i64 sz] w fun e w' => e = .returned (.tuple #[.pointer (some ⟨w.heap.size, 0, none⟩), .int .i64 0]) ∧ RefAt w' w.heap.size nx sz [] (fun k => w.heap.size ≤ k) ∧ Below w.heap.size w w' := by
  have d0 : decide (nx < 0) = false := decide_eq_false (by omega)
  have d1 : decide (1048576 < nx) = false := decide_eq_false (by omega)
  have d2 : decide (sz < 1) = false := decide_eq_false (by omega)
  have d3 : decide (1048576 < sz) = false := decide_eq_false (by omega)
  have h1 := World.alloc_heap_new w (.cells #[.int .i64 nx, .int .i64 sz, .slice none 0 0] 100)
  clear h
  go_enter Try.func31, Try.ntmps31
  go_wp2
  go_ret2
  exact ⟨rfl, ⟨_, h1, World.ownsRow_nil _ _ _ _, Nat.le_refl _, fun g hg => by cases hg⟩, (Below.refl _ w).alloc (Nat.le_refl _) _⟩
theorem RNew_no (nx sz : Int) (h : ¬ (0 ≤ nx ∧ nx ≤ 1048576 ∧ 1 ≤ sz ∧ sz ≤ 1048576)) (w : World) : Calls Try.prog 31 #[.int .i64 nx, .int .i64 sz] w fun e w' => e = .returned (.tuple #[.pointer none, .int .i64 2]) ∧ w' = w := by
  by_cases c0 : nx < 0
  · have d0 : decide (nx < 0) = true := decide_eq_true c0
    go_enter Try.func31, Try.ntmps31
    go_wp2
    go_ret2
    exact ⟨rfl, rfl⟩
  have d0 : decide (nx < 0) = false := decide_eq_false c0
  by_cases c1 : 1048576 < nx
  · have d1 : decide (1048576 < nx) = true := decide_eq_true c1
    go_enter Try.func31, Try.ntmps31
    go_wp2
    go_ret2
    exact ⟨rfl, rfl⟩
  have d1 : decide (1048576 < nx) = false := decide_eq_false c1
  by_cases c2 : sz < 1
  · have d2 : decide (sz < 1) = true := decide_eq_true c2
    go_enter Try.func31, Try.ntmps31
    go_wp2
    go_ret2
    exact ⟨rfl, rfl⟩
  have d2 : decide (sz < 1) = false := decide_eq_false c2
  have d3 : decide (1048576 < sz) = true := decide_eq_true (by omega)
  go_enter Try.func31, Try.ntmps31
  go_wp2
  go_ret2
  exact ⟨rfl, rfl⟩
theorem RNext_calls {q : Nat} {nx sz : Int} {hs : Things} {S : Nat → Prop} (w : World) (h : RefAt w q nx sz hs S) : Calls Try.prog 45 #[.pointer (some ⟨q, 0, none⟩)] w fun e w' => e = .returned (.int .i64 nx) ∧ w' = w := by
  obtain ⟨A, c, h1, _⟩ := h.open_
  have c0 : w.cell? ⟨q, 0, none⟩ = some (.int .i64 nx) := cell_of h1 0
  clear h h1
  go_enter Try.func45, Try.ntmps45
  go_wp2
  go_ret
  exact ⟨rfl, rfl⟩
theorem at_calls {q : Nat} {nx sz : Int} {hs : Things} {S : Nat → Prop} (w : World) (h : RefAt w q nx sz hs S) (hl : hs.length ≤ 2000000) (x : Int) : Calls Try.prog 52 #[.pointer (some ⟨q, 0, none⟩), .int .i64 x] w fun e w' => w' = w ∧ ((look hs x = none ∧ e = .returned (.int .i64 (-1))) ∨ ∃ i : Nat, ∃ hi : i < hs.length, hs[i].1 = x ∧ look hs x = some hs[i].2 ∧ e = .returned (.int .i64 (i : Int))) := by
  obtain ⟨A, c, h1, _, _, _, hcl⟩ := h.open_
  have c2 : w.cell? ⟨q, 2, none⟩ = some (.slice A hs.length c) := cell_of h1 2
  have HC := Lib.hid hcl
  clear h h1 hcl
  go_enter Try.func52, Try.ntmps52
  go_wp2
  go_loopw [5] (fun v wr => ∃ i : Nat, i ≤ hs.length ∧ v = .int .i64 (i : Int) ∧ Hid (∀ j (hj : j < hs.length), j < i → hs[j].1 ≠ x) ∧ wr = w) (fun v _ => hs.length - (RowKit.intOf v).toNat)
  case atStart => exact ⟨0, by omega, rfl, (fun j _ hj => by omega), rfl⟩
  case round =>
    obtain ⟨i, hi, rfl, HN, rfl⟩ := hrel
    have ib : (i : Int) ≤ 2000000 := by omega
    by_cases hc : i < hs.length
    · have d0 : decide (i < hs.length) = true := decide_eq_true hc
      obtain ⟨g, rfl, _, x0, x1⟩ := HC.out i hc
      have p0 : (0 ≤ (i : Int)) = True := eq_true (by omega)
      have p1 : ((i : Int) < (hs.length : Int)) = True := eq_true (by omega)
      obtain ⟨y, hy⟩ : ∃ y, hs[i].1 = y := ⟨_, rfl⟩
      rw [hy] at x0
      by_cases e : y = x
      · have HY := Lib.hid (hy.trans e)
        subst e
        clear hy
        go_wp2
        go_ret
        refine ⟨rfl, .inr ⟨i, hc, HY.out, ?_, rfl⟩⟩
        have hf : hs.find? (fun z => z.1 == y) = some hs[i] := by
          rw [List.find?_eq_some_iff_getElem]
          refine ⟨by simpa using HY.out, i, hc, rfl, fun j hj => ?_⟩
          have := HN.out j (by omega) hj
          simpa using this
        unfold look
        rw [hf]
        rfl
      · have e1 : (y == x) = false := beq_eq_false_iff_ne.2 e
        have HY := Lib.hid hy
        have HE := Lib.hid e
        clear hy e
        go_wp2
        go_roundw
        case rel =>
          refine ⟨i + 1, hc, by go_num, (fun j hj hlt => ?_), by trivial⟩
          by_cases c : j = i
          · subst c
            rw [HY.out]
            exact HE.out
          · exact HN.out j hj (by omega)
        case measure => simp [RowKit.intOf]; omega
    · obtain rfl : i = hs.length := by omega
      have d0 : decide (hs.length < hs.length) = false := decide_eq_false hc
      clear hc hi
      go_wp2
      go_ret
      refine ⟨rfl, .inl ⟨look_none_iff.2 (fun z hz => ?_), rfl⟩⟩
      obtain ⟨j, hj, rfl⟩ := List.getElem_of_mem hz
      exact HN.out j hj hj
end Go.Proofs.YtmfabpkliogjlaaWin
end
section
namespace Go.Proofs.YtmfabpkliogjlaaWin
open Go.RowKit Go.Lib
set_option linter.unusedSimpArgs false
set_option linter.unusedVariables false
theorem small64 {n : Int} (h1 : -20000000 ≤ n) (h2 : n ≤ 20000000) : wrap64 n = n := by
  unfold wrap64
  omega
theorem info103 : ∃ i, Try.prog.info? 103 = some i ∧ i.zero = some (.agg #[.int .i64 0, .int .i64 0]) ∧ i.size = 2 ∧ i.bytes = 16 := by
  have h : (Try.prog.info? 103).map (fun i => (i.zero, i.size, i.bytes)) = some (some (.agg #[.int .i64 0, .int .i64 0]), 2, 16) := by kernel_rfl
  cases hi : Try.prog.info? 103 with
  | none => rw [hi] at h; cases h
  | some i =>
    rw [hi] at h
    simp at h
    exact ⟨i, rfl, h.1, h.2.1, h.2.2⟩
theorem row_form {w : World} {base : Nat} {t : TypeId} {c : Nat} {v : Value} {k : Nat} {xs : List Value} (h : w.ownsRow base t c v k xs) : ∃ p cap, v = .slice p k cap := by
  rcases h.2 with ⟨hnil, h0⟩ | ⟨g, cap, cur, hv, _⟩
  · subst h0
    exact ⟨_, _, hnil⟩
  · exact ⟨_, _, hv⟩
theorem below_grown {B : Nat} {a w w' : World} {row : Option Nat} (h : Below B a w) (hB : B ≤ a.heap.size) (hg : w.grownBy w' row) (hr : ∀ j, row = some j → B ≤ j) : Below B a w' :=
  ⟨hg.os.trans h.os, hg.tape.trans h.tape, hg.output.trans h.output, Nat.le_trans h.size hg.size, fun i hi => (hg.block i (Nat.lt_of_lt_of_le (Nat.lt_of_lt_of_le hi hB) h.size) (fun e => by have := hr i e.symm; omega)).trans (h.block i hi)⟩
set_option maxRecDepth 100000 in
theorem RPeek_calls {q : Nat} {nx sz : Int} {hs : Things} {S : Nat → Prop} (w : World) (h : RefAt w q nx sz hs S) (hl : hs.length ≤ 2000000) : Calls Try.prog 39 #[.pointer (some ⟨q, 0, none⟩)] w fun e w' => w' = w ∧ e = .returned (.tuple #[.int .i64 ((look hs nx).getD 0), .int .i64 (if (look hs nx).isSome then 0 else 15)]) := by
  have ha := at_calls w h hl nx
  obtain ⟨A, c, h1, _, _, _, hcl⟩ := h.open_
  have c0 : w.cell? ⟨q, 0, none⟩ = some (.int .i64 nx) := cell_of h1 0
  have c2 : w.cell? ⟨q, 2, none⟩ = some (.slice A hs.length c) := cell_of h1 2
  have HC := Lib.hid hcl
  clear h h1 hcl
  obtain ⟨r, hr⟩ : ∃ r : Value, r = .tuple #[.int .i64 ((look hs nx).getD 0), .int .i64 (if (look hs nx).isSome then 0 else 15)] := ⟨_, rfl⟩
  rw [← hr]
  have HR := Lib.hid hr
  clear hr
  go_enter Try.func39, Try.ntmps39
  go_upto_region 2 with (go_at_call 52; refine ha.mono ?_; rintro e w' ⟨hw, ⟨hlk, rfl⟩ | ⟨i, hi, hix, hlk, rfl⟩⟩ <;> subst hw)
  · have HL := Lib.hid hlk
    clear hlk
    go_wp2
    go_ret2
    refine ⟨rfl, ?_⟩
    have hl2 := HL.out
    rw [HR.out, hl2]
    rfl
  · obtain ⟨g, rfl, _, x0, x1⟩ := HC.out i hi
    have d : decide ((i : Int) < 0) = false := decide_eq_false (by omega)
    have p0 : (0 ≤ (i : Int)) = True := eq_true (by omega)
    have p1 : ((i : Int) < (hs.length : Int)) = True := eq_true (by omega)
    obtain ⟨v, hv⟩ : ∃ v, hs[i].2 = v := ⟨_, rfl⟩
    rw [hv] at x1 hlk
    have HL := Lib.hid hlk
    clear hv hix hlk
    go_wp2
    go_ret2
    refine ⟨rfl, ?_⟩
    have hl2 := HL.out
    rw [HR.out, hl2]
    rfl
theorem eraseIdx_take {hs : Things} {i k : Nat} (hk : k < hs.length) : (hs.take (k + 1)).eraseIdx i = if k = i then (hs.take k).eraseIdx i else (hs.take k).eraseIdx i ++ [hs[k]] := by
  have hl : (hs.take k).length = k := by simp; omega
  rw [List.take_add_one, List.getElem?_eq_getElem hk]
  simp only [Option.toList_some]
  by_cases c : k = i
  · rw [if_pos c, List.eraseIdx_append_of_length_le (by omega), List.eraseIdx_of_length_le (l := hs.take k) (by omega)]
    have : i - (hs.take k).length = 0 := by omega
    rw [this]
    simp
  · rw [if_neg c]
    by_cases c2 : i < k
    · rw [List.eraseIdx_append_of_lt_length (by omega)]
    · rw [List.eraseIdx_append_of_length_le (by omega), List.eraseIdx_of_length_le (l := hs.take k) (by omega)]
      congr 1
      exact List.eraseIdx_of_length_le (by simp; omega)
theorem set_q2 {W : World} {q : Nat} {x y z v : Value} (h : W.heap[q]? = some (.cells #[x, y, z] 100 (0, 0))) : (W.setCell ⟨q, 2, none⟩ v).heap[q]? = some (.cells #[x, y, v] 100 (0, 0)) := by
  simp [World.setCell, Array.getElem?_modify, h]
theorem set_q0 {W : World} {q : Nat} {x y z v : Value} (h : W.heap[q]? = some (.cells #[x, y, z] 100 (0, 0))) : (W.setCell ⟨q, 0, none⟩ v).heap[q]? = some (.cells #[v, y, z] 100 (0, 0)) := by
  simp [World.setCell, Array.getElem?_modify, h]
set_option maxRecDepth 100000 in
set_option maxHeartbeats 1000000 in
theorem out_calls {q : Nat} {nx sz : Int} {hs : Things} {S : Nat → Prop} (w : World) (h : RefAt w q nx sz hs S) (hl : hs.length ≤ 2000000) (i : Nat) (hi : i < hs.length) : Calls Try.prog 53 #[.pointer (some ⟨q, 0, none⟩), .int .i64 (i : Int)] w fun e w' => e = .returned (.tuple #[]) ∧ RefAt w' q nx sz (hs.eraseIdx i) (fun k => S k ∨ w.heap.size ≤ k) ∧ Only (fun k => k = q) w w' := by
  obtain ⟨i103, hi0, hz0, hz1, hz2⟩ := info103
  have hlt := h.lt
  obtain ⟨A, c, h1, _, hSq, _, hcl⟩ := h.open_
  have H1 := Lib.hid h1
  have HC := Lib.hid hcl
  have HS := Lib.hid hSq
  have HI := Lib.hid hi
  clear h h1 hcl hSq hi
  go_enter Try.func53, Try.ntmps53
  go_wp2
  go_loopw [4, 5] (fun v4 v5 wr => ∃ k : Nat, k ≤ hs.length ∧ v5 = .int .i64 (k : Int) ∧ wr.ownsRow w.heap.size 103 2 v4 ((hs.take k).eraseIdx i).length (flatT ((hs.take k).eraseIdx i)) ∧ Hid (Below w.heap.size w wr)) (fun _ v5 _ => hs.length - (RowKit.intOf v5).toNat)
  case atStart => exact ⟨0, by omega, rfl, World.ownsRow_nil _ _ _ _, Below.refl _ _⟩
  case round =>
    obtain ⟨k, hk, rfl, hown, HB⟩ := hrel
    have kb : (k : Int) ≤ 2000000 := by omega
    have hq2 := (HB.out.block q hlt).trans H1.out
    have c2 := cell_of hq2 2
    have HQ := Lib.hid hq2
    clear hq2
    by_cases hc : k < hs.length
    · have d0 : decide (k < hs.length) = true := decide_eq_true hc
      have her := eraseIdx_take (i := i) hc
      obtain ⟨g, rfl, _, x0, x1⟩ := HC.out k hc
      have p0 : (0 ≤ (k : Int)) = True := eq_true (by omega)
      have p1 : ((k : Int) < (hs.length : Int)) = True := eq_true (by omega)
      obtain ⟨⟨y1, y2⟩, hy⟩ : ∃ y, hs[k] = y := ⟨_, rfl⟩
      rw [hy] at x0 x1 her
      dsimp only at x0 x1
      have hgl : g < w.heap.size := by
        have := x0
        simp only [World.cell?] at this
        rcases Nat.lt_or_ge g w.heap.size with hh | hh
        · exact hh
        · rw [Array.getElem?_eq_none hh] at this
          cases this
      have y0 : wr.cell? ⟨g, k * 2, none⟩ = some (.int .i64 y1) := by
        have e := HB.out.block g hgl
        simp only [World.cell?] at x0 ⊢
        rw [e]; exact x0
      have y1' : wr.cell? ⟨g, k * 2 + 1, none⟩ = some (.int .i64 y2) := by
        have e := HB.out.block g hgl
        simp only [World.cell?] at x1 ⊢
        rw [e]; exact x1
      clear x0 x1 hgl hy
      by_cases e : k = i
      · rw [if_pos e] at her
        have e1 : ((k : Int) == (i : Int)) = true := by simp [e]
        have e1' : (k == i) = true := by simp [e]
        have e2 : ((k : Int) != (i : Int)) = false := by simp [e]
        have e2' : (k != i) = false := by simp [e]
        have HE := Lib.hid her
        have HO := Lib.hid hown
        have HCk := Lib.hid hc
        clear her hown e
        go_wp2
        go_roundw
        case rel => exact ⟨k + 1, HCk.out, by go_num, by rw [HE.out]; exact HO.out, HB⟩
        case measure => have := HCk.out; simp [RowKit.intOf]; omega
      · rw [if_neg e] at her
        have e1 : ((k : Int) == (i : Int)) = false := beq_eq_false_iff_ne.2 (by omega)
        have e1' : (k == i) = false := beq_eq_false_iff_ne.2 e
        have e2 : ((k : Int) != (i : Int)) = true := by simp; omega
        have e2' : (k != i) = true := by simp [e]
        have HE := Lib.hid her
        have HCk := Lib.hid hc
        have b2 := HB.out.size
        have hle : ((hs.take k).eraseIdx i).length ≤ k := Nat.le_trans (List.length_eraseIdx_le _ _) (by simp; omega)
        have hrow3 := hown.alloc (.cells #[.int .i64 y1, .int .i64 y2] 103)
        have hB3 := HB.out.alloc b2 (.cells #[.int .i64 y1, .int .i64 y2] 103)
        have hW3 := World.alloc_heap_new wr (.cells #[.int .i64 y1, .int .i64 y2] 103)
        have hcn : ∀ j u, (cellsT (y1, y2))[j]? = some u → (wr.alloc (.cells #[.int .i64 y1, .int .i64 y2] 103)).cell? ((⟨wr.heap.size, 0, none⟩ : Addr).add j) = some u := by
          intro j u hj
          have e : (⟨wr.heap.size, 0, none⟩ : Addr).add j = ⟨wr.heap.size, j, none⟩ := by simp [Addr.add]; exact fun e => e.symm
          rw [e, cell_of hW3]
          match j, hj with
          | 0, hj => exact hj
          | 1, hj => exact hj
        have HCN := Lib.hid hcn
        have HB3 := Lib.hid hB3
        clear hcn hW3 hB3 b2 hown her e
        go_wp2_with (first
          | (at_builtin; refine wpList_append_lies _ rfl _ _ 98 rfl w.heap.size 103 i103 (.agg #[.int .i64 0, .int .i64 0]) 2 16 Try.underlying98 hi0 hz0 hz1 hz2 rfl (by decide) _ _ (flatT ((hs.take k).eraseIdx i)) rfl hrow3 ⟨wr.heap.size, 0, none⟩ 1 1 (cellsT (y1, y2)) rfl rfl HCN.out ?c2 (by decide) ?c3 ?c4 ?c5 _ rfl ?_)
          | go_in)
        case c2 => intro u hu; simp [cellsT] at hu; rcases hu with rfl | rfl <;> rfl
        case c3 => unfold maxLen; omega
        case c4 => omega
        case c5 => exact HB3.out.size
        · intro g' cap'' w2 hown2 hgrow hloc hglt
          have HB4 : Hid (Below w.heap.size w w2) := below_grown HB3.out (Nat.le_refl _) hgrow (fun j hj => (hrow3.lt j hj).1)
          have HW : Hid (w2.ownsRow w.heap.size 103 2 (.slice (some ⟨g', 0, none⟩) (((hs.take k).eraseIdx i).length + 1) cap'') ((hs.take (k + 1)).eraseIdx i).length (flatT ((hs.take (k + 1)).eraseIdx i))) := by
            rw [HE.out, List.length_append, flatT_snoc]
            exact hown2
          clear hown2 hgrow hloc hglt hrow3
          go_wp2
          go_roundw
          case rel => exact ⟨k + 1, HCk.out, by go_num, HW.out, HB4⟩
          case measure => have := HCk.out; simp [RowKit.intOf]; omega
    · obtain rfl : k = hs.length := by omega
      have d0 : decide (hs.length < hs.length) = false := decide_eq_false hc
      have ht : hs.take hs.length = hs := List.take_length
      rw [ht] at hown
      obtain ⟨pp, cap, hv⟩ := row_form hown
      subst hv
      have f2 := frozen_of HQ.out 2
      have HO := Lib.hid hown
      clear hown hc hk ht
      go_wp2
      go_end0
      have hos : Only (fun k => k = q) wr (wr.setCell ⟨q, 2, none⟩ (.slice pp (hs.eraseIdx i).length cap)) := Only.setCell _ _ _ _ rfl
      refine ⟨rfl, ⟨_, set_q2 HQ.out, row_keep (HO.out.mono (Nat.zero_le _)) (fun g hg => ?_), .inl HS.out, fun g hg => .inr (HO.out.lt g hg).1⟩, (Only.of_below HB.out).trans hos⟩
      have hgg := HO.out.lt g hg
      exact hos.block g hgg.2 (fun e => by omega)
end Go.Proofs.YtmfabpkliogjlaaWin
end
section
namespace Go.Proofs.YtmfabpkliogjlaaWin
open Go.RowKit Go.Lib
set_option linter.unusedSimpArgs false
set_option linter.unusedVariables false
theorem wo_none {hs : Things} {x : Int} (h : look hs x = none) : wo hs x = hs := by
  unfold wo
  rw [List.filter_eq_self]
  intro a ha
  have := look_none_iff.1 h a ha
  simpa using this
theorem wo_erase {hs : Things} (h : Keys hs) {i : Nat} (hi : i < hs.length) {x : Int} (hx : hs[i].1 = x) : wo hs x = hs.eraseIdx i := by
  rw [← hx, wo_at h hi, List.eraseIdx_eq_take_drop_succ]
set_option maxRecDepth 100000 in
theorem RDrop_calls {q : Nat} {nx sz : Int} {hs : Things} {S : Nat → Prop} (w : World) (h : RefAt w q nx sz hs S) (hk : Keys hs) (hl : hs.length ≤ 2000000) (x : Int) : Calls Try.prog 41 #[.pointer (some ⟨q, 0, none⟩), .int .i64 x] w fun e w' => e = .returned (.int .i64 (if (look hs x).isSome then 0 else 15)) ∧ RefAt w' q nx sz (wo hs x) (fun k => S k ∨ w.heap.size ≤ k) ∧ Only (fun k => k = q) w w' := by
  have ha := at_calls w h hl x
  have HH := Lib.hid h
  have HK := Lib.hid hk
  obtain ⟨r, hr⟩ : ∃ r : Value, r = .int .i64 (if (look hs x).isSome then 0 else 15) := ⟨_, rfl⟩
  rw [← hr]
  have HR := Lib.hid hr
  clear hr h hk
  go_enter Try.func41, Try.ntmps41
  go_upto_region 2 with (go_at_call 52; refine ha.mono ?_; rintro e w' ⟨hw, ⟨hlk, rfl⟩ | ⟨i, hi, hix, hlk, rfl⟩⟩ <;> subst hw)
  · have HL := Lib.hid hlk
    clear hlk
    go_wp2
    go_ret
    refine ⟨?_, ?_, Only.refl _ _⟩
    · rw [HR.out, HL.out]; rfl
    · rw [wo_none HL.out]
      exact HH.out.mono (fun k hk => .inl hk)
  · have d : decide ((i : Int) < 0) = false := decide_eq_false (by omega)
    have ho := out_calls w' HH.out hl i hi
    have HL := Lib.hid hlk
    have hwe := wo_erase HK.out hi hix
    have HW := Lib.hid hwe
    clear hix hlk hwe
    go_wp2_with (go_at_call 53; refine ho.mono ?_; rintro e w2 ⟨rfl, hr2, ho2⟩)
    go_ret
    refine ⟨?_, ?_, ho2⟩
    · rw [HR.out, HL.out]; rfl
    · rw [HW.out]
      exact hr2
set_option maxRecDepth 100000 in
theorem RPass_calls {q : Nat} {nx sz : Int} {hs : Things} {S : Nat → Prop} (w : World) (h : RefAt w q nx sz hs S) (hk : Keys hs) (hl : hs.length ≤ 2000000) (h0 : 0 ≤ nx) (h1 : nx ≤ 10000000) : Calls Try.prog 40 #[.pointer (some ⟨q, 0, none⟩)] w fun e w' => e = .returned (.int .i64 (if (look hs nx).isSome then 0 else 15)) ∧ RefAt w' q (if (look hs nx).isSome then nx + 1 else nx) sz (wo hs nx) (fun k => S k ∨ w.heap.size ≤ k) ∧ Only (fun k => k = q) w w' := by
  have ha := at_calls w h hl nx
  have HH := Lib.hid h
  have HK := Lib.hid hk
  obtain ⟨A, c, hq, _⟩ := h.open_
  have c0 : w.cell? ⟨q, 0, none⟩ = some (.int .i64 nx) := cell_of hq 0
  obtain ⟨r, hr⟩ : ∃ r : Value, r = .int .i64 (if (look hs nx).isSome then 0 else 15) := ⟨_, rfl⟩
  rw [← hr]
  obtain ⟨n', hn'⟩ : ∃ n', n' = if (look hs nx).isSome then nx + 1 else nx := ⟨_, rfl⟩
  rw [← hn']
  have HR := Lib.hid hr
  have HN := Lib.hid hn'
  clear hr hn' h hk hq
  go_enter Try.func40, Try.ntmps40
  go_upto_region 2 with (go_at_call 52; refine ha.mono ?_; rintro e w' ⟨hw, ⟨hlk, rfl⟩ | ⟨i, hi, hix, hlk, rfl⟩⟩ <;> subst hw)
  · have HL := Lib.hid hlk
    clear hlk
    go_wp2
    go_ret
    refine ⟨?_, ?_, Only.refl _ _⟩
    · rw [HR.out, HL.out]; rfl
    · rw [wo_none HL.out, HN.out, HL.out]
      exact HH.out.mono (fun k hk => .inl hk)
  · have d : decide ((i : Int) < 0) = false := decide_eq_false (by omega)
    have ho := out_calls w' HH.out hl i hi
    have HL := Lib.hid hlk
    have hwe := wo_erase HK.out hi hix
    have HW := Lib.hid hwe
    have v1 : wrap64 (nx + 1) = nx + 1 := small64 (by omega) (by omega)
    clear hix hlk hwe
    go_wp2_with (go_at_call 53; refine ho.mono ?_; rintro e w2 ⟨rfl, hr2, ho2⟩; obtain ⟨A2, c2, hq2, hrow2, hS2, hg2, hcl2⟩ := hr2.open_; have d0 := cell_of hq2 0; have f0 := frozen_of hq2 0; have HQ2 := Lib.hid hq2; have HRow2 := Lib.hid hrow2; have HS2 := Lib.hid hS2; have HG2 := Lib.hid hg2; clear hq2 hrow2 hS2 hg2 hcl2 hr2)
    go_ret
    have hos : Only (fun k => k = q) w2 (w2.setCell ⟨q, 0, none⟩ (.int .i64 (nx + 1))) := Only.setCell _ _ _ _ rfl
    refine ⟨?_, ?_, ho2.trans hos⟩
    · rw [HR.out, HL.out]; rfl
    · rw [HW.out, HN.out, HL.out]
      refine ⟨_, set_q0 HQ2.out, row_keep HRow2.out (fun g hg => hos.block g (HRow2.out.lt g hg).2 (fun e => ?_)), HS2.out, HG2.out⟩
      subst e
      rcases HRow2.out.2 with ⟨hv, _⟩ | ⟨g', cap, cur, hv, _, hh, _⟩
      · rw [hv] at hg; cases hg
      · rw [hv] at hg
        injection hg with hg
        subst hg
        rw [HQ2.out] at hh
        cases hh
end Go.Proofs.YtmfabpkliogjlaaWin
end
section
namespace Go.Proofs.YtmfabpkliogjlaaWin
open Go.RowKit Go.Lib
set_option linter.unusedSimpArgs false
set_option linter.unusedVariables false
theorem own_ne {W : World} {q base t c k : Nat} {v : Value} {xs cs : List Value} {cs' : Array Value} {t' : TypeId} {f : Nat × Nat} (hq : W.heap[q]? = some (.cells cs' t' f)) (h : W.ownsRow base t c v k xs) (ht : t ≠ t') {g : Nat} (hg : v.ownBlock = some g) : g ≠ q := by
  rintro rfl
  rcases h.2 with ⟨hv, _⟩ | ⟨g', cap, cur, hv, _, hh, _⟩
  · rw [hv] at hg; cases hg
  · rw [hv] at hg
    injection hg with hg
    subst hg
    rw [hq] at hh
    injection hh with hh
    injection hh with _ hh _
    exact ht hh.symm
set_option maxRecDepth 100000 in
set_option maxHeartbeats 1000000 in
theorem RPut_calls {q : Nat} {nx sz : Int} {hs : Things} {S : Nat → Prop} (w : World) (h : RefAt w q nx sz hs S) (hl : hs.length ≤ 2000000) (h0 : 0 ≤ nx) (x v : Int) (hf : Fits x) : Calls Try.prog 38 #[.pointer (some ⟨q, 0, none⟩), .int .i64 x, .int .i64 v] w fun e w' =>
    e = .returned (.int .i64 (putE nx sz (look hs) x)) ∧ RefAt w' q nx sz (if putE nx sz (look hs) x = 0 then hs ++ [(x, v)] else hs) (fun k => S k ∨ w.heap.size ≤ k) ∧ Only S w w' := by
  obtain ⟨i103, hi0, hz0, hz1, hz2⟩ := info103
  have hx := wf64 hf
  obtain ⟨A, c, hq, hrow, hSq, hSg, _⟩ := h.open_
  have c0 : w.cell? ⟨q, 0, none⟩ = some (.int .i64 nx) := cell_of hq 0
  have c1 : w.cell? ⟨q, 1, none⟩ = some (.int .i64 sz) := cell_of hq 1
  have HH := Lib.hid h
  have HQ := Lib.hid hq
  have HRW := Lib.hid hrow
  have HSq := Lib.hid hSq
  have HSg := Lib.hid hSg
  obtain ⟨r, hr⟩ : ∃ r : Int, r = putE nx sz (look hs) x := ⟨_, rfl⟩
  rw [← hr]
  have HR := Lib.hid hr
  obtain ⟨hs', hh⟩ : ∃ hs', hs' = if r = 0 then hs ++ [(x, v)] else hs := ⟨_, rfl⟩
  rw [← hh]
  have HS' := Lib.hid hh
  clear hr hq hrow hSq hSg hh
  by_cases q1 : x < nx
  · have d1 : decide (x < nx) = true := decide_eq_true q1
    have hr1 := Lib.hid (show r = 130 by rw [HR.out]; unfold putE; rw [if_pos q1])
    clear h
    go_enter Try.func38, Try.ntmps38
    go_wp2
    go_ret
    refine ⟨by rw [hr1.out]; rfl, ?_, Only.refl _ _⟩
    rw [HS'.out, if_neg (by rw [hr1.out]; decide)]
    exact HH.out.mono (fun k hk => .inl hk)
  have d1 : decide (x < nx) = false := decide_eq_false q1
  have v1 : wrap64 (x - nx) = x - nx := IntWalk.wrap64_in _ ⟨by omega, by omega⟩
  have v2 : IntKind.i64.wrap (x - nx) = x - nx := (IntWalk.i64_left _).trans v1
  by_cases q2 : x - nx ≥ sz
  · have d2 : decide (sz ≤ x - nx) = true := decide_eq_true q2
    have hr1 := Lib.hid (show r = 132 by rw [HR.out]; unfold putE; rw [if_neg q1, if_pos q2])
    clear h
    go_enter Try.func38, Try.ntmps38
    go_wp2
    go_quiet (fail)
    rename_i nq
    have hq' : Below w.heap.size w (w.drewN nq) := ⟨rfl, rfl, rfl, Nat.le_refl _, fun k _ => rfl⟩
    go_wp2
    go_ret
    refine ⟨by rw [hr1.out]; rfl, ?_, Only.of_below hq'⟩
    rw [HS'.out, if_neg (by rw [hr1.out]; decide)]
    exact (HH.out.below hq').mono (fun k hk => .inl hk)
  have d2 : decide (sz ≤ x - nx) = false := decide_eq_false q2
  have Q1 := Lib.hid q1
  have Q2 := Lib.hid q2
  clear h q1 q2
  go_enter Try.func38, Try.ntmps38
  go_wp2
  go_quiet (fail)
  rename_i nq
  have hq' : Below w.heap.size w (w.drewN nq) := ⟨rfl, rfl, rfl, Nat.le_refl _, fun k _ => rfl⟩
  obtain ⟨X, hX⟩ : ∃ X, X = w.drewN nq := ⟨_, rfl⟩
  rw [← hX] at hq' ⊢
  have hsz : X.heap.size = w.heap.size := by rw [hX]; rfl
  have hHX := HH.out.below hq'
  have hqX : X.heap[q]? = _ := (hq'.block q HH.out.lt).trans HQ.out
  have hrX : X.ownsRow 0 103 2 (.slice A hs.length c) hs.length (flatT hs) := row_keep HRW.out (fun g hg => hq'.block g (HRW.out.lt g hg).2)
  have ha := at_calls X hHX hl x
  have HQX := Lib.hid hqX
  have HRX := Lib.hid hrX
  have HHX := Lib.hid hHX
  have HSZ := Lib.hid hsz
  have HB := Lib.hid hq'
  clear hX hq' hsz hHX hqX hrX c0 c1 v1 v2
  go_upto_region 6 with (go_at_call 52; refine ha.mono ?_; rintro e w' ⟨hw, ⟨hlk, rfl⟩ | ⟨i, hi, hix, hlk, rfl⟩⟩ <;> subst hw)
  · have hr1 := Lib.hid (show r = 0 by rw [HR.out]; unfold putE; rw [if_neg (show ¬ x < nx by have := Q1.out; omega), if_neg (show ¬ x - nx ≥ sz by have := Q2.out; omega), hlk]; rfl)
    have c2 := cell_of HQX.out 2
    have HL := Lib.hid hlk
    have hrow3 := HRX.out.alloc (.cells #[.int .i64 x, .int .i64 v] 103)
    have hW3 := World.alloc_heap_new w' (.cells #[.int .i64 x, .int .i64 v] 103)
    have hcn : ∀ j u, (cellsT (x, v))[j]? = some u → (w'.alloc (.cells #[.int .i64 x, .int .i64 v] 103)).cell? ((⟨w'.heap.size, 0, none⟩ : Addr).add j) = some u := by
      intro j u hj
      have e : (⟨w'.heap.size, 0, none⟩ : Addr).add j = ⟨w'.heap.size, j, none⟩ := by simp [Addr.add]; exact fun e => e.symm
      rw [e, cell_of hW3]
      match j, hj with
      | 0, hj => exact hj
      | 1, hj => exact hj
    have HCN := Lib.hid hcn
    clear hcn hW3 hlk
    go_wp2_with (first
      | (at_builtin; refine wpList_append_lies _ rfl _ _ 98 rfl 0 103 i103 (.agg #[.int .i64 0, .int .i64 0]) 2 16 Try.underlying98 hi0 hz0 hz1 hz2 rfl (by decide) _ _ (flatT hs) rfl hrow3 ⟨w'.heap.size, 0, none⟩ 1 1 (cellsT (x, v)) rfl rfl HCN.out ?c2 (by decide) ?c3 ?c4 ?c5 _ rfl ?_)
      | go_in)
    case c2 => intro u hu; simp [cellsT] at hu; rcases hu with rfl | rfl <;> rfl
    case c3 => unfold maxLen; omega
    case c4 => omega
    case c5 => exact Nat.zero_le _
    · intro g' cap'' w2 hown2 hgrow hloc hglt
      have hqa : (w'.alloc (.cells #[.int .i64 x, .int .i64 v] 103)).heap[q]? = _ := (Below.heap_alloc _ _ _ HHX.out.lt).trans HQX.out
      have hq2 : w2.heap[q]? = _ := (hgrow.block q (Array.getElem?_eq_some_iff.1 hqa).1 (fun e => own_ne (cs := []) hqa hrow3 (by decide) e.symm rfl)).trans hqa
      have f2 := frozen_of hq2 2
      have e2 := cell_of hq2 2
      have HQ2 := Lib.hid hq2
      have HO2 := Lib.hid hown2
      have HGR := Lib.hid hgrow
      have HLOC := Lib.hid hloc
      clear hqa hq2 hown2 hgrow hloc hglt hrow3
      go_wp2
      go_ret
      have hos : Only (fun k => k = q) w2 (w2.setCell ⟨q, 2, none⟩ (.slice (some ⟨g', 0, none⟩) (hs.length + 1) cap'')) := Only.setCell _ _ _ _ rfl
      refine ⟨by rw [hr1.out]; rfl, ?_, ?_⟩
      · rw [HS'.out, if_pos hr1.out]
        refine ⟨_, set_q2 HQ2.out, ?_, .inl HSq.out, ?_⟩
        · rw [List.length_append, flatT_snoc]
          exact row_keep HO2.out (fun g hg => hos.block g (HO2.out.lt g hg).2 (own_ne (cs := []) HQ2.out HO2.out (by decide) hg))
        · intro g hg
          injection hg with hg
          subst hg
          rcases HLOC.out with e | e
          · exact .inl (HSg.out _ e)
          · refine .inr ?_
            have h := HSZ.out
            simp at e ⊢
            omega
      · have h1 : Only S w w' := Only.of_below HB.out
        have h2 : Only S w' w2 := by
          refine ⟨HGR.out.os, HGR.out.tape, HGR.out.output, Nat.le_trans (by simp) HGR.out.size, fun k hk hn => ?_⟩
          exact (HGR.out.block k (by simp; omega) (fun e => hn (HSg.out _ e.symm))).trans (Below.heap_alloc _ _ _ hk)
        exact (h1.trans h2).trans (hos.mono (fun k hk => by rw [hk]; exact HSq.out))
  · have hr1 := Lib.hid (show r = 131 by rw [HR.out]; unfold putE; rw [if_neg (show ¬ x < nx by have := Q1.out; omega), if_neg (show ¬ x - nx ≥ sz by have := Q2.out; omega), hlk]; rfl)
    have d : decide (0 ≤ (i : Int)) = true := decide_eq_true (by omega)
    clear hix hlk
    go_wp2
    go_ret
    refine ⟨by rw [hr1.out]; rfl, ?_, Only.of_below HB.out⟩
    rw [HS'.out, if_neg (by rw [hr1.out]; decide)]
    exact HHX.out.mono (fun k hk => .inl hk)
end Go.Proofs.YtmfabpkliogjlaaWin
end
section
namespace Go.Proofs.YtmfabpkliogjlaaWin
open Go.RowKit Go.Lib
set_option linter.unusedSimpArgs false
set_option linter.unusedVariables false
theorem info3 : ∃ i, Try.prog.info? 3 = some i ∧ i.zero = some (.int .i64 0) ∧ i.size = 1 ∧ i.bytes = 8 := by
  have h : (Try.prog.info? 3).map (fun i => (i.zero, i.size, i.bytes)) = some (some (.int .i64 0), 1, 8) := by kernel_rfl
  cases hi : Try.prog.info? 3 with
  | none => rw [hi] at h; cases h
  | some i =>
    rw [hi] at h
    simp at h
    exact ⟨i, rfl, h.1, h.2.1, h.2.2⟩
theorem nodup_len {β : Type} : ∀ (l k : List β), l.Nodup → (∀ x ∈ l, x ∈ k) → l.length ≤ k.length := by
  classical
  intro l
  induction l with
  | nil => intro k _ _; exact Nat.zero_le _
  | cons a l ih =>
    intro k hn hs
    have ha := hs a (List.mem_cons_self ..)
    have hn' := List.nodup_cons.1 hn
    have h1 := ih (k.erase a) hn'.2 (fun x hx => (List.mem_erase_of_ne (fun e => hn'.1 (by rw [← e]; exact hx))).2 (hs x (List.mem_cons_of_mem _ hx)))
    have h2 := List.length_erase_of_mem ha
    have h3 : 0 < k.length := List.length_pos_of_mem ha
    simp
    omega
def intsV (l : List Int) : List Value := l.map (Value.int .i64)
structure Told (hs : Things) (last : Int) (ms : List Int) : Prop where
  rise : ms.Pairwise (· < ·)
  mem : ∀ x, x ∈ ms ↔ (x ∈ hs.map (·.1) ∧ x ≤ last)
theorem Told.len {hs : Things} (hk : Keys hs) {last : Int} {ms : List Int} (h : Told hs last ms) : ms.length ≤ hs.length := by
  have hn : ms.Nodup := h.rise.imp (fun h => by omega)
  have := nodup_len ms (hs.map (·.1)) hn (fun x hx => ((h.mem x).1 hx).1)
  simpa using this
theorem Told.next {hs : Things} {last : Int} {ms : List Int} (h : Told hs last ms) (h0 : ∀ y ∈ hs, 0 ≤ y.1) (hb : 0 ≤ best hs last (-1)) : Told hs (best hs last (-1)) (ms ++ [best hs last (-1)]) ∧ above hs (best hs last (-1)) < above hs last := by
  rcases best_law last hs h0 with ⟨e, _⟩ | ⟨_, h2, h3, h4⟩
  · omega
  generalize best hs last (-1) = q at *
  refine ⟨⟨?_, ?_⟩, above_lt h2 h3⟩
  · rw [List.pairwise_append]
    refine ⟨h.rise, by simp, fun a ha b hb => ?_⟩
    have := ((h.mem a).1 ha).2
    rw [List.mem_singleton.1 hb]
    omega
  · intro x
    rw [List.mem_append, h.mem, List.mem_singleton]
    constructor
    · rintro (⟨h5, h6⟩ | rfl)
      · exact ⟨h5, by omega⟩
      · exact ⟨h2, Int.le_refl _⟩
    · rintro ⟨h5, h6⟩
      obtain ⟨y, hy, rfl⟩ := List.mem_map.1 h5
      rcases h4 y hy with h7 | h7
      · exact .inl ⟨h5, h7⟩
      · exact .inr (by omega)
theorem Told.done {hs : Things} {last : Int} {ms : List Int} (h : Told hs last ms) (h0 : ∀ y ∈ hs, 0 ≤ y.1) (hb : best hs last (-1) < 0) : ∀ x, x ∈ ms ↔ x ∈ hs.map (·.1) := by
  intro x
  rw [h.mem]
  refine ⟨fun h => h.1, fun hx => ⟨hx, ?_⟩⟩
  rcases best_law last hs h0 with ⟨_, h2⟩ | ⟨h1, _⟩
  · obtain ⟨y, hy, rfl⟩ := List.mem_map.1 hx
    exact h2 y hy
  · omega
theorem best_take {hs : Things} {i : Nat} (hi : i < hs.length) (last : Int) {y : Int × Int} (hy : hs[i] = y) : best (hs.take (i + 1)) last (-1) = if y.1 > last ∧ (best (hs.take i) last (-1) < 0 ∨ y.1 < best (hs.take i) last (-1)) then y.1 else best (hs.take i) last (-1) := by
  rw [List.take_add_one, List.getElem?_eq_getElem hi, hy]
  exact best_snoc _ _ _ _
set_option maxRecDepth 100000 in
set_option maxHeartbeats 2000000 in
theorem RHeld_calls {q : Nat} {nx sz : Int} {hs : Things} {S : Nat → Prop} (w : World) (h : RefAt w q nx sz hs S) (hk : Keys hs) (hl : hs.length ≤ 2000000) (h0 : 0 ≤ nx) (h1 : nx ≤ 10000000) (hge : ∀ y ∈ hs, nx ≤ y.1) : Calls Try.prog 44 #[.pointer (some ⟨q, 0, none⟩)] w fun e w' => ∃ v ms, e = .returned v ∧ w'.ownsRow w.heap.size 3 1 v ms.length (intsV ms) ∧ ms.Pairwise (· < ·) ∧ (∀ x, x ∈ ms ↔ x ∈ hs.map (·.1)) ∧ Below w.heap.size w w' := by
  obtain ⟨i3, hi0, hz0, hz1, hz2⟩ := info3
  have hlt := h.lt
  obtain ⟨A, c, hq, hrow, _, _, hcl⟩ := h.open_
  have c0 : w.cell? ⟨q, 0, none⟩ = some (.int .i64 nx) := cell_of hq 0
  have HQ := Lib.hid hq
  have HC := Lib.hid hcl
  have HK := Lib.hid hk
  have HP := Lib.hid (show ∀ y ∈ hs, 0 ≤ y.1 from fun y hy => by have := hge y hy; omega)
  have HT0 : Hid (Told hs (nx - 1) []) := ⟨List.Pairwise.nil, fun x => ⟨(fun h => by cases h), (fun ⟨h, h2⟩ => by
    obtain ⟨y, hy, rfl⟩ := List.mem_map.1 h
    have := hge y hy
    omega)⟩⟩
  have v1 : wrap64 (nx - 1) = nx - 1 := small64 (by omega) (by omega)
  clear h hq hrow hcl hk hge
  go_enter Try.func44, Try.ntmps44
  go_wp2
  go_loopw [3, 4] (fun v3 v4 wr => ∃ ms last, v4 = .int .i64 last ∧ wr.ownsRow w.heap.size 3 1 v3 ms.length (intsV ms) ∧ Hid (Told hs last ms) ∧ Hid (Below w.heap.size w wr)) (fun _ v4 _ => above hs (RowKit.intOf v4))
  case atStart => exact ⟨[], _, rfl, World.ownsRow_nil _ _ _ _, HT0, Below.refl _ _⟩
  case round =>
    obtain ⟨ms, last, rfl, hown, HT, HB⟩ := hrel
    have hq2 := (HB.out.block q hlt).trans HQ.out
    have c2 := cell_of hq2 2
    clear hq2 c0
    go_upto_block 2 with fail
    go_cut [5, 6, 7] from 13 to 41 (fun v5 v6 v7 wx => v5 = .int .i64 (best hs last (-1)) ∧ wx = wr)
    case first =>
      go_wp2_with fail
      go_loopw [5, 6] (fun v5 v6 wx => ∃ i : Nat, i ≤ hs.length ∧ v6 = .int .i64 (i : Int) ∧ v5 = .int .i64 (best (hs.take i) last (-1)) ∧ wx = wr) (fun _ v6 _ => hs.length - (RowKit.intOf v6).toNat)
      case atStart => exact ⟨0, by omega, rfl, rfl, rfl⟩
      case round =>
        obtain ⟨i, hi, rfl, rfl, rfl⟩ := hrel
        have ib : (i : Int) ≤ 2000000 := by omega
        by_cases hc : i < hs.length
        · have d0 : decide (i < hs.length) = true := decide_eq_true hc
          obtain ⟨g, rfl, _, x0, x1⟩ := HC.out i hc
          have p0 : (0 ≤ (i : Int)) = True := eq_true (by omega)
          have p1 : ((i : Int) < (hs.length : Int)) = True := eq_true (by omega)
          obtain ⟨⟨y1, y2⟩, hy⟩ : ∃ y, hs[i] = y := ⟨_, rfl⟩
          have hbt := best_take hc last hy
          rw [hy] at x0 x1
          dsimp only at x0 x1 hbt
          have hgl : g < w.heap.size := by
            have := x0
            simp only [World.cell?] at this
            rcases Nat.lt_or_ge g w.heap.size with hh | hh
            · exact hh
            · rw [Array.getElem?_eq_none hh] at this
              cases this
          have z0 : wr.cell? ⟨g, i * 2, none⟩ = some (.int .i64 y1) := by
            have e := HB.out.block g hgl
            simp only [World.cell?] at x0 ⊢
            rw [e]; exact x0
          obtain ⟨B, hB⟩ : ∃ B, best (hs.take i) last (-1) = B := ⟨_, rfl⟩
          rw [hB] at hbt ⊢
          have HBB := Lib.hid hB
          have HBT := Lib.hid hbt
          have HCc := Lib.hid hc
          clear x0 x1 hgl hy hbt hB hc
          by_cases e1 : last < y1
          · have d1 : decide (last < y1) = true := decide_eq_true e1
            by_cases e2 : B < 0
            · have d2 : decide (B < 0) = true := decide_eq_true e2
              have HE := Lib.hid (show best (hs.take (i + 1)) last (-1) = y1 by rw [HBT.out, if_pos ⟨e1, .inl e2⟩])
              clear e1 e2
              go_wp2_with fail
              go_roundw
              case rel => exact ⟨i + 1, HCc.out, by go_num, by rw [HE.out], by trivial⟩
              case measure => have := HCc.out; simp [RowKit.intOf]; omega
            · have d2 : decide (B < 0) = false := decide_eq_false e2
              by_cases e3 : y1 < B
              · have d3 : decide (y1 < B) = true := decide_eq_true e3
                have HE := Lib.hid (show best (hs.take (i + 1)) last (-1) = y1 by rw [HBT.out, if_pos ⟨e1, .inr e3⟩])
                clear e1 e2 e3
                go_wp2_with fail
                go_roundw
                case rel => exact ⟨i + 1, HCc.out, by go_num, by rw [HE.out], by trivial⟩
                case measure => have := HCc.out; simp [RowKit.intOf]; omega
              · have d3 : decide (y1 < B) = false := decide_eq_false e3
                have HE := Lib.hid (show best (hs.take (i + 1)) last (-1) = B by rw [HBT.out, if_neg (by omega)])
                clear e1 e2 e3
                go_wp2_with fail
                go_roundw
                case rel => exact ⟨i + 1, HCc.out, by go_num, by rw [HE.out], by trivial⟩
                case measure => have := HCc.out; simp [RowKit.intOf]; omega
          · have d1 : decide (last < y1) = false := decide_eq_false e1
            have HE := Lib.hid (show best (hs.take (i + 1)) last (-1) = B by rw [HBT.out, if_neg (by omega)])
            clear e1
            go_wp2_with fail
            go_roundw
            case rel => exact ⟨i + 1, HCc.out, by go_num, by rw [HE.out], by trivial⟩
            case measure => have := HCc.out; simp [RowKit.intOf]; omega
        · obtain rfl : i = hs.length := by omega
          have d0 : decide (hs.length < hs.length) = false := decide_eq_false hc
          have ht : hs.take hs.length = hs := List.take_length
          rw [ht]
          clear ht hc hi
          go_wp2_with fail
          go_meet
          exact ⟨rfl, rfl⟩
    case rest =>
      obtain ⟨rfl, rfl⟩ := hcut
      have hnx := HT.out.next HP.out
      have hdn := HT.out.done HP.out
      have hml := HT.out.len HK.out
      generalize best hs last (-1) = B at hnx hdn ⊢
      obtain ⟨pp, cap, hv⟩ := row_form hown
      subst hv
      by_cases e : B < 0
      · have d : decide (B < 0) = true := decide_eq_true e
        have HD := Lib.hid (hdn e)
        have HO := Lib.hid hown
        clear hnx hdn e hown
        go_wp2_with fail
        go_ret
        exact ⟨_, ms, rfl, HO.out, HT.out.rise, HD.out, HB.out⟩
      · have d : decide (B < 0) = false := decide_eq_false e
        have HX := Lib.hid (hnx (by omega))
        have b2 := HB.out.size
        have hrow3 := hown.alloc (.cells #[.int .i64 B] 3)
        have hB3 := HB.out.alloc b2 (.cells #[.int .i64 B] 3)
        have hW3 := World.alloc_heap_new wc (.cells #[.int .i64 B] 3)
        have hcn : ∀ j u, ([Value.int .i64 B] : List Value)[j]? = some u → (wc.alloc (.cells #[.int .i64 B] 3)).cell? ((⟨wc.heap.size, 0, none⟩ : Addr).add j) = some u := by
          intro j u hj
          have e : (⟨wc.heap.size, 0, none⟩ : Addr).add j = ⟨wc.heap.size, j, none⟩ := by simp [Addr.add]; exact fun e => e.symm
          rw [e, cell_of hW3]
          match j, hj with
          | 0, hj => exact hj
        have HCN := Lib.hid hcn
        have HB3 := Lib.hid hB3
        clear hcn hW3 hB3 b2 hown hnx hdn e
        go_wp2_with (first
          | (at_builtin; refine wpList_append_lies _ rfl _ _ 29 rfl w.heap.size 3 i3 (.int .i64 0) 1 8 Try.underlying29 hi0 hz0 hz1 hz2 rfl (by decide) _ _ (intsV ms) rfl hrow3 ⟨wc.heap.size, 0, none⟩ 1 1 [Value.int .i64 B] rfl rfl HCN.out ?c2 (by decide) ?c3 ?c4 ?c5 _ rfl ?_)
          | go_in)
        case c2 => intro u hu; simp at hu; rcases hu with rfl; rfl
        case c3 => unfold maxLen; omega
        case c4 => omega
        case c5 => exact HB3.out.size
        · intro g' cap'' w2 hown2 hgrow hloc hglt
          have HB4 : Hid (Below w.heap.size w w2) := below_grown HB3.out (Nat.le_refl _) hgrow (fun j hj => (hrow3.lt j hj).1)
          have HW : Hid (w2.ownsRow w.heap.size 3 1 (.slice (some ⟨g', 0, none⟩) (ms.length + 1) cap'') (ms ++ [B]).length (intsV (ms ++ [B]))) := by
            rw [List.length_append]
            unfold intsV
            rw [List.map_append]
            exact hown2
          clear hown2 hgrow hloc hglt hrow3
          go_wp2
          go_roundw
          case rel => exact ⟨ms ++ [B], B, rfl, HW.out, HX.out.1, HB4⟩
          case measure => exact HX.out.2
end Go.Proofs.YtmfabpkliogjlaaWin
end
section
namespace Go.Proofs.YtmfabpkliogjlaaWin
open Go.RowKit Go.Lib
set_option linter.unusedSimpArgs false
set_option linter.unusedVariables false
def IntsAt (W : World) (v : Value) (l : List Int) (S : Nat → Prop) : Prop :=
  ∃ A c, v = .slice A l.length c ∧ ∀ i (hi : i < l.length), ∃ g cur f, A = some ⟨g, 0, none⟩ ∧ S g ∧ W.heap[g]? = some (.cells cur 3 f) ∧ cur[i]? = some (.int .i64 l[i])
theorem IntsAt.kept {W W' : World} {v : Value} {l : List Int} {S K : Nat → Prop} (h : IntsAt W v l S) (ho : Only K W W') (hd : ∀ k, S k → K k → ∀ cur f, W.heap[k]? ≠ some (.cells cur 3 f)) : IntsAt W' v l S := by
  obtain ⟨A, c, hv, hc⟩ := h
  refine ⟨A, c, hv, fun i hi => ?_⟩
  obtain ⟨g, cur, f, hA, hS, hg, hx⟩ := hc i hi
  exact ⟨g, cur, f, hA, hS, (ho.block g (Array.getElem?_eq_some_iff.1 hg).1 (fun hk => hd g hS hk cur f hg)).trans hg, hx⟩
theorem IntsAt.only {W W' : World} {v : Value} {l : List Int} {S K : Nat → Prop} (h : IntsAt W v l S) (ho : Only K W W') (hd : ∀ k, S k → ¬ K k) : IntsAt W' v l S := h.kept ho (fun k h1 h2 => absurd h2 (hd k h1))
theorem IntsAt.below {W W' : World} {v : Value} {l : List Int} {S : Nat → Prop} (h : IntsAt W v l S) (ho : Below W.heap.size W W') : IntsAt W' v l S := h.only (K := fun _ => False) (Only.of_below ho) (fun _ _ hk => hk)
theorem IntsAt.mono {W : World} {v : Value} {l : List Int} {S S' : Nat → Prop} (h : IntsAt W v l S) (hS : ∀ k, S k → S' k) : IntsAt W v l S' := by
  obtain ⟨A, c, hv, hc⟩ := h
  refine ⟨A, c, hv, fun i hi => ?_⟩
  obtain ⟨g, cur, f, hA, hSg, hg, hx⟩ := hc i hi
  exact ⟨g, cur, f, hA, hS g hSg, hg, hx⟩
theorem IntsAt.cells_ {W : World} {v : Value} {l : List Int} {S : Nat → Prop} (h : IntsAt W v l S) : ∃ A c, v = .slice A l.length c ∧ ∀ i (hi : i < l.length), ∃ g, A = some ⟨g, 0, none⟩ ∧ S g ∧ g < W.heap.size ∧ W.cell? ⟨g, i, none⟩ = some (.int .i64 l[i]) := by
  obtain ⟨A, c, hv, hc⟩ := h
  refine ⟨A, c, hv, fun i hi => ?_⟩
  obtain ⟨g, cur, f, hA, hSg, hg, hx⟩ := hc i hi
  exact ⟨g, hA, hSg, (Array.getElem?_eq_some_iff.1 hg).1, (cell_of hg i).trans hx⟩
theorem IntsAt.of_row {W : World} {base : Nat} {v : Value} {l : List Int} {S : Nat → Prop} (h : W.ownsRow base 3 1 v l.length (intsV l)) (hS : ∀ g, v.ownBlock = some g → S g) : IntsAt W v l S := by
  rcases h.2 with ⟨hv, h0⟩ | ⟨g, cap, cur, hv, hbg, hh, hnc, hcm, hcs, htake⟩
  · subst hv
    exact ⟨none, 0, by rw [h0], fun i hi => by omega⟩
  · subst hv
    refine ⟨_, cap, rfl, fun i hi => ⟨g, cur, _, rfl, hS g rfl, hh, ?_⟩⟩
    have hx : (intsV l)[i]? = some (.int .i64 l[i]) := by simp [intsV, hi]
    rw [← htake, List.getElem?_take, if_pos (by omega), Array.getElem?_toList] at hx
    exact hx
theorem IntsAt.of_cells {W : World} {g c : Nat} {cur : Array Value} {f : Nat × Nat} {l : List Int} {S : Nat → Prop} (hS : S g) (hg : W.heap[g]? = some (.cells cur 3 f)) (hx : ∀ i (hi : i < l.length), cur[i]? = some (.int .i64 l[i])) : IntsAt W (.slice (some ⟨g, 0, none⟩) l.length c) l S :=
  ⟨_, c, rfl, fun i hi => ⟨g, cur, f, rfl, hS, hg, hx i hi⟩⟩
theorem take_eq_snoc {l m : List Int} {i : Nat} (h1 : i < l.length) (h2 : i < m.length) (h : l.take i = m.take i) (e : l[i] = m[i]) : l.take (i + 1) = m.take (i + 1) := by
  rw [List.take_add_one, List.take_add_one, h, List.getElem?_eq_getElem h1, List.getElem?_eq_getElem h2, e]
set_option maxRecDepth 100000 in
set_option maxHeartbeats 1000000 in
theorem same_calls {l m : List Int} {v u : Value} {S T : Nat → Prop} (w : World) (hv : IntsAt w v l S) (hu : IntsAt w u m T) (hl : l.length ≤ 4000000) : Calls Try.prog 43 #[v, u] w fun e w' => e = .returned (.bool (decide (l = m))) ∧ Below w.heap.size w w' := by
  obtain ⟨A, c, rfl, hc⟩ := hv.cells_
  obtain ⟨B, d, rfl, hd⟩ := hu.cells_
  obtain ⟨r, hr⟩ : ∃ r, r = decide (l = m) := ⟨_, rfl⟩
  rw [← hr]
  have HR := Lib.hid hr
  have HC := Lib.hid hc
  have HD := Lib.hid hd
  clear hr hc hd
  by_cases hlm : l.length = m.length
  · have e1 : ((l.length : Int) == (m.length : Int)) = true := by simp [hlm]
    have e1' : (l.length == m.length) = true := by simp [hlm]
    have e2 : ((l.length : Int) != (m.length : Int)) = false := by simp [hlm]
    have e2' : (l.length != m.length) = false := by simp [hlm]
    have HL := Lib.hid hlm
    clear hlm
    go_enter Try.func43, Try.ntmps43
    go_wp2
    go_loopw [5] (fun v5 wr => ∃ i : Nat, i ≤ l.length ∧ v5 = .int .i64 (i : Int) ∧ Hid (l.take i = m.take i) ∧ Hid (Below w.heap.size w wr)) (fun v5 _ => l.length - (RowKit.intOf v5).toNat)
    case atStart => exact ⟨0, by omega, rfl, rfl, Below.refl _ _⟩
    case round =>
      obtain ⟨i, hi, rfl, HT, HB⟩ := hrel
      have ib : (i : Int) ≤ 4000000 := by omega
      by_cases hc : i < l.length
      · have d0 : decide (i < l.length) = true := decide_eq_true hc
        have hc2 : i < m.length := by have := HL.out; omega
        obtain ⟨g, rfl, _, hg, x0⟩ := HC.out i hc
        obtain ⟨g2, rfl, _, hg2, y0⟩ := HD.out i hc2
        have p0 : (0 ≤ (i : Int)) = True := eq_true (by omega)
        have p1 : ((i : Int) < (l.length : Int)) = True := eq_true (by omega)
        have p2 : ((i : Int) < (m.length : Int)) = True := eq_true (by omega)
        have hts := take_eq_snoc hc hc2 HT.out
        obtain ⟨x, hx⟩ : ∃ x, l[i] = x := ⟨_, rfl⟩
        obtain ⟨y, hy⟩ : ∃ y, m[i] = y := ⟨_, rfl⟩
        have hne : l = m → x = y := by
          intro e
          subst e
          rw [← hx, ← hy]
        rw [hx] at x0 hts
        rw [hy] at y0 hts
        have x1 : wr.cell? ⟨g, i, none⟩ = some (.int .i64 x) := by
          have e := HB.out.block g hg
          simp only [World.cell?] at x0 ⊢
          rw [e]; exact x0
        have y1 : wr.cell? ⟨g2, i, none⟩ = some (.int .i64 y) := by
          have e := HB.out.block g2 hg2
          simp only [World.cell?] at y0 ⊢
          rw [e]; exact y0
        have HCc := Lib.hid hc
        have HTS := Lib.hid hts
        have HNE := Lib.hid hne
        have HBq : Hid (∀ nq, Below w.heap.size w (wr.drewN nq)) := fun nq => HB.out.trans ⟨rfl, rfl, rfl, Nat.le_refl _, fun k _ => rfl⟩
        clear x0 y0 hx hy hts hne hc hc2 hg hg2
        by_cases e : x = y
        · have f1 : (x == y) = true := beq_iff_eq.2 e
          have f2 : (x != y) = false := by simp [e]
          have HE := Lib.hid (HTS.out e)
          clear e
          go_wp2
          go_quiet (fail)
          rename_i nq
          go_wp2
          go_roundw
          case rel => exact ⟨i + 1, HCc.out, by go_num, HE, HBq.out nq⟩
          case measure => have := HCc.out; simp [RowKit.intOf]; omega
        · have f1 : (x == y) = false := beq_eq_false_iff_ne.2 e
          have f2 : (x != y) = true := by simp [e]
          have HE := Lib.hid (show r = false by rw [HR.out]; exact decide_eq_false (fun h => e (HNE.out h)))
          clear e
          go_wp2
          go_quiet (fail)
          rename_i nq
          go_wp2
          go_ret
          exact ⟨by rw [HE.out]; rfl, HBq.out nq⟩
      · obtain rfl : i = l.length := by omega
        have d0 : decide (l.length < l.length) = false := decide_eq_false hc
        have HE := Lib.hid (show r = true by
          rw [HR.out]
          refine decide_eq_true ?_
          have h1 := HT.out
          rw [List.take_length, List.take_of_length_le (by have := HL.out; omega)] at h1
          exact h1)
        clear hc hi
        go_wp2
        go_ret
        exact ⟨by rw [HE.out]; rfl, HB.out⟩
  · have e1 : ((l.length : Int) == (m.length : Int)) = false := beq_eq_false_iff_ne.2 (by omega)
    have e1' : (l.length == m.length) = false := beq_eq_false_iff_ne.2 hlm
    have e2 : ((l.length : Int) != (m.length : Int)) = true := by simp; omega
    have e2' : (l.length != m.length) = true := by simp [hlm]
    have HE := Lib.hid (show r = false by rw [HR.out]; exact decide_eq_false (fun h => hlm (by rw [h])))
    clear hlm
    go_enter Try.func43, Try.ntmps43
    go_wp2
    go_ret
    exact ⟨by rw [HE.out]; rfl, Below.refl _ _⟩
end Go.Proofs.YtmfabpkliogjlaaWin
end
section
namespace Go.Proofs.YtmfabpkliogjlaaWin
open Go.RowKit Go.Lib
set_option linter.unusedSimpArgs false
set_option linter.unusedVariables false
def HeldAt (W : World) (hb : Nat) (cs : List (List Int)) (S T : Nat → Prop) : Prop :=
  ∃ v1 v2 gs ws, W.heap[hb]? = some (.cells #[v1, v2] 59 (0, 0)) ∧ S hb ∧ W.ownsRow 0 29 1 v1 gs.length gs ∧ W.ownsRow 0 29 1 v2 ws.length ws ∧ (∀ g, v1.ownBlock = some g → S g) ∧ (∀ g, v2.ownBlock = some g → S g) ∧ gs.length = cs.length ∧ ws.length = cs.length ∧ (∀ g, v1.ownBlock = some g → v2.ownBlock ≠ some g) ∧
    ∀ i (hi : i < cs.length), ∃ a b, gs[i]? = some a ∧ ws[i]? = some b ∧ IntsAt W a cs[i] T ∧ IntsAt W b cs[i] T
theorem HeldAt.lt {W : World} {hb : Nat} {cs : List (List Int)} {S T : Nat → Prop} (h : HeldAt W hb cs S T) : hb < W.heap.size := by
  obtain ⟨_, _, _, _, h1, _⟩ := h
  exact (Array.getElem?_eq_some_iff.1 h1).1
theorem HeldAt.only {W W' : World} {hb : Nat} {cs : List (List Int)} {S T K : Nat → Prop} (h : HeldAt W hb cs S T) (ho : Only K W W') (h1 : ∀ k, S k → ¬ K k) (h2 : ∀ k, T k → ¬ K k) : HeldAt W' hb cs S T := by
  obtain ⟨v1, v2, gs, ws, e1, e2, e3, e4, e5, e6, e7, e8, eD, e9⟩ := h
  refine ⟨v1, v2, gs, ws, (ho.block hb (Array.getElem?_eq_some_iff.1 e1).1 (h1 hb e2)).trans e1, e2, row_keep e3 (fun g hg => ho.block g (e3.lt g hg).2 (h1 g (e5 g hg))), row_keep e4 (fun g hg => ho.block g (e4.lt g hg).2 (h1 g (e6 g hg))), e5, e6, e7, e8, eD, fun i hi => ?_⟩
  obtain ⟨a, b, f1, f2, f3, f4⟩ := e9 i hi
  exact ⟨a, b, f1, f2, f3.only ho h2, f4.only ho h2⟩
theorem HeldAt.below {W W' : World} {hb : Nat} {cs : List (List Int)} {S T : Nat → Prop} (h : HeldAt W hb cs S T) (ho : Below W.heap.size W W') : HeldAt W' hb cs S T := h.only (K := fun _ => False) (Only.of_below ho) (fun _ _ hk => hk) (fun _ _ hk => hk)
theorem HeldAt.mono {W : World} {hb : Nat} {cs : List (List Int)} {S T S' T' : Nat → Prop} (h : HeldAt W hb cs S T) (hS : ∀ k, S k → S' k) (hT : ∀ k, T k → T' k) : HeldAt W hb cs S' T' := by
  obtain ⟨v1, v2, gs, ws, e1, e2, e3, e4, e5, e6, e7, e8, eD, e9⟩ := h
  refine ⟨v1, v2, gs, ws, e1, hS _ e2, e3, e4, fun g hg => hS _ (e5 g hg), fun g hg => hS _ (e6 g hg), e7, e8, eD, fun i hi => ?_⟩
  obtain ⟨a, b, f1, f2, f3, f4⟩ := e9 i hi
  exact ⟨a, b, f1, f2, f3.mono hT, f4.mono hT⟩
theorem row_val {w : World} {base k : Nat} {t : TypeId} {v : Value} {xs : List Value} (h : w.ownsRow base t 1 v k xs) {j : Nat} {u : Value} (hj : xs[j]? = some u) : ∃ g cap, v = .slice (some ⟨g, 0, none⟩) k cap ∧ w.cell? ⟨g, j, none⟩ = some u := by
  have hlt := (List.getElem?_eq_some_iff.1 hj).1
  have hl := h.1
  rcases h.2 with ⟨_, h0⟩ | ⟨g, cap, cur, hv, hbg, hh, hnc, hcm, hcs, htake⟩
  · omega
  · refine ⟨g, cap, hv, ?_⟩
    rw [cell_of hh]
    rw [← htake, List.getElem?_take, if_pos (by omega), Array.getElem?_toList] at hj
    exact hj
set_option maxRecDepth 100000 in
set_option maxHeartbeats 1000000 in
theorem hold_calls {hb : Nat} {cs : List (List Int)} {S T : Nat → Prop} (w : World) (h : HeldAt w hb cs S T) (hn : cs.length ≤ 1000) (hl : ∀ c ∈ cs, c.length ≤ 4000000) : Calls Try.prog 27 #[.pointer (some ⟨hb, 0, none⟩)] w fun e w' => e = .returned (.bool true) ∧ Below w.heap.size w w' := by
  have HH := Lib.hid h
  have HL := Lib.hid hl
  clear h hl
  go_enter Try.func27, Try.ntmps27
  go_wp2
  go_loopw [3] (fun v3 wr => ∃ i : Nat, i ≤ cs.length ∧ v3 = .int .i64 (i : Int) ∧ Hid (Below w.heap.size w wr)) (fun v3 _ => cs.length - (RowKit.intOf v3).toNat)
  case atStart => exact ⟨0, by omega, rfl, Below.refl _ _⟩
  case round =>
    obtain ⟨i, hi, rfl, HB⟩ := hrel
    have ib : (i : Int) ≤ 1000 := by omega
    obtain ⟨v1, v2, gs, ws, e1, e2, e3, e4, e5, e6, e7, e8, eD, e9⟩ := HH.out.below HB.out
    obtain ⟨A, c1, hv1⟩ := row_form e3
    obtain ⟨B, c2, hv2⟩ := row_form e4
    subst hv1
    subst hv2
    rw [e7] at e1 e3
    rw [e8] at e1 e4
    have x0 := cell_of e1 0
    have x1 := cell_of e1 1
    have E3 := Lib.hid e3
    have E4 := Lib.hid e4
    have E9 := Lib.hid e9
    clear e1 e2 e3 e4 e5 e6 e7 e8 eD e9
    by_cases hc : i < cs.length
    · have d0 : decide (i < cs.length) = true := decide_eq_true hc
      obtain ⟨a, b, f1, f2, f3, f4⟩ := E9.out i hc
      obtain ⟨g1, c1', hw1, y1⟩ := row_val E3.out f1
      obtain ⟨g2, c2', hw2, y2⟩ := row_val E4.out f2
      injection hw1 with hw1 _ hcc1
      injection hw2 with hw2 _ hcc2
      subst hw1 hw2 hcc1 hcc2
      have p0 : (0 ≤ (i : Int)) = True := eq_true (by omega)
      have p1 : ((i : Int) < (cs.length : Int)) = True := eq_true (by omega)
      have hs := same_calls wr.drew (f3.below (Below.refl _ wr).drew) (f4.below (Below.refl _ wr).drew) (HL.out _ (List.getElem_mem hc))
      rw [decide_eq_true rfl] at hs
      obtain ⟨X, hX⟩ : ∃ X, X = wr.drew := ⟨_, rfl⟩
      have HBX : Hid (Below w.heap.size w X) := by rw [hX]; exact HB.out.drew
      have z0 := (show X.cell? ⟨hb, 0, none⟩ = wr.cell? ⟨hb, 0, none⟩ by rw [hX]; rfl).trans x0
      have z1 := (show X.cell? ⟨hb, 1, none⟩ = wr.cell? ⟨hb, 1, none⟩ by rw [hX]; rfl).trans x1
      have u1 : X.cell? ⟨g1, i, none⟩ = some a := by rw [hX]; exact y1
      have u2 : X.cell? ⟨g2, i, none⟩ = some b := by rw [hX]; exact y2
      obtain ⟨A1, k1, ha, _⟩ := f3
      obtain ⟨B1, k2, hbv, _⟩ := f4
      rw [← hX] at hs
      subst ha
      subst hbv
      have HCc := Lib.hid hc
      have HSm := Lib.hid hs
      have HXX := Lib.hid hX
      clear x1 y1 y2 f1 f2 hs hX
      go_upto_region 4 with fail
      refine wp_region_still_tail 14 (by kernel_rfl) (by kernel_rfl) ?_
      simp only [List.take_succ_cons, List.take_zero, List.drop_succ_cons, List.drop_zero]
      change wpStill _ _ (World.drew wr) (fun a' => wpList _ _ _ _ a' (World.drew wr)) _ _
      rw [← HXX.out]
      clear x0
      still_step
      still_step
      still_step
      still_step
      still_step
      still_step
      still_step
      still_step
      still_step
      still_step
      still_step
      still_step
      still_step
      still_step
      refine wpStill_nil ?_
      go_wp2_with (go_at_call 43; refine HSm.out.mono ?_; rintro e w3 ⟨rfl, hb3⟩)
      have HB3 := Lib.hid (HBX.out.trans (hb3.mono HBX.out.size))
      clear hb3
      go_roundw
      case rel => exact ⟨i + 1, HCc.out, by go_num, HB3⟩
      case measure => have := HCc.out; simp [RowKit.intOf]; omega
    · obtain rfl : i = cs.length := by omega
      have d0 : decide (cs.length < cs.length) = false := decide_eq_false hc
      clear hc hi
      go_wp2
      go_ret
      exact ⟨rfl, HB.out⟩
end Go.Proofs.YtmfabpkliogjlaaWin
end
section
namespace Go.Proofs.YtmfabpkliogjlaaWin
open Go.RowKit
section
variable {P : Program} (w : World)
theorem run_append_elder (base : Nat) (t ty e : TypeId) (i : TypeInfo) (z : Value) (size bytes : Nat) (ht : P.underlying t = some (.slice e)) (hi : P.info? e = some i) (hz : i.zero = some z)
    (hsize : i.size = size) (hby : i.bytes = bytes) (hzs : z.cells.size = size) (hsz : 0 < size)
    (v : Value) (n : Nat) (xs : List Value) (hown : w.ownsRow base e size v n xs)
    (a : Addr) (m c : Nat) (news : List Value) (hl : news.length = m * size) (hnews : ∀ j u, news[j]? = some u → w.cell? (a.add j) = some u) (h1 : ∀ u ∈ news, u.oneCell' = true)
    (h63 : n + m ≤ maxLen) (hbytes : (n + m) * bytes ≤ 140737488355328) (hbase : base ≤ w.heap.size) :
    ∃ v' w', (Builtin.append_ #[t, t] ty #[v, .slice (some a) m c]).run P w = .ok v' w' ∧ w'.ownsRow base e size v' (n + m) (xs ++ news) ∧ w.grownBy w' v.ownBlock ∧
      (v'.ownBlock = v.ownBlock ∨ v'.ownBlock = some w.heap.size) ∧ ∀ g, v.ownBlock = some g → ∃ cur, w'.heap[g]? = some (.cells cur e (0, 0)) ∧ ∀ (j : Nat) (u : Value), xs[j]? = some u → cur[j]? = some u := by
  obtain ⟨v', w', hr, h2, h3, _, h5⟩ := run_append_own_at (P := P) w base t ty e i z size bytes ht hi hz hsize hby hzs hsz v n xs hown a m c news hl hnews h1 h63 hbytes hbase
  refine ⟨v', w', hr, h2, h3, h5, fun g0 hg0 => ?_⟩
  subst hsize
  subst hby
  rcases hown.2 with ⟨rfl, _⟩ | ⟨g, cap, cur, rfl, hbg, hg, hnc, hcm, hcs, htake⟩
  · simp [Value.ownBlock] at hg0
  · have hgg : g = g0 := by simpa [Value.ownBlock] using hg0
    subst hgg
    have hold : ∀ (j : Nat) (u : Value), xs[j]? = some u → cur[j]? = some u := by
      intro j u hj
      have hjl : j < xs.length := (List.getElem?_eq_some_iff.1 hj).1
      rw [← htake, List.getElem?_take, if_pos (by have := hown.1; omega), Array.getElem?_toList] at hj
      exact hj
    by_cases hroom : n + m ≤ cap
    · have hfit : n * i.size + news.length ≤ cur.size := by rw [hl, hcs, ← Nat.add_mul]; exact Nat.mul_le_mul_right _ hroom
      have hr2 := run_append_room (P := P) w t ty e i ht hi g n cap cur hg a m c news hl hnews h1 hroom hfit
      rw [hr] at hr2
      injection hr2 with e1 e2
      subst e1
      subst e2
      rcases h2.2 with ⟨hv, _⟩ | ⟨g', cap', cur', hv, _, hg', _, _, _, ht'⟩
      · cases hv
      · have ha : g = g' := by
          injection hv with h1 _ _
          injection h1 with h1
          injection h1
        subst ha
        refine ⟨cur', hg', fun j u hj => ?_⟩
        have hjl : j < xs.length := (List.getElem?_eq_some_iff.1 hj).1
        have h6 := congrArg (fun l => l[j]?) ht'
        have hln : j < (n + m) * i.size := by
          have := hown.1
          rw [Nat.add_mul]
          omega
        rw [List.getElem?_take, if_pos hln, List.getElem?_append_left hjl, Array.getElem?_toList] at h6
        rw [h6]
        exact hj
    · have holds : ∀ j u, xs[j]? = some u → w.cell? ((⟨g, 0, none⟩ : Addr).add j) = some u := hown.cells (g := g) rfl
      have hr2 := run_append_grow (P := P) w t ty e i z ht hi hz ⟨g, 0, none⟩ n cap xs hown.1 holds a m c news hl hnews (by omega) (by simp only [maxLen] at h63; omega) (growslice_fits (by omega) hbytes)
      rw [hr] at hr2
      injection hr2 with e1 e2
      subst e2
      have hlt := (Array.getElem?_eq_some_iff.1 hg).1
      exact ⟨cur, (Below.heap_alloc w.drew _ g hlt).trans hg, hold⟩
theorem wp_append_elder {o : Oper} {a : Act} {K : Act → World → Prop} {Q : Exit → Act → World → Prop} (s x : Operand) (t : TypeId)
    (ho : o.op = .call { callee := .builtin .append, args := #[s, x], argTypes := #[t, t] })
    (base : Nat) (e : TypeId) (i : TypeInfo) (z : Value) (size bytes : Nat) (ht : P.underlying t = some (.slice e)) (hi : P.info? e = some i) (hz : i.zero = some z)
    (hsize : i.size = size) (hby : i.bytes = bytes) (hzs : z.cells.size = size) (hsz : 0 < size)
    (v : Value) (n : Nat) (xs : List Value) (hs : a.eval s = v) (hown : w.ownsRow base e size v n xs)
    (ad : Addr) (m c : Nat) (news : List Value) (hx : a.eval x = .slice (some ad) m c) (hl : news.length = m * size) (hnews : ∀ j u, news[j]? = some u → w.cell? (ad.add j) = some u) (h1 : ∀ u ∈ news, u.oneCell' = true)
    (h63 : n + m ≤ maxLen) (hbytes : (n + m) * bytes ≤ 140737488355328) (hbase : base ≤ w.heap.size)
    (h : ∀ v' w', w'.ownsRow base e size v' (n + m) (xs ++ news) → w.grownBy w' v.ownBlock → (v'.ownBlock = v.ownBlock ∨ v'.ownBlock = some w.heap.size) → (∀ g, v.ownBlock = some g → ∃ cur, w'.heap[g]? = some (.cells cur e (0, 0)) ∧ ∀ (j : Nat) (u : Value), xs[j]? = some u → cur[j]? = some u) → K (a.put o.dst v') w') : o.wp P a w K Q := by
  obtain ⟨v', w', hr, h2, h3, h4, h5⟩ := run_append_elder (P := P) w base t o.type e i z size bytes ht hi hz hsize hby hzs hsz v n xs hown ad m c news hl hnews h1 h63 hbytes hbase
  unfold Oper.wp execOp
  simp only [ho, resolve, invoke, builtin, Sem.run_bind, Sem.run_pure, Result.andThen_ok, List.map_toArray, List.map_cons, List.map_nil, hs, hx, hr]
  exact h v' w' h2 h3 h4 h5
theorem step_append_elder {ops : Array Oper} {o : Oper} {a : Act} {K : Act → World → Prop} {Q : Exit → Act → World → Prop} {E : Prop} (hgd : o.guard = none) (s x : Operand) (t : TypeId)
    (ho : o.op = .call { callee := .builtin .append, args := #[s, x], argTypes := #[t, t] })
    (base : Nat) (e : TypeId) (i : TypeInfo) (z : Value) (size bytes : Nat) (ht : P.underlying t = some (.slice e)) (hi : P.info? e = some i) (hz : i.zero = some z)
    (hsize : i.size = size) (hby : i.bytes = bytes) (hzs : z.cells.size = size) (hsz : 0 < size)
    (v : Value) (n : Nat) (xs : List Value) (hs : a.eval s = v) (hown : w.ownsRow base e size v n xs)
    (ad : Addr) (m c : Nat) (news : List Value) (hx : a.eval x = .slice (some ad) m c) (hl : news.length = m * size) (hnews : ∀ j u, news[j]? = some u → w.cell? (ad.add j) = some u) (h1 : ∀ u ∈ news, u.oneCell' = true)
    (h63 : n + m ≤ maxLen) (hbytes : (n + m) * bytes ≤ 140737488355328) (hbase : base ≤ w.heap.size)
    (h : ∀ v' w', w'.ownsRow base e size v' (n + m) (xs ++ news) → w.grownBy w' v.ownBlock → (v'.ownBlock = v.ownBlock ∨ v'.ownBlock = some w.heap.size) → (∀ g, v.ownBlock = some g → ∃ cur, w'.heap[g]? = some (.cells cur e (0, 0)) ∧ ∀ (j : Nat) (u : Value), xs[j]? = some u → cur[j]? = some u) → K (a.put o.dst v') w') :
    if Region.wanted o (yielded ops a.tmps) = true then Oper.wp P o a w K Q else E := by
  have hw : Region.wanted o (yielded ops a.tmps) = true := by simp [Region.wanted, hgd]
  rw [if_pos hw]
  exact wp_append_elder w s x t ho base e i z size bytes ht hi hz hsize hby hzs hsz v n xs hs hown ad m c news hx hl hnews h1 h63 hbytes hbase h
end
end Go.Proofs.YtmfabpkliogjlaaWin
end
section
namespace Go.Proofs.YtmfabpkliogjlaaWin
open Go.RowKit Go.Lib
set_option linter.unusedSimpArgs false
set_option linter.unusedVariables false
def repV (n : Nat) (m : Int) : List Value := List.replicate n (.int .i64 m)
theorem repV_ints (n : Nat) (m : Int) : repV n m = intsV (List.replicate n m) := by simp [repV, intsV]
theorem only_grown {W W' : World} {row : Option Nat} (h : W.grownBy W' row) : Only (fun k => row = some k) W W' := ⟨h.os, h.tape, h.output, h.size, fun k hk hn => h.block k hk (fun e => hn e.symm)⟩
theorem own_cells {W : World} {base k c : Nat} {t : TypeId} {v : Value} {xs : List Value} (h : W.ownsRow base t c v k xs) {g : Nat} (hg : v.ownBlock = some g) : ∃ cur, W.heap[g]? = some (.cells cur t (0, 0)) := by
  rcases h.2 with ⟨hv, _⟩ | ⟨g', cap, cur, hv, _, hh, _⟩
  · rw [hv] at hg; cases hg
  · rw [hv] at hg
    injection hg with hg
    subst hg
    exact ⟨cur, hh⟩
theorem IntsAt.of_rep {W : World} {base n : Nat} {v : Value} {m : Int} {S : Nat → Prop} (h : W.ownsRow base 3 1 v n (repV n m)) (hS : ∀ g, v.ownBlock = some g → S g) : IntsAt W v (List.replicate n m) S := by
  refine IntsAt.of_row (base := base) ?_ hS
  rw [List.length_replicate, ← repV_ints]
  exact h
theorem take_end {wc w2 w4 wx : World} {hb base k n : Nat} {A v v2 v4 : Value} {gs : List Value} {m : Int} {o1 o2 : Obj} {cb : Array Value} (hbt : w2.heap[hb]? = some (.cells cb 59 (0, 0))) (hbl : hb < wc.heap.size)
    (hv : wc.ownsRow base 3 1 v n (repV n m)) (hA2 : w2.ownsRow 0 29 1 A k gs)
    (hG2 : (wc.alloc o1).drew.grownBy w2 v.ownBlock) (H2 : w2.ownsRow base 3 1 v2 (n + 2) (repV n m ++ [.int .i64 m, .int .i64 m])) (HL2 : v2.ownBlock = v.ownBlock ∨ v2.ownBlock = some (wc.alloc o1).drew.heap.size)
    (HE2 : ∀ g, v.ownBlock = some g → ∃ cur, w2.heap[g]? = some (.cells cur 3 (0, 0)) ∧ ∀ (j : Nat) (u : Value), (repV n m)[j]? = some u → cur[j]? = some u)
    (HG4 : (w2.alloc o2).grownBy w4 A.ownBlock) (H4 : w4.ownsRow 0 29 1 v4 (k + 2) (gs ++ [v, v2])) (HL4 : v4.ownBlock = A.ownBlock ∨ v4.ownBlock = some (w2.alloc o2).heap.size)
    (hwx : Only (fun k => k = hb) w4 wx) (h4b : w4.heap[hb]? = some (.cells cb 59 (0, 0))) :
    wx.ownsRow 0 29 1 v4 (k + 2) (gs ++ [v, v2]) ∧ IntsAt wx v (List.replicate n m) (fun g => v.ownBlock = some g ∨ wc.heap.size ≤ g) ∧ IntsAt wx v2 (List.replicate (n + 2) m) (fun g => v.ownBlock = some g ∨ wc.heap.size ≤ g) ∧
      (∀ g, v4.ownBlock = some g → A.ownBlock = some g ∨ wc.heap.size ≤ g) ∧ Only (fun k => k = hb ∨ A.ownBlock = some k ∨ v.ownBlock = some k) wc wx := by
  have o12 : Only (fun k => v.ownBlock = some k) wc w2 := by
    have h1 : Only (fun k => v.ownBlock = some k) wc (wc.alloc o1).drew := (Only.alloc _ wc o1).drew
    exact h1.trans (only_grown hG2)
  have o2x : Only (fun k => A.ownBlock = some k ∨ k = hb) w2 wx := by
    have h1 : Only (fun k => A.ownBlock = some k ∨ k = hb) w2 (w2.alloc o2) := Only.alloc _ w2 o2
    exact (h1.trans ((only_grown HG4).mono (fun k hk => .inl hk))).trans (hwx.mono (fun k hk => .inr hk))
  have hsz2 : wc.heap.size ≤ w2.heap.size := o12.size
  have hty : ∀ k, (A.ownBlock = some k ∨ k = hb) → ∀ cur f, w2.heap[k]? ≠ some (.cells cur 3 f) := by
    intro k hk cur f e
    rcases hk with hk | rfl
    · obtain ⟨c', hc'⟩ := own_cells hA2 hk
      rw [hc'] at e
      cases e
    · rw [hbt] at e
      cases e
  refine ⟨?_, ?_, ?_, ?_, ?_⟩
  · refine row_keep H4 (fun g hg => hwx.block g (H4.lt g hg).2 (fun e => ?_))
    subst e
    obtain ⟨c', hc'⟩ := own_cells H4 hg
    rw [hc'] at h4b
    cases h4b
  · have h1 : IntsAt w2 v (List.replicate n m) (fun g => v.ownBlock = some g ∨ wc.heap.size ≤ g) := by
      rcases hv.2 with ⟨hv0, h0⟩ | ⟨g, cap, cur, hv0, _⟩
      · subst hv0
        subst h0
        exact ⟨none, 0, rfl, fun i hi => by simp at hi⟩
      · obtain ⟨cur', hg', hx'⟩ := HE2 g (by rw [hv0]; rfl)
        have := IntsAt.of_cells (W := w2) (g := g) (c := cap) (l := List.replicate n m) (S := fun g => v.ownBlock = some g ∨ wc.heap.size ≤ g) (.inl (by rw [hv0]; rfl)) hg' (fun i hi => by
          refine hx' i _ ?_
          simp at hi
          simp [repV, hi])
        rw [List.length_replicate] at this
        rw [hv0] at this ⊢
        exact this
    exact h1.kept o2x (fun k _ hk => hty k hk)
  · have e : repV n m ++ [.int .i64 m, .int .i64 m] = repV (n + 2) m := by
      simp only [repV]
      rw [← List.replicate_append_replicate]
      rfl
    rw [e] at H2
    have h1 : IntsAt w2 v2 (List.replicate (n + 2) m) (fun g => v.ownBlock = some g ∨ wc.heap.size ≤ g) := IntsAt.of_rep H2 (fun g hg => by
      rcases HL2 with h | h
      · exact .inl (h ▸ hg)
      · right
        rw [h] at hg
        injection hg with hg
        have : (wc.alloc o1).drew.heap.size = wc.heap.size + 1 := World.size_alloc wc o1
        omega)
    exact h1.kept o2x (fun k _ hk => hty k hk)
  · intro g hg
    rcases HL4 with h | h
    · exact .inl (h ▸ hg)
    · right
      rw [h] at hg
      injection hg with hg
      rw [World.size_alloc] at hg
      omega
  · refine ⟨(o2x.os).trans o12.os, o2x.tape.trans o12.tape, o2x.output.trans o12.output, Nat.le_trans hsz2 o2x.size, fun k hk hn => ?_⟩
    exact (o2x.block k (Nat.lt_of_lt_of_le hk hsz2) (fun hh => hn (by rcases hh with h | h; exact .inr (.inl h); exact .inl h))).trans (o12.block k hk (fun h => hn (.inr (.inr h))))
end Go.Proofs.YtmfabpkliogjlaaWin
end
section
namespace Go.Proofs.YtmfabpkliogjlaaWin
open Go.RowKit Go.Lib
set_option linter.unusedSimpArgs false
set_option linter.unusedVariables false
theorem IntsAt.lt_ {W : World} {v : Value} {l : List Int} {S : Nat → Prop} (h : IntsAt W v l S) : IntsAt W v l (fun k => S k ∧ k < W.heap.size) := by
  obtain ⟨A, c, hv, hc⟩ := h
  refine ⟨A, c, hv, fun i hi => ?_⟩
  obtain ⟨g, cur, f, hA, hSg, hg, hx⟩ := hc i hi
  exact ⟨g, cur, f, hA, ⟨hSg, (Array.getElem?_eq_some_iff.1 hg).1⟩, hg, hx⟩
theorem take_fin {w wo D w' : World} {hb n : Nat} {cs : List (List Int)} {S : Nat → Prop} {A B v v2 v4 v5 u u2 : Value} {gs ws : List Value} {m : Int} {cb : Array Value}
    (e2 : S hb) (e5 : ∀ g, A.ownBlock = some g → S g) (e6 : ∀ g, B.ownBlock = some g → S g) (eD : ∀ g, A.ownBlock = some g → B.ownBlock ≠ some g)
    (hgs : gs.length = cs.length) (hws : ws.length = cs.length) (E9 : ∀ i (hi : i < cs.length), ∃ a b, gs[i]? = some a ∧ ws[i]? = some b ∧ IntsAt w a cs[i] S ∧ IntsAt w b cs[i] S)
    (hL : ∀ g, v.ownBlock = some g → ¬ S g) (hbl : hb < w.heap.size) (hA0 : ∀ g, A.ownBlock = some g → g < w.heap.size) (hB0 : ∀ g, B.ownBlock = some g → g < w.heap.size) (hv0 : ∀ g, v.ownBlock = some g → g < w.heap.size) (hu0 : ∀ g, u.ownBlock = some g → w.heap.size ≤ g) (hu1 : ∀ g, u.ownBlock = some g → g < wo.heap.size)
    (HO : Only (fun k => v.ownBlock = some k) w wo)
    (hbT : wo.heap[hb]? = some (.cells cb 59 (0, 0))) (hAT : ∀ g, A.ownBlock = some g → ∃ cur, wo.heap[g]? = some (.cells cur 29 (0, 0)))
    (hDb : D.heap[hb]? = some (.cells #[v4, B] 59 (0, 0))) (hBT : ∀ g, B.ownBlock = some g → ∃ cur, D.heap[g]? = some (.cells cur 29 (0, 0)))
    (T1 : D.ownsRow 0 29 1 v4 (cs.length + 2) (gs ++ [v, v2])) (I1 : IntsAt D v (List.replicate n m) (fun g => v.ownBlock = some g ∨ wo.heap.size ≤ g)) (I2 : IntsAt D v2 (List.replicate (n + 2) m) (fun g => v.ownBlock = some g ∨ wo.heap.size ≤ g))
    (O4 : ∀ g, v4.ownBlock = some g → A.ownBlock = some g ∨ wo.heap.size ≤ g) (HD : Only (fun k => k = hb ∨ A.ownBlock = some k ∨ v.ownBlock = some k) wo D)
    (hwb : w'.heap[hb]? = some (.cells #[v4, v5] 59 (0, 0)))
    (U1 : w'.ownsRow 0 29 1 v5 (cs.length + 2) (ws ++ [u, u2])) (J1 : IntsAt w' u (List.replicate n m) (fun g => u.ownBlock = some g ∨ D.heap.size ≤ g)) (J2 : IntsAt w' u2 (List.replicate (n + 2) m) (fun g => u.ownBlock = some g ∨ D.heap.size ≤ g))
    (O6 : ∀ g, v5.ownBlock = some g → B.ownBlock = some g ∨ D.heap.size ≤ g) (HW : Only (fun k => k = hb ∨ B.ownBlock = some k ∨ u.ownBlock = some k) D w') :
    HeldAt w' hb (cs ++ [List.replicate n m, List.replicate (n + 2) m]) (fun k => S k ∨ v.ownBlock = some k ∨ w.heap.size ≤ k) (fun k => S k ∨ v.ownBlock = some k ∨ w.heap.size ≤ k) ∧ Only (fun k => S k ∨ v.ownBlock = some k) w w' := by
  have s1 := HO.size
  have s2 := HD.size
  have s3 := HW.size
  have old : ∀ (x : Value) (l : List Int), IntsAt w x l S → IntsAt w' x l (fun k => S k ∨ v.ownBlock = some k ∨ w.heap.size ≤ k) := by
    intro x l h
    have h1 : IntsAt wo x l (fun k => S k ∧ k < w.heap.size) := h.lt_.only HO (fun k hk hh => hL k hh hk.1)
    have h2 : IntsAt D x l (fun k => S k ∧ k < w.heap.size) := h1.kept HD (fun k hk hh cur f hc => by
      rcases hh with rfl | hh | hh
      · rw [hbT] at hc; cases hc
      · obtain ⟨c', hc'⟩ := hAT k hh
        rw [hc'] at hc; cases hc
      · exact hL k hh hk.1)
    have h3 : IntsAt w' x l (fun k => S k ∧ k < w.heap.size) := h2.kept HW (fun k hk hh cur f hc => by
      rcases hh with rfl | hh | hh
      · rw [hDb] at hc; cases hc
      · obtain ⟨c', hc'⟩ := hBT k hh
        rw [hc'] at hc; cases hc
      · have := hu0 k hh
        have := hk.2
        omega)
    exact h3.mono (fun k hk => .inl hk.1)
  have mid : ∀ (x : Value) (l : List Int), IntsAt D x l (fun g => v.ownBlock = some g ∨ wo.heap.size ≤ g) → IntsAt w' x l (fun k => S k ∨ v.ownBlock = some k ∨ w.heap.size ≤ k) := by
    intro x l h
    have h3 : IntsAt w' x l (fun g => v.ownBlock = some g ∨ wo.heap.size ≤ g) := h.kept HW (fun k hk hh cur f hc => by
      rcases hh with rfl | hh | hh
      · rw [hDb] at hc; cases hc
      · obtain ⟨c', hc'⟩ := hBT k hh
        rw [hc'] at hc; cases hc
      · have h1 := hu0 k hh
        have h2 := hu1 k hh
        rcases hk with hk | hk
        · have := hv0 k hk
          omega
        · omega)
    exact h3.mono (fun k hk => by
      rcases hk with hk | hk
      · exact .inr (.inl hk)
      · exact .inr (.inr (by omega)))
  have new : ∀ (x : Value) (l : List Int), IntsAt w' x l (fun g => u.ownBlock = some g ∨ D.heap.size ≤ g) → IntsAt w' x l (fun k => S k ∨ v.ownBlock = some k ∨ w.heap.size ≤ k) := by
    intro x l h
    exact h.mono (fun k hk => by
      rcases hk with hk | hk
      · exact .inr (.inr (hu0 k hk))
      · exact .inr (.inr (by omega)))
  have hT1 : w'.ownsRow 0 29 1 v4 (cs.length + 2) (gs ++ [v, v2]) := by
    refine row_keep T1 (fun g hg => HW.block g (T1.lt g hg).2 (fun hh => ?_))
    rcases hh with rfl | hh | hh
    · obtain ⟨c', hc'⟩ := own_cells T1 hg
      rw [hDb] at hc'; cases hc'
    · rcases O4 g hg with h | h
      · exact eD g h hh
      · have := hB0 g hh
        omega
    · have h1 := hu0 g hh
      have h2 := hu1 g hh
      rcases O4 g hg with h | h
      · have := hA0 g h
        omega
      · omega
  refine ⟨⟨v4, v5, gs ++ [v, v2], ws ++ [u, u2], hwb, .inl e2, ?_, ?_, ?_, ?_, ?_, ?_, ?_, ?_⟩, ?_⟩
  · rw [List.length_append, hgs]; exact hT1
  · rw [List.length_append, hws]; exact U1
  · intro g hg
    rcases O4 g hg with h | h
    · exact .inl (e5 g h)
    · exact .inr (.inr (by omega))
  · intro g hg
    rcases O6 g hg with h | h
    · exact .inl (e6 g h)
    · exact .inr (.inr (by omega))
  · rw [List.length_append, List.length_append, hgs]; rfl
  · rw [List.length_append, List.length_append, hws]; rfl
  · intro g hg hh
    have hgD := (T1.lt g hg).2
    rcases O6 g hh with h | h
    · rcases O4 g hg with k | k
      · exact eD g k h
      · have := hB0 g h
        omega
    · omega
  · intro i hi
    rw [List.length_append] at hi
    simp only [List.length_cons, List.length_nil] at hi
    rcases (by omega : i < cs.length ∨ i = cs.length ∨ i = cs.length + 1) with c | c | c
    · obtain ⟨a, b, f1, f2, f3, f4⟩ := E9 i c
      refine ⟨a, b, by rw [List.getElem?_append_left (by omega)]; exact f1, by rw [List.getElem?_append_left (by omega)]; exact f2, ?_, ?_⟩
      · rw [List.getElem_append_left c]; exact old _ _ f3
      · rw [List.getElem_append_left c]; exact old _ _ f4
    · subst c
      refine ⟨v, u, by rw [List.getElem?_append_right (by omega), hgs, Nat.sub_self]; rfl, by rw [List.getElem?_append_right (by omega), hws, Nat.sub_self]; rfl, ?_, ?_⟩
      · rw [List.getElem_append_right (by omega)]
        simp only [Nat.sub_self, List.getElem_cons_zero]
        exact mid _ _ I1
      · rw [List.getElem_append_right (by omega)]
        simp only [Nat.sub_self, List.getElem_cons_zero]
        exact new _ _ J1
    · subst c
      refine ⟨v2, u2, by rw [List.getElem?_append_right (by omega), hgs, Nat.add_sub_cancel_left]; rfl, by rw [List.getElem?_append_right (by omega), hws, Nat.add_sub_cancel_left]; rfl, ?_, ?_⟩
      · rw [List.getElem_append_right (by omega)]
        simp only [Nat.add_sub_cancel_left, List.getElem_cons_succ, List.getElem_cons_zero]
        exact mid _ _ I2
      · rw [List.getElem_append_right (by omega)]
        simp only [Nat.add_sub_cancel_left, List.getElem_cons_succ, List.getElem_cons_zero]
        exact new _ _ J2
  · refine ⟨HW.os.trans (HD.os.trans HO.os), HW.tape.trans (HD.tape.trans HO.tape), HW.output.trans (HD.output.trans HO.output), by omega, fun k hk hn => ?_⟩
    have h1 := HO.block k hk (fun h => hn (.inr h))
    have h2 := HD.block k (by omega) (fun h => hn (by
      rcases h with rfl | h | h
      · exact .inl e2
      · exact .inl (e5 k h)
      · exact .inr h))
    have h3 := HW.block k (by omega) (fun h => by
      rcases h with rfl | h | h
      · exact hn (.inl e2)
      · exact hn (.inl (e6 k h))
      · have := hu0 k h
        omega)
    exact h3.trans (h2.trans h1)
end Go.Proofs.YtmfabpkliogjlaaWin
end
section
namespace Go.Proofs.YtmfabpkliogjlaaWin
open Go.RowKit Go.Lib
set_option linter.unusedSimpArgs false
set_option linter.unusedVariables false
theorem info29 : ∃ i, Try.prog.info? 29 = some i ∧ i.zero = some (.slice none 0 0) ∧ i.size = 1 ∧ i.bytes = 24 := by
  have h : (Try.prog.info? 29).map (fun i => (i.zero, i.size, i.bytes)) = some (some (.slice none 0 0), 1, 24) := by kernel_rfl
  cases hi : Try.prog.info? 29 with
  | none => rw [hi] at h; cases h
  | some i =>
    rw [hi] at h
    simp at h
    exact ⟨i, rfl, h.1, h.2.1, h.2.2⟩
theorem repV_snoc (n : Nat) (m : Int) : repV (n + 1) m = repV n m ++ [.int .i64 m] := by simp [repV, List.replicate_succ']
def over_ (l : List Int) (m : Int) (i : Nat) : List Value := repV i m ++ (intsV l).drop i
theorem over_zero (l : List Int) (m : Int) : over_ l m 0 = intsV l := by simp [over_, repV]
theorem over_all (l : List Int) (m : Int) : over_ l m l.length = repV l.length m := by simp [over_, intsV]
theorem over_len {l : List Int} {m : Int} {i : Nat} (hi : i ≤ l.length) : (over_ l m i).length = l.length := by simp [over_, repV, intsV]; omega
theorem over_set {l : List Int} {m : Int} {i : Nat} (hi : i < l.length) : (over_ l m i).set i (.int .i64 m) = over_ l m (i + 1) := by
  unfold over_
  rw [repV_snoc]
  have hl : (repV i m).length = i := by simp [repV]
  rw [List.set_append_right _ _ (by omega), hl, Nat.sub_self]
  have hd : i < (intsV l).length := by simp [intsV]; omega
  rw [List.drop_eq_getElem_cons hd, List.set_cons_zero, List.append_assoc]
  rfl
theorem new_cells {W : World} {cs : Array Value} {t : TypeId} {H : Nat} (hH : W.heap.size = H) : ∀ j u, cs.toList[j]? = some u → (W.alloc (.cells cs t)).cell? ((⟨H, 0, none⟩ : Addr).add j) = some u := by
  intro j u hj
  subst hH
  have e : (⟨W.heap.size, 0, none⟩ : Addr).add j = ⟨W.heap.size, j, none⟩ := by simp [Addr.add]; exact fun e => e.symm
  rw [e, cell_of (World.alloc_heap_new W (.cells cs t))]
  rw [Array.getElem?_toList] at hj
  exact hj
theorem take_mid {wA w2 : World} {hb k : Nat} {cb : Array Value} {A : Value} {gs : List Value} {row : Option Nat} (hG : wA.heap[hb]? = some (.cells cb 59 (0, 0))) (hR : wA.ownsRow 0 29 1 A k gs) (hg : wA.grownBy w2 row) (hne : ∀ g, row = some g → g ≠ hb ∧ A.ownBlock ≠ some g) (o2 : Obj) :
    w2.heap[hb]? = some (.cells cb 59 (0, 0)) ∧ (w2.alloc o2).heap[hb]? = some (.cells cb 59 (0, 0)) ∧ (w2.alloc o2).ownsRow 0 29 1 A k gs ∧ w2.ownsRow 0 29 1 A k gs := by
  have hlt := (Array.getElem?_eq_some_iff.1 hG).1
  have h1 : w2.heap[hb]? = some (.cells cb 59 (0, 0)) := (hg.block hb hlt (fun e => (hne hb e.symm).1 rfl)).trans hG
  have h2 : w2.ownsRow 0 29 1 A k gs := by
    refine hR.kept hg ?_
    cases row with
    | none =>
      cases hA : A.ownBlock with
      | none => exact .inl rfl
      | some g => exact .inr (by simp)
    | some g => exact .inr (hne g rfl).2
  exact ⟨h1, (Below.heap_alloc w2 o2 hb (Array.getElem?_eq_some_iff.1 h1).1).trans h1, h2.alloc o2, h2⟩
theorem set_h0 {W : World} {hb : Nat} {x y v : Value} (h : W.heap[hb]? = some (.cells #[x, y] 59 (0, 0))) : (W.setCell ⟨hb, 0, none⟩ v).heap[hb]? = some (.cells #[v, y] 59 (0, 0)) := by
  simp [World.setCell, Array.getElem?_modify, h]
theorem set_h1 {W : World} {hb : Nat} {x y v : Value} (h : W.heap[hb]? = some (.cells #[x, y] 59 (0, 0))) : (W.setCell ⟨hb, 1, none⟩ v).heap[hb]? = some (.cells #[x, v] 59 (0, 0)) := by
  simp [World.setCell, Array.getElem?_modify, h]
set_option maxRecDepth 100000 in
set_option maxHeartbeats 4000000 in
theorem take_calls {hb : Nat} {cs : List (List Int)} {S : Nat → Prop} (w : World) (h : HeldAt w hb cs S S) (hn : cs.length ≤ 1000) (l : List Int) (base : Nat) (v : Value) (hr : w.ownsRow base 3 1 v l.length (intsV l)) (hbase : base ≤ w.heap.size) (hL : ∀ g, v.ownBlock = some g → ¬ S g) (hl : l.length ≤ 2000000) :
    Calls Try.prog 46 #[.pointer (some ⟨hb, 0, none⟩), v] w fun e w' => e = .returned (.tuple #[]) ∧ ∃ cs' : List (List Int), cs'.length = cs.length + 2 ∧ (∀ c ∈ cs', c ∈ cs ∨ c.length ≤ 2000002) ∧
      HeldAt w' hb cs' (fun k => S k ∨ v.ownBlock = some k ∨ w.heap.size ≤ k) (fun k => S k ∨ v.ownBlock = some k ∨ w.heap.size ≤ k) ∧ Only (fun k => S k ∨ v.ownBlock = some k) w w' := by
  obtain ⟨i3, hi0, hz0, hz1, hz2⟩ := info3
  obtain ⟨i29, ki0, kz0, kz1, kz2⟩ := info29
  obtain ⟨pp, cap, hv⟩ := row_form hr
  subst hv
  obtain ⟨v1, v2, gs, ws, e1, e2, e3, e4, e5, e6, e7, e8, eD, e9⟩ := h
  obtain ⟨pA, cA, hv1⟩ := row_form e3
  obtain ⟨pB, cB, hv2⟩ := row_form e4
  subst hv1
  subst hv2
  have x0 := cell_of e1 0
  have hbl := (Array.getElem?_eq_some_iff.1 e1).1
  have hneb : ∀ g, (Value.slice pp l.length cap).ownBlock = some g → g ≠ hb := fun g hg e => hL g hg (e ▸ e2)
  have E1 := Lib.hid e1
  have E3 := Lib.hid e3
  have E4 := Lib.hid e4
  have E9 := Lib.hid e9
  have E7 := Lib.hid e7
  have E8 := Lib.hid e8
  have x0' : w.cell? ⟨hb, 0, none⟩ = some (.slice pA cs.length cA) := by rw [x0, e7]; rfl
  clear e1 e3 e4 e7 e8 e9 x0
  go_enter Try.func46, Try.ntmps46
  go_upto_block 0 with fail
  generalize (-1 - (cs.length : Int)) = m
  have hown0 : ∀ g, (Value.slice pp l.length cap).ownBlock = some g → g < w.heap.size := fun g hg => (hr.lt g hg).2
  go_cut [5, 6] from 13 to 26 (fun v5 v6 wx => Hid (wx.ownsRow base 3 1 (.slice pp l.length cap) l.length (repV l.length m)) ∧ Hid (wx.ownsRow w.heap.size 3 1 v5 l.length (repV l.length m)) ∧ Hid (Only (fun k => (Value.slice pp l.length cap).ownBlock = some k) w wx))
  case first =>
    go_wp2_with fail
    go_loopw [5, 6] (fun v5 v6 wx => ∃ i : Nat, i ≤ l.length ∧ v6 = .int .i64 (i : Int) ∧ wx.ownsRow base 3 1 (.slice pp l.length cap) l.length (over_ l m i) ∧ wx.ownsRow w.heap.size 3 1 v5 i (repV i m) ∧ Hid (Only (fun k => (Value.slice pp l.length cap).ownBlock = some k) w wx)) (fun _ v6 _ => l.length - (RowKit.intOf v6).toNat)
    case atStart => exact ⟨0, by omega, rfl, by rw [over_zero]; exact hr, World.ownsRow_nil _ _ _ _, Only.refl _ _⟩
    case round =>
      obtain ⟨i, hi, rfl, hrow, hwant, HO⟩ := hrel
      have ib : (i : Int) ≤ 2000000 := by omega
      by_cases hc : i < l.length
      · have d0 : decide (i < l.length) = true := decide_eq_true hc
        obtain ⟨g, rfl⟩ : ∃ g, pp = some ⟨g, 0, none⟩ := by
          rcases hrow.2 with ⟨hnil, h0⟩ | ⟨g, cap', cur, hv, _⟩
          · omega
          · injection hv with hv _ _
            exact ⟨g, hv⟩
        have hgw := hown0 g rfl
        have p0 : (0 ≤ (i : Int)) = True := eq_true (by omega)
        have p1 : ((i : Int) < (l.length : Int)) = True := eq_true (by omega)
        have c0 : wr.cell? ⟨g, i, none⟩ = (over_ l m i)[i]? := hrow.cellAt i (by omega)
        obtain ⟨u, hu⟩ : ∃ u, (over_ l m i)[i]? = some u := ⟨_, List.getElem?_eq_getElem (by rw [over_len hi]; exact hc)⟩
        rw [hu] at c0
        have f0 := hrow.frozenAt i
        obtain ⟨hst, hsg⟩ := hrow.stored i (.int .i64 m)
        rw [over_set hc] at hst
        have hw2 := hwant.kept hsg (by
          cases hob : u5.ownBlock with
          | none => exact .inl rfl
          | some k =>
            right
            intro e
            have := (hwant.lt k hob).1
            injection e with e
            omega)
        have hO2 : Only (fun k => (Value.slice (some ⟨g, 0, none⟩) l.length cap).ownBlock = some k) w (wr.setCell ⟨g, i, none⟩ (.int .i64 m)) := HO.out.trans (Only.setCell _ _ _ _ rfl)
        obtain ⟨ppw, capw, hvw⟩ := row_form hwant
        subst hvw
        have hrow3 := hw2.alloc (.cells #[.int .i64 m] 3)
        have hst3 := hst.alloc (.cells #[.int .i64 m] 3)
        have hO3 := hO2.trans (Only.alloc _ (wr.setCell ⟨g, i, none⟩ (.int .i64 m)) (.cells #[.int .i64 m] 3))
        have hW3 := World.alloc_heap_new (wr.setCell ⟨g, i, none⟩ (.int .i64 m)) (.cells #[.int .i64 m] 3)
        have hsz : (wr.setCell ⟨g, i, none⟩ (.int .i64 m)).heap.size = wr.heap.size := by simp [World.setCell]
        rw [hsz] at hW3
        have hcn : ∀ j u, ([Value.int .i64 m] : List Value)[j]? = some u → ((wr.setCell ⟨g, i, none⟩ (.int .i64 m)).alloc (.cells #[.int .i64 m] 3)).cell? ((⟨wr.heap.size, 0, none⟩ : Addr).add j) = some u := by
          intro j u hj
          have e : (⟨wr.heap.size, 0, none⟩ : Addr).add j = ⟨wr.heap.size, j, none⟩ := by simp [Addr.add]; exact fun e => e.symm
          rw [e, cell_of hW3]
          match j, hj with
          | 0, hj => exact hj
        have HCN := Lib.hid hcn
        have HO3 := Lib.hid hO3
        have HST := Lib.hid hst3
        have HCc := Lib.hid hc
        have HSZ := Lib.hid (show w.heap.size ≤ ((wr.setCell ⟨g, i, none⟩ (.int .i64 m)).alloc (.cells #[.int .i64 m] 3)).heap.size from hO3.size)
        clear hcn hW3 hO3 hO2 hst3 hw2 hst hsg hu hwant hrow hsz
        go_wp2_with (first
          | (at_builtin; refine wpList_append_lies _ rfl _ _ 29 rfl w.heap.size 3 i3 (.int .i64 0) 1 8 Try.underlying29 hi0 hz0 hz1 hz2 rfl (by decide) _ _ (repV i m) rfl hrow3 ⟨wr.heap.size, 0, none⟩ 1 1 [Value.int .i64 m] rfl rfl HCN.out ?c2 (by decide) ?c3 ?c4 ?c5 _ rfl ?_)
          | go_in)
        case c2 => intro u hu; simp at hu; rcases hu with rfl; rfl
        case c3 => unfold maxLen; omega
        case c4 => omega
        case c5 => exact HSZ.out
        · intro g' cap'' w2 hown2 hgrow hloc hglt
          have HW : Hid (w2.ownsRow w.heap.size 3 1 (.slice (some ⟨g', 0, none⟩) (i + 1) cap'') (i + 1) (repV (i + 1) m)) := by
            rw [repV_snoc]
            exact hown2
          have hgne : ∀ k, (Value.slice ppw i capw).ownBlock = some k → w.heap.size ≤ k := fun k hk => (hrow3.lt k hk).1
          have HR2 : Hid (w2.ownsRow base 3 1 (.slice (some ⟨g, 0, none⟩) l.length cap) l.length (over_ l m (i + 1))) := HST.out.kept hgrow (by
            right
            intro e
            have := hgne g e.symm
            omega)
          have HO4 : Hid (Only (fun k => (Value.slice (some ⟨g, 0, none⟩) l.length cap).ownBlock = some k) w w2) := by
            have ho := HO3.out
            refine ⟨hgrow.os.trans ho.os, hgrow.tape.trans ho.tape, hgrow.output.trans ho.output, Nat.le_trans ho.size hgrow.size, fun k hk hnk => ?_⟩
            exact (hgrow.block k (Nat.lt_of_lt_of_le hk ho.size) (fun e => by have := hgne k e.symm; omega)).trans (ho.block k hk hnk)
          clear hown2 hgrow hloc hglt hrow3 hgne
          go_wp2
          go_roundw
          case rel => exact ⟨i + 1, HCc.out, by go_num, HR2.out, HW.out, HO4⟩
          case measure => have := HCc.out; simp [RowKit.intOf]; omega
      · obtain rfl : i = l.length := by omega
        have d0 : decide (l.length < l.length) = false := decide_eq_false hc
        rw [over_all] at hrow
        have H1 := Lib.hid hrow
        have H2 := Lib.hid hwant
        clear hc hi hrow hwant
        go_wp2_with fail
        go_meet
        exact ⟨H1, H2, HO⟩
  case rest =>
    obtain ⟨HRl, HWn, HO⟩ := hcut
    obtain ⟨pw, cw, hvw⟩ := row_form HWn.out
    subst hvw
    have hS : ∀ k, S k → k < w.heap.size → wc.heap[k]? = w.heap[k]? := fun k hk hlt => HO.out.block k hlt (fun hh => hL k hh hk)
    have f1 := (hS hb e2 hbl).trans E1.out
    have f3 : wc.ownsRow 0 29 1 (.slice pA gs.length cA) gs.length gs := row_keep E3.out (fun g hg => hS g (e5 g hg) (E3.out.lt g hg).2)
    have f4 : wc.ownsRow 0 29 1 (.slice pB ws.length cB) ws.length ws := row_keep E4.out (fun g hg => hS g (e6 g hg) (E4.out.lt g hg).2)
    rw [E7.out] at f1 f3
    rw [E8.out] at f1 f4
    have hblc := (Array.getElem?_eq_some_iff.1 f1).1
    have k0 : wc.drew.cell? ⟨hb, 0, none⟩ = some (.slice pA cs.length cA) := cell_of f1 0
    have g1 := (Below.heap_alloc wc (.cells #[.int .i64 m, .int .i64 m] 3) hb hblc).trans f1
    have k1 : (wc.alloc (.cells #[.int .i64 m, .int .i64 m] 3)).drew.cell? ⟨hb, 0, none⟩ = some (.slice pA cs.length cA) := cell_of g1 0
    have hrA := ((HRl.out).alloc (.cells #[.int .i64 m, .int .i64 m] 3)).drew
    have hbw : base ≤ wc.heap.size := Nat.le_trans hbase HO.out.size
    have hbA : base ≤ (wc.alloc (.cells #[.int .i64 m, .int .i64 m] 3)).drew.heap.size := by
      show base ≤ (wc.alloc (.cells #[.int .i64 m, .int .i64 m] 3)).heap.size
      rw [World.size_alloc]; exact Nat.le_succ_of_le hbw
    have h1A : ∀ u ∈ [Value.int .i64 m, Value.int .i64 m], u.oneCell' = true := by intro u hu; simp at hu; subst hu; rfl
    have HCN1 : Hid (∀ (j : Nat) (u : Value), [Value.int .i64 m, Value.int .i64 m][j]? = some u → (wc.alloc (.cells #[.int .i64 m, .int .i64 m] 3)).drew.cell? ((⟨wc.heap.size, 0, none⟩ : Addr).add j) = some u) := new_cells (W := wc) (cs := #[.int .i64 m, .int .i64 m]) (t := 3) rfl
    have hne1 : ∀ g, (Value.slice pp l.length cap).ownBlock = some g → g ≠ hb ∧ (Value.slice pA cs.length cA).ownBlock ≠ some g := fun g hg => ⟨hneb g hg, fun e => hL g hg (e5 g (by rw [E7.out]; exact e))⟩
    have hMID := fun (w2 : World) (o2 : Obj) (hg : ((wc.alloc (.cells #[.int .i64 m, .int .i64 m] 3)).drew).grownBy w2 (Value.slice pp l.length cap).ownBlock) => take_mid (wA := (wc.alloc (.cells #[.int .i64 m, .int .i64 m] 3)).drew) g1 ((f3.alloc _).drew) hg hne1 o2
    have HMID := Lib.hid hMID
    have F1 := Lib.hid f1
    have F3 := Lib.hid f3
    have F4 := Lib.hid f4
    have h1B : ∀ (p2 : Option Addr) (c2 : Nat), ∀ u ∈ [Value.slice pp l.length cap, Value.slice p2 (l.length + 2) c2], u.oneCell' = true := by intro p2 c2 u hu; simp at hu; rcases hu with rfl | rfl <;> rfl
    clear x0' f1 f3 f4 g1 hMID
    go_upto_region 7 with fail
    go_cut [27] from 28 to 41 (fun v27 wx => ∃ p4 c4 v2, Hid (wx.heap[hb]? = some (.cells #[.slice p4 (cs.length + 2) c4, .slice pB cs.length cB] 59 (0, 0))) ∧ Hid (wx.ownsRow 0 29 1 (.slice p4 (cs.length + 2) c4) (cs.length + 2) (gs ++ [.slice pp l.length cap, v2]) ∧ IntsAt wx (.slice pp l.length cap) (List.replicate l.length m) (fun g => (Value.slice pp l.length cap).ownBlock = some g ∨ wc.heap.size ≤ g) ∧ IntsAt wx v2 (List.replicate (l.length + 2) m) (fun g => (Value.slice pp l.length cap).ownBlock = some g ∨ wc.heap.size ≤ g) ∧
      (∀ g, (Value.slice p4 (cs.length + 2) c4).ownBlock = some g → (Value.slice pA cs.length cA).ownBlock = some g ∨ wc.heap.size ≤ g) ∧ Only (fun k => k = hb ∨ (Value.slice pA cs.length cA).ownBlock = some k ∨ (Value.slice pp l.length cap).ownBlock = some k) wc wx))
    case first =>
      go_region_law (first
        | (refine step_append_elder _ rfl (.tmp 33) (.tmp 36) 29 rfl base 3 i3 (.int .i64 0) 1 8 Try.underlying29 hi0 hz0 hz1 hz2 rfl (by decide) (.slice pp l.length cap) l.length (repV l.length m) rfl hrA ⟨wc.heap.size, 0, none⟩ 2 2 [Value.int .i64 m, Value.int .i64 m] rfl rfl HCN1.out h1A (by unfold maxLen; omega) (by omega) hbA ?_; intro v' w2 h2 hg2 hl2 he2; obtain ⟨p2, c2, hv2⟩ := row_form h2; subst hv2; obtain ⟨m1, m2, m3, m4⟩ := HMID.out w2 (.cells #[.slice pp l.length cap, .slice p2 (l.length + 2) c2] 29) hg2; have k2 := cell_of m1 0; have k3 := cell_of m2 0; have cn2 := new_cells (W := w2) (cs := #[.slice pp l.length cap, .slice p2 (l.length + 2) c2]) (t := 29) rfl; have M1 := Lib.hid m1; have M4 := Lib.hid m4; have M2 := Lib.hid m2; have H2 := Lib.hid h2; have HG2 := Lib.hid hg2; have HL2 := Lib.hid hl2; have HE2 := Lib.hid he2; have CN2 := Lib.hid cn2; clear m1 m2 m4 h2 hg2 hl2 he2 cn2)
        | (refine step_append_elder _ rfl (.tmp 31) (.tmp 38) 57 rfl 0 29 i29 (.slice none 0 0) 1 24 Try.underlying57 ki0 kz0 kz1 kz2 rfl (by decide) (.slice pA cs.length cA) cs.length gs rfl m3 ⟨w2.heap.size, 0, none⟩ 2 2 [Value.slice pp l.length cap, Value.slice p2 (l.length + 2) c2] rfl rfl CN2.out (h1B p2 c2) (by unfold maxLen; omega) (by omega) (Nat.zero_le _) ?_; intro v4 w4 h4 hg4 hl4 he4; obtain ⟨p4, c4, hv4⟩ := row_form h4; subst hv4; have n4 := (hg4.block hb (Array.getElem?_eq_some_iff.1 M2.out).1 (fun e => own_ne (cs := []) M2.out m3 (by decide) e.symm rfl)).trans M2.out; have k4 := cell_of n4 0; have fz4 := frozen_of n4 0; have N4 := Lib.hid n4; have H4 := Lib.hid h4; have HG4 := Lib.hid hg4; have HL4 := Lib.hid hl4; clear n4 h4 hg4 hl4 he4))
      all_goals (simp only [Exit.then]; go_wp2_with fail; go_meet; exact ⟨p4, c4, _, set_h0 N4.out, take_end M1.out hblc HRl.out M4.out HG2.out H2.out HL2.out HE2.out HG4.out H4.out HL4.out (Only.setCell _ _ _ _ rfl) N4.out⟩)
    case rest =>
      obtain ⟨p4, c4, v2, HH, HT⟩ := hcut
      clear k0 k1 hrA hbA h1A HCN1 hne1 HMID h1B
      have f1 := HH.out
      have hO := HT.out.2.2.2.2
      have hblc := (Array.getElem?_eq_some_iff.1 f1).1
      have hA0 : ∀ g, (Value.slice pA cs.length cA).ownBlock = some g → g < w.heap.size := fun g hg => (E3.out.lt g (by rw [E7.out]; exact hg)).2
      have hB0 : ∀ g, (Value.slice pB cs.length cB).ownBlock = some g → g < w.heap.size := fun g hg => (E4.out.lt g (by rw [E8.out]; exact hg)).2
      have hBS : ∀ g, (Value.slice pB cs.length cB).ownBlock = some g → S g := fun g hg => e6 g (by rw [E8.out]; exact hg)
      have hAB : ∀ g, (Value.slice pA cs.length cA).ownBlock = some g → (Value.slice pB cs.length cB).ownBlock ≠ some g := fun g hg hh => eD g (by rw [E7.out]; exact hg) (by rw [E8.out]; exact hh)
      have hu0 : ∀ g, (Value.slice pw l.length cw).ownBlock = some g → w.heap.size ≤ g := fun g hg => (HWn.out.lt g hg).1
      have HRu : Hid (wc.ownsRow w.heap.size 3 1 (.slice pw l.length cw) l.length (repV l.length m)) := row_keep HWn.out (fun g hg => hO.block g (HWn.out.lt g hg).2 (fun hk => by
        have := hu0 g hg
        rcases hk with h | h | h
        · omega
        · have := hA0 g h; omega
        · have := hown0 g h; omega))
      have f3 : wc.ownsRow 0 29 1 (.slice pB cs.length cB) cs.length ws := row_keep F4.out (fun g hg => hO.block g (F4.out.lt g hg).2 (fun hk => by
        rcases hk with h | h | h
        · exact own_ne (cs := []) F1.out F4.out (by decide) hg h
        · exact hAB g h hg
        · exact hL g h (hBS g hg)))
      have k0 : wc.drew.cell? ⟨hb, 1, none⟩ = some (.slice pB cs.length cB) := cell_of f1 1
      have g1 := (Below.heap_alloc wc (.cells #[.int .i64 m, .int .i64 m] 3) hb hblc).trans f1
      have k1 : (wc.alloc (.cells #[.int .i64 m, .int .i64 m] 3)).drew.cell? ⟨hb, 1, none⟩ = some (.slice pB cs.length cB) := cell_of g1 1
      have hrA := ((HRu.out).alloc (.cells #[.int .i64 m, .int .i64 m] 3)).drew
      have hbw : w.heap.size ≤ wc.heap.size := Nat.le_trans HO.out.size hO.size
      have hbA : w.heap.size ≤ (wc.alloc (.cells #[.int .i64 m, .int .i64 m] 3)).drew.heap.size := by
        show w.heap.size ≤ (wc.alloc (.cells #[.int .i64 m, .int .i64 m] 3)).heap.size
        rw [World.size_alloc]; exact Nat.le_succ_of_le hbw
      have h1A : ∀ u ∈ [Value.int .i64 m, Value.int .i64 m], u.oneCell' = true := by intro u hu; simp at hu; subst hu; rfl
      have HCN1 : Hid (∀ (j : Nat) (u : Value), [Value.int .i64 m, Value.int .i64 m][j]? = some u → (wc.alloc (.cells #[.int .i64 m, .int .i64 m] 3)).drew.cell? ((⟨wc.heap.size, 0, none⟩ : Addr).add j) = some u) := new_cells (W := wc) (cs := #[.int .i64 m, .int .i64 m]) (t := 3) rfl
      have hne1 : ∀ g, (Value.slice pw l.length cw).ownBlock = some g → g ≠ hb ∧ (Value.slice pB cs.length cB).ownBlock ≠ some g := fun g hg => ⟨fun e => by have := hu0 g hg; omega, fun e => by have := hu0 g hg; have := hB0 g e; omega⟩
      have hMID := fun (w2 : World) (o2 : Obj) (hg : ((wc.alloc (.cells #[.int .i64 m, .int .i64 m] 3)).drew).grownBy w2 (Value.slice pw l.length cw).ownBlock) => take_mid (wA := (wc.alloc (.cells #[.int .i64 m, .int .i64 m] 3)).drew) g1 ((f3.alloc _).drew) hg hne1 o2
      have HMID := Lib.hid hMID
      have FF1 := Lib.hid f1
      have FF3 := Lib.hid f3
      have HOD := Lib.hid hO
      have h1B : ∀ (p2 : Option Addr) (c2 : Nat), ∀ u ∈ [Value.slice pw l.length cw, Value.slice p2 (l.length + 2) c2], u.oneCell' = true := by intro p2 c2 u hu; simp at hu; rcases hu with rfl | rfl <;> rfl
      clear f1 f3 g1 hMID hO
      go_upto_region 8 with fail
      go_region_law (first
        | (refine step_append_elder _ rfl (.tmp 48) (.tmp 51) 29 rfl w.heap.size 3 i3 (.int .i64 0) 1 8 Try.underlying29 hi0 hz0 hz1 hz2 rfl (by decide) (.slice pw l.length cw) l.length (repV l.length m) rfl hrA ⟨wc.heap.size, 0, none⟩ 2 2 [Value.int .i64 m, Value.int .i64 m] rfl rfl HCN1.out h1A (by unfold maxLen; omega) (by omega) hbA ?_; intro v' w2 h2 hg2 hl2 he2; obtain ⟨p2, c2, hv2⟩ := row_form h2; subst hv2; obtain ⟨m1, m2, m3, m4⟩ := HMID.out w2 (.cells #[.slice pw l.length cw, .slice p2 (l.length + 2) c2] 29) hg2; have k2 := cell_of m1 1; have k3 := cell_of m2 1; have cn2 := new_cells (W := w2) (cs := #[.slice pw l.length cw, .slice p2 (l.length + 2) c2]) (t := 29) rfl; have M1 := Lib.hid m1; have M4 := Lib.hid m4; have M2 := Lib.hid m2; have H2 := Lib.hid h2; have HG2 := Lib.hid hg2; have HL2 := Lib.hid hl2; have HE2 := Lib.hid he2; have CN2 := Lib.hid cn2; clear m1 m2 m4 h2 hg2 hl2 he2 cn2)
        | (refine step_append_elder _ rfl (.tmp 46) (.tmp 53) 57 rfl 0 29 i29 (.slice none 0 0) 1 24 Try.underlying57 ki0 kz0 kz1 kz2 rfl (by decide) (.slice pB cs.length cB) cs.length ws rfl m3 ⟨w2.heap.size, 0, none⟩ 2 2 [Value.slice pw l.length cw, Value.slice p2 (l.length + 2) c2] rfl rfl CN2.out (h1B p2 c2) (by unfold maxLen; omega) (by omega) (Nat.zero_le _) ?_; intro v4 w4 h4 hg4 hl4 he4; obtain ⟨p4, c4, hv4⟩ := row_form h4; subst hv4; have n4 := (hg4.block hb (Array.getElem?_eq_some_iff.1 M2.out).1 (fun e => own_ne (cs := []) M2.out m3 (by decide) e.symm rfl)).trans M2.out; have k4 := cell_of n4 1; have fz4 := frozen_of n4 1; have N4 := Lib.hid n4; have H4 := Lib.hid h4; have HG4 := Lib.hid hg4; have HL4 := Lib.hid hl4; clear n4 h4 hg4 hl4 he4))
      all_goals ((try simp only [Exit.then]); (try go_wp2_with fail); go_end0; obtain ⟨t1, t2, t3, t4, t5⟩ := take_end M1.out hblc HRu.out M4.out HG2.out H2.out HL2.out HE2.out HG4.out H4.out HL4.out (Only.setCell _ _ (⟨hb, 1, none⟩ : Addr) (.slice p4 (cs.length + 2) c4) rfl) N4.out; exact ⟨rfl, cs ++ [List.replicate l.length m, List.replicate (l.length + 2) m], by simp, (fun c hc => (by rcases List.mem_append.1 hc with h | h; exact .inl h; exact .inr (by simp at h; rcases h with rfl | rfl <;> simp <;> omega))), take_fin e2 (fun g hg => e5 g (by rw [E7.out]; exact hg)) hBS hAB E7.out E8.out E9.out hL hbl hA0 hB0 hown0 hu0 (fun g hg => (HWn.out.lt g hg).2) HO.out F1.out (fun g hg => own_cells F3.out hg) HH.out (fun g hg => own_cells FF3.out hg) HT.out.1 HT.out.2.1 HT.out.2.2.1 HT.out.2.2.2.1 HT.out.2.2.2.2 (set_h1 N4.out) t1 t2 t3 t4 t5⟩)
end Go.Proofs.YtmfabpkliogjlaaWin
end
section
namespace Go.Proofs
open Go.Shelf
def Try.keysI_ren : Go.Shelf.Ren := ⟨fun | 7 => 35 | 10 => 50 | n => n, fun | 23 => 71 | 26 => 3 | 3 => 75 | 28 => 80 | 0 => 0 | 27 => 79 | 33 => 101 | 4 => 4 | n => n, fun | n => n⟩
theorem Try.keysI : Go.Proofs.SlLaysZI.n7 Try.prog Try.keysI_ren := {
  mixed := by kernel_rfl
  f7 := ⟨Try.f35.name, by decide, Try.func35.trans (congrArg some (by kernel_rfl))⟩
  f10 := ⟨Try.f50.name, by decide, Try.func50.trans (congrArg some (by kernel_rfl))⟩
  t0 := Try.underlying0
  a0 := Try.isAgg0
  z0 := Try.sizeOf0
  v0 := Try.zeroValue0
  t4 := Try.underlying4
  a4 := Try.isAgg4
  z4 := Try.sizeOf4
  v4 := Try.zeroValue4
  t23 := Try.underlying71
  a23 := Try.isAgg71
  z23 := Try.sizeOf71
  v23 := Try.zeroValue71
  t26 := Try.underlying3
  a26 := Try.isAgg3
  z26 := Try.sizeOf3
  v26 := Try.zeroValue3
  t27 := Try.underlying79
  a27 := Try.isAgg79
  z27 := Try.sizeOf79
  v27 := Try.zeroValue79
  t28 := Try.underlying80
  a28 := Try.isAgg80
  z28 := Try.sizeOf80
  v28 := Try.zeroValue80
  t33 := Try.underlying101
  a33 := Try.isAgg101
  z33 := Try.sizeOf101
  v33 := Try.zeroValue101 }
def Try.sortedI_ren : Go.Shelf.Ren := ⟨fun | 6 => 34 | 8 => 48 | 9 => 49 | 11 => 54 | 13 => 56 | 12 => 55 | 23 => 66 | 24 => 67 | 14 => 57 | 15 => 58 | 16 => 59 | 17 => 60 | 18 => 61 | 19 => 62 | 20 => 63 | 21 => 64 | 22 => 65 | 25 => 68 | 26 => 69 | 27 => 70 | 28 => 71 | 29 => 72 | 30 => 73 | 31 => 74 | n => n, fun | 26 => 3 | 28 => 80 | 24 => 29 | 0 => 0 | 3 => 3 | 37 => 108 | 48 => 118 | 50 => 120 | 4 => 4 | 40 => 111 | 39 => 110 | 45 => 115 | 5 => 5 | 9 => 9 | 51 => 121 | 55 => 125 | 57 => 127 | 58 => 91 | 33 => 101 | n => n, fun | n => n⟩
theorem Try.sortedI : Go.Proofs.SlLaysZI.n6 Try.prog Try.sortedI_ren := {
  mixed := by kernel_rfl
  f6 := ⟨Try.f34.name, by decide, Try.func34.trans (congrArg some (by kernel_rfl))⟩
  f8 := ⟨Try.f48.name, by decide, Try.func48.trans (congrArg some (by kernel_rfl))⟩
  f11 := ⟨Try.f54.name, by decide, Try.func54.trans (congrArg some (by kernel_rfl))⟩
  t0 := Try.underlying0
  a0 := Try.isAgg0
  z0 := Try.sizeOf0
  v0 := Try.zeroValue0
  t24 := Try.underlying29
  a24 := Try.isAgg29
  z24 := Try.sizeOf29
  v24 := Try.zeroValue29
  t26 := Try.underlying3
  a26 := Try.isAgg3
  z26 := Try.sizeOf3
  v26 := Try.zeroValue3
  t28 := Try.underlying80
  a28 := Try.isAgg80
  z28 := Try.sizeOf80
  v28 := Try.zeroValue80
  i26 := by kernel_rfl }
def Try.sortI_ren : Go.Shelf.Ren := ⟨fun | 5 => 49 | 8 => 56 | 7 => 55 | 19 => 66 | 20 => 67 | 10 => 57 | 11 => 58 | 12 => 59 | 13 => 60 | 14 => 61 | 15 => 62 | 16 => 63 | 17 => 64 | 18 => 65 | 30 => 68 | 31 => 69 | 32 => 70 | 33 => 71 | 34 => 72 | 35 => 73 | 40 => 74 | n => n, fun | 23 => 29 | 25 => 3 | 3 => 3 | 32 => 108 | 22 => 29 | 0 => 0 | 44 => 118 | 46 => 120 | 4 => 4 | 36 => 111 | 35 => 110 | 41 => 115 | 5 => 5 | 9 => 9 | 53 => 121 | 57 => 125 | 63 => 127 | 64 => 91 | n => n, fun | n => n⟩
theorem Try.sortI : Go.Proofs.SlLaysM.n5 Try.prog Try.sortI_ren := {
  mixed := by kernel_rfl
  f5 := ⟨Try.f49.name, by decide, Try.func49.trans (congrArg some (by kernel_rfl))⟩
  f7 := ⟨Try.f55.name, by decide, Try.func55.trans (congrArg some (by kernel_rfl))⟩
  f8 := Try.func56.trans (congrArg some (by kernel_rfl))
  f10 := ⟨Try.f57.name, by decide, Try.func57.trans (congrArg some (by kernel_rfl))⟩
  f11 := ⟨Try.f58.name, by decide, Try.func58.trans (congrArg some (by kernel_rfl))⟩
  f12 := ⟨Try.f59.name, by decide, Try.func59.trans (congrArg some (by kernel_rfl))⟩
  f13 := ⟨Try.f60.name, by decide, Try.func60.trans (congrArg some (by kernel_rfl))⟩
  f14 := ⟨Try.f61.name, by decide, Try.func61.trans (congrArg some (by kernel_rfl))⟩
  f15 := ⟨Try.f62.name, by decide, Try.func62.trans (congrArg some (by kernel_rfl))⟩
  f16 := ⟨Try.f63.name, by decide, Try.func63.trans (congrArg some (by kernel_rfl))⟩
  f17 := ⟨Try.f64.name, by decide, Try.func64.trans (congrArg some (by kernel_rfl))⟩
  f18 := ⟨Try.f65.name, by decide, Try.func65.trans (congrArg some (by kernel_rfl))⟩
  f19 := Try.func66.trans (congrArg some (by kernel_rfl))
  f20 := Try.func67.trans (congrArg some (by kernel_rfl))
  f30 := ⟨Try.f68.name, by decide, Try.func68.trans (congrArg some (by kernel_rfl))⟩
  f31 := Try.func69.trans (congrArg some (by kernel_rfl))
  f32 := Try.func70.trans (congrArg some (by kernel_rfl))
  f33 := ⟨Try.f71.name, by decide, Try.func71.trans (congrArg some (by kernel_rfl))⟩
  f34 := ⟨Try.f72.name, by decide, Try.func72.trans (congrArg some (by kernel_rfl))⟩
  f35 := ⟨Try.f73.name, by decide, Try.func73.trans (congrArg some (by kernel_rfl))⟩
  f40 := ⟨Try.f74.name, by decide, Try.func74.trans (congrArg some (by kernel_rfl))⟩
  t0 := Try.underlying0
  a0 := Try.isAgg0
  z0 := Try.sizeOf0
  v0 := Try.zeroValue0
  t3 := Try.underlying3
  a3 := Try.isAgg3
  z3 := Try.sizeOf3
  v3 := Try.zeroValue3
  t4 := Try.underlying4
  a4 := Try.isAgg4
  z4 := Try.sizeOf4
  v4 := Try.zeroValue4
  t5 := Try.underlying5
  a5 := Try.isAgg5
  z5 := Try.sizeOf5
  v5 := Try.zeroValue5
  t9 := Try.underlying9
  a9 := Try.isAgg9
  z9 := Try.sizeOf9
  v9 := Try.zeroValue9
  t22 := Try.underlying29
  a22 := Try.isAgg29
  z22 := Try.sizeOf29
  v22 := Try.zeroValue29
  t23 := Try.underlying29
  a23 := Try.isAgg29
  z23 := Try.sizeOf29
  v23 := Try.zeroValue29
  t25 := Try.underlying3
  a25 := Try.isAgg3
  z25 := Try.sizeOf3
  v25 := Try.zeroValue3
  t32 := Try.underlying108
  a32 := Try.isAgg108
  z32 := Try.sizeOf108
  v32 := Try.zeroValue108
  t35 := Try.underlying110
  a35 := Try.isAgg110
  z35 := Try.sizeOf110
  v35 := Try.zeroValue110
  t36 := Try.underlying111
  a36 := Try.isAgg111
  z36 := Try.sizeOf111
  v36 := Try.zeroValue111
  t41 := Try.underlying115
  a41 := Try.isAgg115
  z41 := Try.sizeOf115
  v41 := Try.zeroValue115
  t44 := Try.underlying118
  a44 := Try.isAgg118
  z44 := Try.sizeOf118
  v44 := Try.zeroValue118
  t46 := Try.underlying120
  a46 := Try.isAgg120
  z46 := Try.sizeOf120
  v46 := Try.zeroValue120
  t53 := Try.underlying121
  a53 := Try.isAgg121
  z53 := Try.sizeOf121
  v53 := Try.zeroValue121
  t57 := Try.underlying125
  a57 := Try.isAgg125
  z57 := Try.sizeOf125
  v57 := Try.zeroValue125
  t63 := Try.underlying127
  a63 := Try.isAgg127
  z63 := Try.sizeOf127
  v63 := Try.zeroValue127
  t64 := Try.underlying91
  a64 := Try.isAgg91
  z64 := Try.sizeOf91
  v64 := Try.zeroValue91 }
end Go.Proofs
end
section
namespace Go.Proofs.YtmfabpkliogjlaaWin
open Go.RowKit Go.Maps Go.Sort Go.Shelf
set_option linter.unusedSimpArgs false
set_option linter.unusedVariables false
theorem intKeys_has {P : Program} {R : Value → Option (DataW Unit × List MemPlace)} {w : World} {b n : Nat} {D0 : DataW Unit} (hown : w.ownsMap P 3 R b n D0) (hk : P.underlying 3 = some (.int .i64)) : (intKeys D0).Nodup ∧ (∀ x, x ∈ intKeys D0 ↔ has D0 (.int .i64 x) = true) ∧ Maps.size D0 ≤ n := by
  obtain ⟨es, hD, hp, _⟩ := hown.entries (int_keyed hk)
  obtain ⟨es', hD', hko⟩ := hown.keysOf
  obtain rfl : es = es' := by rw [hD] at hD'; simpa using hD'
  subst hD
  have hk' : ∀ p ∈ es, ∃ x, p.1 = .int .i64 x := fun p hp => by obtain ⟨v, hv⟩ := hko p hp; obtain ⟨x, _, hx, _⟩ := Maps.keyOf_i64 hk hv; exact ⟨x, hx⟩
  refine ⟨?_, fun x => ?_, ?_⟩
  · show (es.map fun p => _root_.Go.intOf p.1).Nodup
    refine List.pairwise_map.2 (hp.imp_of_mem fun {p q} hp' hq' hne e => hne ?_)
    obtain ⟨a, ha⟩ := hk' p hp'
    obtain ⟨b, hb⟩ := hk' q hq'
    rw [ha, hb] at e ⊢
    exact congrArg _ e
  · rw [has_eq, List.any_eq_true]
    show x ∈ es.map (fun p => _root_.Go.intOf p.1) ↔ _
    rw [List.mem_map]
    constructor
    · rintro ⟨p, hp', rfl⟩
      obtain ⟨a, ha⟩ := hk' p hp'
      exact ⟨p, hp', by rw [ha]; simp [Lit.sameKey, _root_.Go.intOf]⟩
    · rintro ⟨p, hp', hs⟩
      obtain ⟨a, ha⟩ := hk' p hp'
      rw [ha] at hs
      exact ⟨p, hp', by rw [ha]; simpa [Lit.sameKey, _root_.Go.intOf] using hs⟩
  · obtain ⟨es2, clock, _, _, hs, hD2⟩ := hown
    rw [hD2, size_eq, length_sorted]
    simpa using hs
def KeysOfM {α : Type} (m : Int → Option α) (ss : List Int) : Prop := ss.Pairwise (· < ·) ∧ (∀ x, Fits x → (x ∈ ss ↔ (m x).isSome = true)) ∧ ∀ x ∈ ss, Fits x
theorem keysOfM {α : Type} {E : ElemK α} {P : Program} {W : World} {b n : Nat} {m : Int → Option α} {D : DataW Unit} (hown : W.ownsMap P 3 E.R b n D) (hk : P.underlying 3 = some (.int .i64))
    (hm : ∀ x, (Lit.int .i64 x).wf = true → match m x with | some a => ∀ z, D.atKey (.int .i64 x) z = E.dat a | none => ∀ z, D.atKey (.int .i64 x) z = z) {ss : List Int} (hp : ss.Perm (intKeys D)) :
    KeysOfM m (ss.mergeSort leI) := by
  obtain ⟨h1, h2, h3⟩ := intKeys_has hown hk
  have tr : ∀ a b c : Int, leI a b = true → leI b c = true → leI a c = true := fun a b c h1 h2 => by simp only [leI, decide_eq_true_eq] at *; exact Int.le_trans h1 h2
  have hto : ∀ a b : Int, (leI a b || leI b a) = true := fun a b => by simp only [leI, Bool.or_eq_true, decide_eq_true_eq]; exact Int.le_total a b
  have hsp := List.mergeSort_perm ss leI
  refine ⟨?_, fun x hx => ?_, fun x hx => intKeys_wf hown hk x ((hsp.trans hp).mem_iff.1 hx)⟩
  · have p1 := List.pairwise_mergeSort tr hto ss
    have p2 : (ss.mergeSort leI).Pairwise (· ≠ ·) := (hsp.trans hp).nodup_iff.2 h1
    refine (p1.and p2).imp (fun {a b} h => ?_)
    have h5 : a ≤ b := by simpa [leI] using h.1
    have h6 := h.2
    omega
  · rw [(hsp.trans hp).mem_iff, h2 x]
    have := hm x hx
    cases hc : m x with
    | none =>
      rw [hc] at this
      rw [has_false_of_atKey this]
      simp
    | some a =>
      rw [hc] at this
      rw [has_true_of_atKey this]
      simp
theorem sortsI (m : Nat) : AnyZI.SortsIn Try.prog Try.sortedI_ren Fence.wide m :=
  ⟨fun blk off cap ss W hH hblk hsz => callsIn_wide.2 (AnyM.slices_Sort_int Try.sortI blk off cap ss W hH hblk hsz),
   fun p cap W => callsIn_wide.2 (AnyM.slices_Sort_int_none Try.sortI p cap W)⟩
set_option maxRecDepth 100000 in
set_option maxHeartbeats 2000000 in
theorem Held_calls {p b n : Nat} {nx sz : Int} {m : Int → Option Int} (w : World) (h : WinAt w p b nx sz m n) (hn : n ≤ 2000000) :
    Calls Try.prog 16 #[.pointer (some ⟨p, 0, none⟩)] w fun e w' => ∃ (v : Value) (ss : List Int), e = .returned v ∧ KeysOfM m ss ∧
      w'.ownsRow w.heap.size 3 1 v ss.length (ss.map (Value.int .i64)) ∧ Below w.heap.size w w' := by
  have c2 := h.c2
  obtain ⟨D0, hown, hm⟩ := h.2
  obtain ⟨_, _, hs⟩ := intKeys_has hown Try.underlying3
  refine (callsIn_wide (n := 6)).1 ?_
  have hbl := hown.lt
  have hseq : SeqGives Fence.wide 2 Try.prog 50 #[.pointer (some ⟨w.heap.size, 0, none⟩)] encZ (fun ss => ss.Perm (intKeys D0)) (Maps.size D0) (w.alloc (.cells #[.map (some b)] 71)) :=
    AnyZI.keys_gives (ρ := Try.keysI_ren) { Try.keysI with } Fence.wide _ trivial rfl (by omega) w.heap.size b n D0 _ (by simp) (by simp) (by
      obtain ⟨es, clock, hb, Ft, hs, hD⟩ := hown
      exact ⟨es, clock, (Below.heap_alloc _ _ b hbl).trans hb, Ft, hs, hD⟩)
  have cK : ∀ mb W, CallsIn Fence.wide 5 Try.prog 35 #[.map mb] W fun e w' => e = .returned (.func (.func 50) #[] #[.pointer (some ⟨W.heap.size, 0, none⟩)]) ∧ w' = W.alloc (.cells #[.map mb] 71) := fun mb W => AnyZI.keys_in Try.keysI Fence.wide 5 trivial rfl mb W
  have cS := AnyZI.sorted_in Try.sortedI Fence.wide 5 trivial trivial trivial trivial rfl (by omega) (sortsI _) (enters_of Try.func49 (by kernel_rfl) rfl) 50 #[.pointer (some ⟨w.heap.size, 0, none⟩)] trivial (enters_of Try.func50 (by kernel_rfl) rfl) _ _ (by simp [maxLen]; omega) (by omega) _ hseq
  change CallsIn _ _ Try.prog 34 _ _ _ at cS
  have hfK : Fence.wide.fn 35 := trivial
  have hfS : Fence.wide.fn 34 := trivial
  refine callsIn_of_wp Try.func16 rfl trivial ?_ rfl
  simp only [Try.ntmps16, List.size_toArray, List.length_cons, List.length_nil, Nat.reduceAdd, Nat.reduceSub, Array.replicate_succ, Array.replicate_zero, List.push_toArray, List.append_toArray, List.nil_append, List.cons_append]
  gi_wp2_with (first
    | (gi_at_call 35; refine (cK _ _).mono ?_; rintro e w' ⟨rfl, rfl⟩)
    | (gi_at_call 34; refine cS.mono ?_; rintro e w' ⟨v, ss, rfl, hS, hrow, hnil, hb⟩))
  go_ret
  have hk := keysOfM hown Try.underlying3 hm hS
  refine ⟨v, ss.mergeSort leI, rfl, hk, ?_, ((Below.refl _ w).alloc (Nat.le_refl _) _).trans (hb.mono (by simp))⟩
  have := ownsRow_base_a (base' := w.heap.size) hrow (by simp)
  rw [List.length_mergeSort]
  exact this
end Go.Proofs.YtmfabpkliogjlaaWin
end
section
namespace Go.Proofs.YtmfabpkliogjlaaWin
open Go.RowKit Go.Lib
set_option linter.unusedSimpArgs false
set_option linter.unusedVariables false
structure Pair (W : World) (lab : Nat → Nat) (i p b q : Nat) (nx sz : Int) (hs : Things) (n : Nat) : Prop where
  win : WinAt W p b nx sz (look hs) n
  lp : lab p = i
  lb : lab b = i
  ref : RefAt W q nx sz hs (fun k => lab k = i ∧ k ≠ p ∧ k ≠ b)
  keys : Keys hs
  ge : ∀ y ∈ hs, nx ≤ y.1
  lt : ∀ y ∈ hs, y.1 ≤ 10000000
  nx0 : 0 ≤ nx
  nx1 : nx ≤ 5000000
  sz0 : 1 ≤ sz ∧ sz ≤ 1048576
  len : hs.length ≤ n
  nb : n ≤ 1000000
section
variable {W W' : World} {lab lab' : Nat → Nat} {i p b q : Nat} {nx sz : Int} {hs : Things} {n : Nat}
theorem RefAt.relab_ {S' : Nat → Prop} {S : Nat → Prop} (h : RefAt W q nx sz hs S) (hS : ∀ k, k < W.heap.size → S k → S' k) : RefAt W q nx sz hs S' := by
  obtain ⟨v, h1, h2, h3, h4⟩ := h
  exact ⟨v, h1, h2, hS _ (Array.getElem?_eq_some_iff.1 h1).1 h3, fun g hg => hS _ (h2.lt g hg).2 (h4 g hg)⟩
theorem Pair.other {j : Nat} (h : Pair W lab i p b q nx sz hs n) (a : Act_ j lab lab' W W') (hij : i ≠ j) : Pair W' lab' i p b q nx sz hs n :=
  { h with
    win := h.win.only a.only (by rw [h.lp]; exact hij) (by rw [h.lb]; exact hij)
    lp := (a.old p h.win.lt).trans h.lp
    lb := (a.old b h.win.2.lt).trans h.lb
    ref := by
      have h1 := h.ref.relab_ (S' := fun k => lab' k = i ∧ k ≠ p ∧ k ≠ b) (fun k hk hs => ⟨(a.old k hk).trans hs.1, hs.2⟩)
      have h2 := h.ref.relab_ (S' := fun k => k < W.heap.size ∧ lab k = i ∧ k ≠ p ∧ k ≠ b) (fun k hk hs => ⟨hk, hs⟩)
      have h3 := h2.only a.only (fun k hs hk => hij (hs.2.1.symm.trans hk))
      exact h3.mono (fun k hs => ⟨(a.old k hs.1).trans hs.2.1, hs.2.2⟩) }
theorem Pair.fits (h : Pair W lab i p b q nx sz hs n) : Fits nx := fits_of ⟨by have := h.nx0; omega, by have := h.nx1; omega⟩
theorem Pair.held (h : Pair W lab i p b q nx sz hs n) {ss ms : List Int} (hs1 : KeysOfM (look hs) ss) (h2 : ms.Pairwise (· < ·)) (h3 : ∀ x, x ∈ ms ↔ x ∈ hs.map (·.1)) : ss = ms := by
  refine rising_uniq ss ms hs1.1 h2 (fun x => ?_)
  rw [h3]
  constructor
  · intro hx
    exact look_isSome.1 ((hs1.2.1 x (hs1.2.2 x hx)).1 hx)
  · intro hx
    have hf : Fits x := by
      obtain ⟨y, hy, rfl⟩ := List.mem_map.1 hx
      have h1 := h.ge y hy
      have h2 := h.lt y hy
      have h3 := h.nx0
      exact fits_of ⟨by omega, by omega⟩
    exact (hs1.2.1 x hf).2 (look_isSome.2 hx)
end
theorem HeldAt.relab_ {W : World} {hb : Nat} {cs : List (List Int)} {S S' : Nat → Prop} (h : HeldAt W hb cs S S) (hS : ∀ k, k < W.heap.size → S k → S' k) : HeldAt W hb cs S' S' := by
  obtain ⟨v1, v2, gs, ws, e1, e2, e3, e4, e5, e6, e7, e8, eD, e9⟩ := h
  refine ⟨v1, v2, gs, ws, e1, hS _ (Array.getElem?_eq_some_iff.1 e1).1 e2, e3, e4, fun g hg => hS _ (e3.lt g hg).2 (e5 g hg), fun g hg => hS _ (e4.lt g hg).2 (e6 g hg), e7, e8, eD, fun i hi => ?_⟩
  obtain ⟨a, b, f1, f2, f3, f4⟩ := e9 i hi
  exact ⟨a, b, f1, f2, f3.lt_.mono (fun k hk => hS k hk.2 hk.1), f4.lt_.mono (fun k hk => hS k hk.2 hk.1)⟩
structure Kept (W : World) (lab : Nat → Nat) (h hb : Nat) (cs : List (List Int)) : Prop where
  at_ : HeldAt W hb cs (fun k => lab k = h) (fun k => lab k = h)
  lens : ∀ c ∈ cs, c.length ≤ 4000000
theorem Kept.other {W W' : World} {lab lab' : Nat → Nat} {h hb j : Nat} {cs : List (List Int)} (k : Kept W lab h hb cs) (a : Act_ j lab lab' W W') (hj : h ≠ j) : Kept W' lab' h hb cs := by
  refine ⟨?_, k.lens⟩
  have h1 := k.at_.relab_ (S' := fun k => k < W.heap.size ∧ lab k = h) (fun k hk hs => ⟨hk, hs⟩)
  have h2 := h1.only a.only (fun k hs hk => hj (hs.2.symm.trans hk)) (fun k hs hk => hj (hs.2.symm.trans hk))
  exact h2.mono (fun k hs => (a.old k hs.1).trans hs.2) (fun k hs => (a.old k hs.1).trans hs.2)
set_option maxRecDepth 100000 in
set_option maxHeartbeats 2000000 in
theorem told_calls {lab : Nat → Nat} {i h p b q hb n : Nat} {nx sz : Int} {hs : Things} {cs : List (List Int)} (w : World) (P : Pair w lab i p b q nx sz hs n) (H : Kept w lab h hb cs) (hn : cs.length ≤ 1000) :
    Calls Try.prog 28 #[.pointer (some ⟨p, 0, none⟩), .pointer (some ⟨q, 0, none⟩), .pointer (some ⟨hb, 0, none⟩)] w fun e w' => e = .returned (.bool true) ∧ ∃ lab' cs', Act_ h lab lab' w w' ∧ Kept w' lab' h hb cs' ∧ cs'.length = cs.length + 2 := by
  have hc1 := Held_calls w P.win (by have := P.nb; omega)
  have PP := Lib.hid P
  have HH := Lib.hid H
  clear P H
  go_enter Try.func28, Try.ntmps28
  go_upto_region 2 with (go_at_call 16; refine hc1.mono ?_; rintro e w1 ⟨v, ss, rfl, hk, hrow, hb1⟩)
  have hr2 := RHeld_calls w1 (PP.out.ref.below hb1) PP.out.keys (by have := PP.out.len; have := PP.out.nb; omega) PP.out.nx0 (by have := PP.out.nx1; omega) PP.out.ge
  have HKm := Lib.hid hk
  have HRow := Lib.hid hrow
  have HB1 := Lib.hid hb1
  clear hc1 hk hrow hb1
  go_upto_region 3 with (go_at_call 44; refine hr2.mono ?_; rintro e w2 ⟨u, ms, rfl, hrow2, hp2, hm2, hb2⟩)
  have heq := PP.out.held HKm.out hp2 hm2
  subst heq
  have HB2 := Lib.hid (HB1.out.trans (hb2.mono HB1.out.size))
  have HRow1 : Hid (w2.ownsRow w.heap.size 3 1 v ss.length (intsV ss)) := row_keep HRow.out (fun g hg => hb2.block g (HRow.out.lt g hg).2)
  have HRow2 := Lib.hid hrow2
  have hnx := Next_calls w2 (PP.out.win.below HB2.out)
  clear hr2 hrow2 hb2 hp2 hm2 HRow HB1
  go_upto_region 4 with (go_at_call 15; refine hnx.mono ?_; rintro e w3 ⟨rfl, ho3⟩)
  have HB3 : Hid (Below w.heap.size w w3) := HB2.out.trans ((ho3.below (Nat.le_refl _) (fun k hk => hk.elim)).mono HB2.out.size)
  have b3 : Below w2.heap.size w2 w3 := ho3.below (Nat.le_refl _) (fun k hk => hk.elim)
  have hlen : ss.length ≤ 2000000 := by
    have h1 : ss.Nodup := HKm.out.1.imp (fun {a b} (h : a < b) => (show a ≠ b by omega))
    have h2 := nodup_len ss (hs.map (·.1)) h1 (fun x hx => look_isSome.1 ((HKm.out.2.1 x (HKm.out.2.2 x hx)).1 hx))
    rw [List.length_map] at h2
    have := PP.out.len
    have := PP.out.nb
    omega
  have HR1 : Hid (w3.ownsRow w.heap.size 3 1 v ss.length (intsV ss)) := row_keep HRow1.out (fun g hg => b3.block g (HRow1.out.lt g hg).2)
  have hs1 := same_calls (S := fun _ => True) (T := fun _ => True) w3 (IntsAt.of_row HR1.out (fun _ _ => trivial)) ((IntsAt.of_row HRow2.out (fun _ _ => trivial)).below b3) (by omega)
  rw [decide_eq_true rfl] at hs1
  clear hnx ho3 b3 HRow1 HRow2 HB2
  go_upto_region 5 with (first
    | (go_at_call 43; refine hs1.mono ?_; rintro e w4 ⟨rfl, hb4⟩; have HB4 := Lib.hid (HB3.out.trans (hb4.mono HB3.out.size)); have HR4 : Hid (w4.ownsRow w.heap.size 3 1 v ss.length (intsV ss)) := row_keep HR1.out (fun g hg => hb4.block g (HR1.out.lt g hg).2); clear hb4)
    | (go_at_call 45; refine (RNext_calls _ (PP.out.ref.below HB4.out)).mono ?_; rintro e w5 ⟨rfl, rfl⟩))
  have hk5 := (HH.out.at_.relab_ (S' := fun k => lab k = h ∧ k < w.heap.size) (fun k hk hs => ⟨hs, hk⟩)).below HB4.out
  have ht := take_calls _ hk5 hn ss w.heap.size v HR4.out HB4.out.size (fun g hg hS => by have := (HR4.out.lt g hg).1; omega) hlen
  have HBs := Lib.hid HB4.out.size
  have HV := Lib.hid (fun g (hg : v.ownBlock = some g) => (HR4.out.lt g hg).1)
  clear hk5 hs1
  go_wp2_with (go_at_call 46; refine ht.mono ?_; rintro e w6 ⟨rfl, cs', hl', hls', hH', hO'⟩; have hl' := Lib.hid hl'; have hls' := Lib.hid hls'; have hH' := Lib.hid hH'; have hO' := Lib.hid hO')
  go_ret
  refine ⟨rfl, relab lab w.heap.size h, cs', ⟨⟨hO'.out.os.trans HB4.out.os, hO'.out.tape.trans HB4.out.tape, hO'.out.output.trans HB4.out.output, Nat.le_trans HBs.out hO'.out.size, fun k hk hne => ?_⟩, fun k hk => if_pos hk, fun k hk _ => if_neg (by omega)⟩, ⟨?_, fun c hc => ?_⟩, hl'.out⟩
  · refine (hO'.out.block k (Nat.lt_of_lt_of_le hk HBs.out) (fun hh => ?_)).trans (HB4.out.block k hk)
    rcases hh with hh | hh
    · exact hne hh.1
    · have := HV.out k hh
      omega
  · have key : ∀ N : Nat, w.heap.size ≤ N → ∀ k, ((lab k = h ∧ k < w.heap.size) ∨ v.ownBlock = some k ∨ N ≤ k) → relab lab w.heap.size h k = h := by
      intro N hN k hk
      unfold relab
      by_cases c : k < w.heap.size
      · rw [if_pos c]
        rcases hk with hk | hk | hk
        · exact hk.1
        · have := HV.out k hk
          omega
        · omega
      · rw [if_neg c]
    exact hH'.out.mono (key _ HBs.out) (key _ HBs.out)
  · rcases hls'.out c hc with hh | hh
    · exact HH.out.lens c hh
    · omega
end Go.Proofs.YtmfabpkliogjlaaWin
end
section
namespace Go.Proofs.YtmfabpkliogjlaaWin
open Go.RowKit Go.Lib
set_option linter.unusedSimpArgs false
set_option linter.unusedVariables false
section
variable {W W' : World} {lab lab' : Nat → Nat} {i p b q : Nat} {nx sz : Int} {hs : Things} {n : Nat}
theorem relab_i {lab : Nat → Nat} {N i k : Nat} (h : k < N → lab k = i) : relab lab N i k = i := by
  unfold relab
  by_cases c : k < N
  · rw [if_pos c]; exact h c
  · rw [if_neg c]
theorem Pair.idle (P : Pair W lab i p b q nx sz hs n) (hb : Below W.heap.size W W') : Act_ i lab (relab lab W.heap.size i) W W' ∧ Pair W' (relab lab W.heap.size i) i p b q nx sz hs n := by
  refine ⟨Act_.of (S := fun _ => False) (Only.of_below hb) (fun k hk => hk.elim), { P with
    win := P.win.below hb
    lp := relab_i (fun _ => P.lp)
    lb := relab_i (fun _ => P.lb)
    ref := (P.ref.below hb).mono (fun k hk => ⟨relab_i (fun _ => hk.1), hk.2⟩) }⟩
theorem Pair.step {w1 w2 : World} {nx' : Int} {hs' : Things} {n' : Nat} (P : Pair W lab i p b q nx sz hs n) (ho1 : Only (fun k => k = b ∨ k = p) W w1) (ho2 : Only (fun k => lab k = i ∧ k ≠ p ∧ k ≠ b) w1 w2)
    (hw : WinAt w1 p b nx' sz (look hs') n') (hr : RefAt w2 q nx' sz hs' (fun k => (lab k = i ∧ k ≠ p ∧ k ≠ b) ∨ w1.heap.size ≤ k)) (hk : Keys hs') (hge : ∀ y ∈ hs', nx' ≤ y.1) (hlt : ∀ y ∈ hs', y.1 ≤ 10000000) (h0 : 0 ≤ nx') (h1 : nx' ≤ 5000000) (hl : hs'.length ≤ n') (hn : n' ≤ 1000000) :
    Act_ i lab (relab lab W.heap.size i) W w2 ∧ Pair w2 (relab lab W.heap.size i) i p b q nx' sz hs' n' := by
  have hs1 := ho1.size
  have o1 : Only (fun k => lab k = i) W w1 := ho1.mono (fun k hk => by
    rcases hk with rfl | rfl
    · exact P.lb
    · exact P.lp)
  have o2 : Only (fun k => lab k = i) w1 w2 := ho2.mono (fun k hk => hk.1)
  refine ⟨Act_.of (o1.trans o2) (fun k hk => hk), ⟨hw.only ho2 (fun h => h.2.1 rfl) (fun h => h.2.2 rfl), relab_i (fun _ => P.lp), relab_i (fun _ => P.lb), ?_, hk, hge, hlt, h0, h1, P.sz0, hl, hn⟩⟩
  refine hr.mono (fun k hk => ?_)
  rcases hk with hk | hk
  · exact ⟨relab_i (fun _ => hk.1), hk.2⟩
  · have h1 := P.win.lt
    have h2 := P.win.2.lt
    exact ⟨relab_i (fun hh => by omega), by omega, by omega⟩
theorem Pair.refw {w1 : World} (P : Pair W lab i p b q nx sz hs n) (ho1 : Only (fun k => k = b ∨ k = p) W w1) : RefAt w1 q nx sz hs (fun k => lab k = i ∧ k ≠ p ∧ k ≠ b) :=
  P.ref.only ho1 (fun k hk hh => by
    rcases hh with rfl | rfl
    · exact hk.2.2 rfl
    · exact hk.2.1 rfl)
end
def Stepped (W w' : World) (lab : Nat → Nat) (i p b q : Nat) (nx sz : Int) (hs : Things) (n : Nat) : Prop :=
  ∃ lab' nx' hs' n', Act_ i lab lab' W w' ∧ Pair w' lab' i p b q nx' sz hs' n' ∧ hs'.length ≤ hs.length + 1 ∧ nx' + (hs'.length : Int) ≤ nx + (hs.length : Int) + 1 ∧ n' ≤ n + hs.length + 2
section
variable {lab : Nat → Nat} {i p b q hb : Nat} {nx sz : Int} {hs : Things} {n : Nat}
theorem putE_nx {m : Int → Option Int} {x : Int} (h : putE nx sz m x = 0) : nx ≤ x ∧ x - nx < sz ∧ m x = none := by
  unfold putE at h
  by_cases c1 : x < nx
  · rw [if_pos c1] at h; cases h
  · rw [if_neg c1] at h
    by_cases c2 : x - nx ≥ sz
    · rw [if_pos c2] at h; cases h
    · rw [if_neg c2] at h
      cases hm : m x with
      | none => exact ⟨by omega, by omega, rfl⟩
      | some a => rw [hm] at h; cases h
theorem put_world (w : World) (P : Pair w lab i p b q nx sz hs n) (hroom : nx + (hs.length : Int) ≤ 4000000) (hn : n + hs.length + 2 ≤ 1000000) (x v : Int) (hf : Fits x) {w1 w2 : World}
    (hw : WinAt w1 p b nx sz (if putE nx sz (look hs) x = 0 then fun y => if y = x then some v else look hs y else look hs) (n + 1)) (ho1 : Only (fun k => k = b) w w1)
    (hr : RefAt w2 q nx sz (if putE nx sz (look hs) x = 0 then hs ++ [(x, v)] else hs) (fun k => (lab k = i ∧ k ≠ p ∧ k ≠ b) ∨ w1.heap.size ≤ k)) (ho2 : Only (fun k => lab k = i ∧ k ≠ p ∧ k ≠ b) w1 w2) : Stepped w w2 lab i p b q nx sz hs n := by
  by_cases c : putE nx sz (look hs) x = 0
  · obtain ⟨h1, h2, h3⟩ := putE_nx c
    rw [if_pos c] at hw hr
    rw [← look_put h3] at hw
    have hsz := P.sz0
    have hnx := P.nx1
    obtain ⟨a1, a2⟩ := P.step (ho1.mono (fun k hk => .inl hk)) ho2 hw hr (P.keys.put h3) (fun y hy => by
      rcases List.mem_append.1 hy with hy | hy
      · exact P.ge y hy
      · rw [List.mem_singleton.1 hy]; exact h1) (fun y hy => by
      rcases List.mem_append.1 hy with hy | hy
      · exact P.lt y hy
      · rw [List.mem_singleton.1 hy]
        show x ≤ 10000000
        omega) P.nx0 P.nx1 (by rw [List.length_append]; have := P.len; simp; omega) (by omega)
    refine ⟨_, _, _, _, a1, a2, by rw [List.length_append]; simp, by rw [List.length_append]; simp; omega, by omega⟩
  · rw [if_neg c] at hw hr
    obtain ⟨a1, a2⟩ := P.step (ho1.mono (fun k hk => .inl hk)) ho2 hw hr P.keys P.ge P.lt P.nx0 P.nx1 (by have := P.len; omega) (by omega)
    exact ⟨_, _, _, _, a1, a2, by omega, by omega, by omega⟩
set_option maxRecDepth 100000 in
set_option maxHeartbeats 2000000 in
theorem plays_put (w : World) (P : Pair w lab i p b q nx sz hs n) (hroom : nx + (hs.length : Int) ≤ 4000000) (hn : n + hs.length + 2 ≤ 1000000) (wh x v : Int) (hf : Fits x) (H : Value) :
    Calls Try.prog 26 #[.pointer (some ⟨p, 0, none⟩), .pointer (some ⟨q, 0, none⟩), .agg #[.int .i64 1, .int .i64 wh, .int .i64 x, .int .i64 v], H] w fun e w' => e = .returned (.bool true) ∧ Stepped w w' lab i p b q nx sz hs n := by
  have hb := (Below.refl w.heap.size w).alloc (Nat.le_refl _) (.cells #[.int .i64 1, .int .i64 wh, .int .i64 x, .int .i64 v] 61)
  have hnew := World.alloc_heap_new w (.cells #[.int .i64 1, .int .i64 wh, .int .i64 x, .int .i64 v] 61)
  obtain ⟨a0, P0⟩ := P.idle hb
  have hp1 := Put_calls _ P0.win P0.nx0 (by unfold maxLen; omega) x v hf
  have A0 := Lib.hid a0
  have PP := Lib.hid P0
  have HN := Lib.hid hnew
  clear a0 P0 hnew hb P
  go_enter Try.func26, Try.ntmps26
  go_upto_region 4 with (go_at_call 13; refine hp1.mono ?_; rintro e w1 ⟨rfl, hw1, ho1⟩)
  have hxb : w.heap.size ≠ b := by
    rintro rfl
    obtain ⟨es, cl, hmap⟩ := PP.out.win.2.isMap
    rw [HN.out] at hmap
    cases hmap
  have hg1 := (ho1.block w.heap.size (by simp) hxb).trans HN.out
  have y2 := cell_of hg1 2
  have y3 := cell_of hg1 3
  have hr1 := PP.out.refw (ho1.mono (fun k hk => .inl hk))
  have hp2 := RPut_calls w1 hr1 (by have := PP.out.len; omega) PP.out.nx0 x v hf
  have HW1 := Lib.hid hw1
  have HO1 := Lib.hid ho1
  obtain ⟨c, hc⟩ : ∃ c, putE nx sz (look hs) x = c := ⟨_, rfl⟩
  have HPW := Lib.hid (fun (w2 : World) => put_world (w2 := w2) _ PP.out hroom hn x v hf HW1.out HO1.out)
  have HP2 := Lib.hid hp2
  clear hp1 hp2 hr1 hg1 hw1 ho1 hc
  go_wp2_with (go_at_call 38; refine HP2.out.mono ?_; rintro e w2 ⟨rfl, hr2, ho2⟩; have hst := Lib.hid (HPW.out w2 hr2 ho2); clear hr2 ho2)
  go_ret
  obtain ⟨lab', nx', hs', n', s1, s2, s3⟩ := hst.out
  exact ⟨by simp, lab', nx', hs', n', A0.out.trans s1, s2, s3⟩
end
end Go.Proofs.YtmfabpkliogjlaaWin
end
section
namespace Go.Proofs.YtmfabpkliogjlaaWin
open Go.RowKit Go.Lib
set_option linter.unusedSimpArgs false
set_option linter.unusedVariables false
section
variable {lab : Nat → Nat} {i p b q hb : Nat} {nx sz : Int} {hs : Things} {n : Nat}
theorem wo_length (hs : Things) (x : Int) : (wo hs x).length ≤ hs.length := List.length_filter_le _ _
theorem wo_len_some {hs : Things} (hk : Keys hs) {x v : Int} (h : look hs x = some v) : (wo hs x).length + 1 = hs.length := by
  have h1 := look_isSome.1 (by rw [h]; rfl : (look hs x).isSome = true)
  obtain ⟨y, hy, rfl⟩ := List.mem_map.1 h1
  obtain ⟨j, hj, rfl⟩ := List.getElem_of_mem hy
  exact wo_len hk hj
theorem Stepped.same {w w' : World} (P : Pair w lab i p b q nx sz hs n) (hb : Below w.heap.size w w') : Stepped w w' lab i p b q nx sz hs n := by
  obtain ⟨a, P'⟩ := P.idle hb
  exact ⟨_, _, _, _, a, P', by omega, by omega, by omega⟩
set_option maxRecDepth 100000 in
set_option maxHeartbeats 2000000 in
theorem plays_peek (w : World) (P : Pair w lab i p b q nx sz hs n) (wh x v : Int) (H : Value) :
    Calls Try.prog 26 #[.pointer (some ⟨p, 0, none⟩), .pointer (some ⟨q, 0, none⟩), .agg #[.int .i64 2, .int .i64 wh, .int .i64 x, .int .i64 v], H] w fun e w' => e = .returned (.bool true) ∧ Stepped w w' lab i p b q nx sz hs n := by
  have hb := (Below.refl w.heap.size w).alloc (Nat.le_refl _) (.cells #[.int .i64 2, .int .i64 wh, .int .i64 x, .int .i64 v] 61)
  have hp1 := Peek_calls _ (P.win.below hb) P.fits
  obtain ⟨c, hc⟩ : ∃ c : Int, (if (look hs nx).isSome then (0 : Int) else 15) = c := ⟨_, rfl⟩
  obtain ⟨g, hg⟩ : ∃ g : Int, (look hs nx).getD 0 = g := ⟨_, rfl⟩
  have hp2 := fun (w1 : World) (h : Below w.heap.size w w1) => RPeek_calls w1 (P.ref.below h) (by have := P.len; have := P.nb; omega)
  rw [hc, hg] at hp1
  simp only [hc, hg] at hp2
  have PP := Lib.hid P
  have HB := Lib.hid hb
  have HP2 := Lib.hid hp2
  clear P hb hp2 hc hg
  go_enter Try.func26, Try.ntmps26
  go_wp2_with (first
    | (go_at_call 17; refine hp1.mono ?_; rintro e w1 ⟨rfl, ho1⟩; have HB1 := Lib.hid (HB.out.trans ((ho1.below (Nat.le_refl _) (fun k hk => hk.elim)).mono HB.out.size)); clear ho1)
    | (go_at_call 39; refine (HP2.out _ HB1.out).mono ?_; rintro e w2 ⟨hw2, rfl⟩; subst hw2))
  go_ret
  exact ⟨by simp, Stepped.same PP.out HB1.out⟩
set_option maxRecDepth 100000 in
set_option maxHeartbeats 2000000 in
theorem plays_drop (w : World) (P : Pair w lab i p b q nx sz hs n) (wh x v : Int) (hf : Fits x) (H : Value) :
    Calls Try.prog 26 #[.pointer (some ⟨p, 0, none⟩), .pointer (some ⟨q, 0, none⟩), .agg #[.int .i64 4, .int .i64 wh, .int .i64 x, .int .i64 v], H] w fun e w' => e = .returned (.bool true) ∧ Stepped w w' lab i p b q nx sz hs n := by
  have hb := (Below.refl w.heap.size w).alloc (Nat.le_refl _) (.cells #[.int .i64 4, .int .i64 wh, .int .i64 x, .int .i64 v] 61)
  have hnew := World.alloc_heap_new w (.cells #[.int .i64 4, .int .i64 wh, .int .i64 x, .int .i64 v] 61)
  obtain ⟨a0, P0⟩ := P.idle hb
  have hp1 := Drop_calls _ P0.win x hf
  obtain ⟨c, hc⟩ : ∃ c : Int, (if (look hs x).isSome then (0 : Int) else 15) = c := ⟨_, rfl⟩
  rw [hc] at hp1
  have HCC := Lib.hid hc
  have A0 := Lib.hid a0
  have PP := Lib.hid P0
  have HN := Lib.hid hnew
  clear a0 P0 hnew hb P hc
  go_enter Try.func26, Try.ntmps26
  go_upto_region 16 with (go_at_call 30; refine hp1.mono ?_; rintro e w1 ⟨rfl, hw1, ho1⟩)
  have hxb : w.heap.size ≠ b := by
    rintro rfl
    obtain ⟨es, cl, hmap⟩ := PP.out.win.2.isMap
    rw [HN.out] at hmap
    cases hmap
  have hg1 := (ho1.block w.heap.size (by simp) hxb).trans HN.out
  have y2 := cell_of hg1 2
  have ho1' := ho1.mono (fun k hk => (.inl hk : k = b ∨ k = p))
  have hp2 := RDrop_calls w1 (PP.out.refw ho1') PP.out.keys (by have := PP.out.len; have := PP.out.nb; omega) x
  rw [HCC.out] at hp2
  have HW1 := Lib.hid hw1
  have HO1 := Lib.hid ho1'
  have HP2 := Lib.hid hp2
  clear hp1 hp2 hg1 hw1 ho1 ho1'
  go_wp2_with (go_at_call 41; refine HP2.out.mono ?_; rintro e w2 ⟨rfl, hr2, ho2⟩; have hr2 := Lib.hid hr2; have ho2 := Lib.hid ho2)
  go_ret
  have hw := HW1.out
  rw [← look_wo] at hw
  obtain ⟨a1, P1⟩ := PP.out.step HO1.out (ho2.out.mono (fun k hk => by
    have := PP.out.ref
    obtain ⟨v0, _, _, h3, _⟩ := this
    rw [hk]
    exact h3)) hw hr2.out (PP.out.keys.wo x) (fun y hy => PP.out.ge y (wo_mem hy).1) (fun y hy => PP.out.lt y (wo_mem hy).1) PP.out.nx0 PP.out.nx1 (Nat.le_trans (wo_length hs x) PP.out.len) PP.out.nb
  have hlw := wo_length hs x
  exact ⟨by simp, _, _, _, _, A0.out.trans a1, P1, by omega, by omega, by omega⟩
set_option maxRecDepth 100000 in
set_option maxHeartbeats 2000000 in
theorem plays_pass (w : World) (P : Pair w lab i p b q nx sz hs n) (hroom : nx + (hs.length : Int) ≤ 4000000) (wh x v : Int) (H : Value) :
    Calls Try.prog 26 #[.pointer (some ⟨p, 0, none⟩), .pointer (some ⟨q, 0, none⟩), .agg #[.int .i64 3, .int .i64 wh, .int .i64 x, .int .i64 v], H] w fun e w' => e = .returned (.bool true) ∧ Stepped w w' lab i p b q nx sz hs n := by
  have hb := (Below.refl w.heap.size w).alloc (Nat.le_refl _) (.cells #[.int .i64 3, .int .i64 wh, .int .i64 x, .int .i64 v] 61)
  obtain ⟨a0, P0⟩ := P.idle hb
  have hp1 := Pass_calls _ P0.win P0.fits (by have := P0.nx1; omega)
  obtain ⟨c, hc⟩ : ∃ c : Int, (if (look hs nx).isSome then (0 : Int) else 15) = c := ⟨_, rfl⟩
  rw [hc] at hp1
  have HCC := Lib.hid hc
  have A0 := Lib.hid a0
  have PP := Lib.hid P0
  clear a0 P0 hb P hc
  go_enter Try.func26, Try.ntmps26
  go_upto_region 12 with (go_at_call 33; refine hp1.mono ?_; rintro e w1 ⟨rfl, hw1, ho1⟩)
  have hp2 := RPass_calls w1 (PP.out.refw ho1) PP.out.keys (by have := PP.out.len; have := PP.out.nb; omega) PP.out.nx0 (by have := PP.out.nx1; omega)
  rw [HCC.out] at hp2
  have HW1 := Lib.hid hw1
  have HO1 := Lib.hid ho1
  have HP2 := Lib.hid hp2
  clear hp1 hp2 hw1 ho1
  go_wp2_with (go_at_call 40; refine HP2.out.mono ?_; rintro e w2 ⟨rfl, hr2, ho2⟩; have hr2 := Lib.hid hr2; have ho2 := Lib.hid ho2)
  go_ret
  have hw := HW1.out
  rw [← look_wo] at hw
  have hr := hr2.out
  have hS : ∀ k, k = q → (relab lab w.heap.size i k = i ∧ k ≠ p ∧ k ≠ b) := by
    intro k hk
    obtain ⟨v0, _, _, h3, _⟩ := PP.out.ref
    rw [hk]
    exact h3
  have hlw := wo_length hs nx
  cases hlk : look hs nx with
  | none =>
    rw [hlk] at hw hr
    obtain ⟨a1, P1⟩ := PP.out.step HO1.out (ho2.out.mono hS) hw hr (PP.out.keys.wo nx) (fun y hy => PP.out.ge y (wo_mem hy).1) (fun y hy => PP.out.lt y (wo_mem hy).1) PP.out.nx0 PP.out.nx1 (Nat.le_trans hlw PP.out.len) PP.out.nb
    exact ⟨by simp, _, _, _, _, A0.out.trans a1, P1, by omega, by simp; omega, by omega⟩
  | some z =>
    rw [hlk] at hw hr
    have hl1 := wo_len_some PP.out.keys hlk
    obtain ⟨a1, P1⟩ := PP.out.step HO1.out (ho2.out.mono hS) hw hr (PP.out.keys.wo nx) (fun y hy => by
      have h1 := PP.out.ge y (wo_mem hy).1
      have h2 := (wo_mem hy).2
      show nx + 1 ≤ y.1
      omega) (fun y hy => PP.out.lt y (wo_mem hy).1) (by have := PP.out.nx0; show 0 ≤ nx + 1; omega) (by show nx + 1 ≤ 5000000; omega) (Nat.le_trans hlw PP.out.len) PP.out.nb
    exact ⟨by simp, _, _, _, _, A0.out.trans a1, P1, by omega, by show nx + 1 + _ ≤ _; omega, by omega⟩
end
end Go.Proofs.YtmfabpkliogjlaaWin
end
section
namespace Go.Proofs.YtmfabpkliogjlaaWin
open Go.RowKit Go.Lib
set_option linter.unusedSimpArgs false
set_option linter.unusedVariables false
def RoomOk (nx sz : Int) : Prop := 0 ≤ nx ∧ nx ≤ 1048576 ∧ 1 ≤ sz ∧ sz ≤ 1048576
theorem look_empty : look [] = fun _ => none := by funext x; rfl
set_option maxRecDepth 100000 in
set_option maxHeartbeats 2000000 in
theorem opened_yes (w : World) (lab : Nat → Nat) (i : Nat) (nx sz : Int) (h : RoomOk nx sz) : Calls Try.prog 10 #[.agg #[.int .i64 nx, .int .i64 sz]] w fun e w' =>
    ∃ p b q, e = .returned (.tuple #[.pointer (some ⟨p, 0, none⟩), .pointer (some ⟨q, 0, none⟩), .bool true]) ∧ Act_ i lab (relab lab w.heap.size i) w w' ∧ Pair w' (relab lab w.heap.size i) i p b q nx sz [] 0 ∧ Below w.heap.size w w' := by
  have hb := (Below.refl w.heap.size w).alloc (Nat.le_refl _) (.cells #[.int .i64 nx, .int .i64 sz] 27)
  have hnew := World.alloc_heap_new w (.cells #[.int .i64 nx, .int .i64 sz] 27)
  have hn := New_calls nx sz (w.alloc (.cells #[.int .i64 nx, .int .i64 sz] 27))
  rw [World.size_alloc] at hn
  obtain ⟨h0, h1, h2, h3⟩ := h
  have hc : ¬ (nx < 0 ∨ nx > 1048576 ∨ sz < 1 ∨ sz > 1048576) := by omega
  simp only [if_neg hc] at hn
  obtain ⟨p, hp⟩ : ∃ p, p = w.heap.size + 1 + 1 := ⟨_, rfl⟩
  obtain ⟨b, hbb⟩ : ∃ b, b = w.heap.size + 1 := ⟨_, rfl⟩
  rw [← hp, ← hbb] at hn
  have HBB := Lib.hid hbb
  have HPP := Lib.hid hp
  have HN := Lib.hid hnew
  have HB := Lib.hid hb
  clear hc hbb hp hnew hb
  go_enter Try.func10, Try.ntmps10
  go_upto_region 2 with (go_at_call 12; refine hn.mono ?_; rintro e w1 ⟨rfl, hw1, hb1⟩)
  rw [HBB.out] at hb1
  have hg1 := (hb1.block w.heap.size (by omega)).trans HN.out
  have y0 := cell_of hg1 0
  have y1 := cell_of hg1 1
  have hr := RNew_yes nx sz ⟨h0, h1, h2, h3⟩ w1
  obtain ⟨q, hq⟩ : ∃ q, q = w1.heap.size := ⟨_, rfl⟩
  rw [← hq] at hr
  have HQ := Lib.hid hq
  have HW1 := Lib.hid hw1
  have HB1 := Lib.hid (HB.out.trans (hb1.mono (Nat.le_succ _)))
  clear hn hb1 hg1 hq hw1
  go_wp2_with (go_at_call 31; refine hr.mono ?_; rintro e w2 ⟨rfl, hr2, hb2⟩; have hr2 := Lib.hid hr2; have hb2 := Lib.hid hb2)
  go_ret3
  have hb2' := hb2.out
  rw [HQ.out] at hb2'
  have hbel := HB1.out.trans (hb2'.mono HB1.out.size)
  have hp1 := HPP.out
  have hb1 := HBB.out
  have hlt := HW1.out.lt
  have hq1 := HQ.out
  refine ⟨p, b, q, rfl, Act_.of (S := fun _ => False) (Only.of_below hbel) (fun k hk => hk.elim), ⟨?_, relab_i (fun h => by omega), relab_i (fun h => by omega), ?_, List.nodup_nil, (fun y hy => by cases hy), (fun y hy => by cases hy), h0, by omega, ⟨h2, h3⟩, Nat.le_refl _, by omega⟩, hbel⟩
  · rw [look_empty]
    exact HW1.out.below hb2'
  · refine hr2.out.mono (fun k hk => ?_)
    have h4 := HW1.out.2.lt
    exact ⟨relab_i (fun h => by have := HB1.out.size; omega), by omega, by omega⟩
set_option maxRecDepth 100000 in
set_option maxHeartbeats 2000000 in
theorem opened_no (w : World) (nx sz : Int) (h : ¬ RoomOk nx sz) : Calls Try.prog 10 #[.agg #[.int .i64 nx, .int .i64 sz]] w fun e w' => e = .returned (.tuple #[.pointer none, .pointer none, .bool true]) ∧ Below w.heap.size w w' := by
  have hb := (Below.refl w.heap.size w).alloc (Nat.le_refl _) (.cells #[.int .i64 nx, .int .i64 sz] 27)
  have hnew := World.alloc_heap_new w (.cells #[.int .i64 nx, .int .i64 sz] 27)
  have hn := New_calls nx sz (w.alloc (.cells #[.int .i64 nx, .int .i64 sz] 27))
  rw [World.size_alloc] at hn
  have hc : (nx < 0 ∨ nx > 1048576 ∨ sz < 1 ∨ sz > 1048576) := by
    unfold RoomOk at h
    omega
  simp only [if_pos hc] at hn
  have HN := Lib.hid hnew
  have HB := Lib.hid hb
  have hr := fun w1 => RNew_no nx sz h w1
  clear hc hnew hb h
  go_enter Try.func10, Try.ntmps10
  go_upto_region 2 with (go_at_call 12; refine hn.mono ?_; rintro e w1 ⟨rfl, hb1⟩)
  have hg1 := (hb1.block w.heap.size (by omega)).trans HN.out
  have y0 := cell_of hg1 0
  have y1 := cell_of hg1 1
  have HB1 := Lib.hid (HB.out.trans (hb1.mono (Nat.le_succ _)))
  clear hn hb1 hg1
  go_wp2_with (go_at_call 31; refine (hr _).mono ?_; rintro e w2 ⟨rfl, hw2⟩; subst hw2)
  go_ret3
  exact ⟨rfl, HB1.out⟩
section
variable {lab : Nat → Nat} {i p b q hb : Nat} {nx sz : Int} {hs : Things} {n : Nat}
set_option maxRecDepth 100000 in
set_option maxHeartbeats 2000000 in
theorem plays_told (w : World) (P : Pair w lab i p b q nx sz hs n) {h : Nat} {cs : List (List Int)} (K : Kept w lab h hb cs) (hih : i ≠ h) (hn : cs.length ≤ 1000) (wh x v : Int) :
    Calls Try.prog 26 #[.pointer (some ⟨p, 0, none⟩), .pointer (some ⟨q, 0, none⟩), .agg #[.int .i64 6, .int .i64 wh, .int .i64 x, .int .i64 v], .pointer (some ⟨hb, 0, none⟩)] w fun e w' => e = .returned (.bool true) ∧ ∃ lab' cs', Act_ h lab lab' w w' ∧ Kept w' lab' h hb cs' ∧ cs'.length = cs.length + 2 := by
  have hbl := (Below.refl w.heap.size w).alloc (Nat.le_refl _) (.cells #[.int .i64 6, .int .i64 wh, .int .i64 x, .int .i64 v] 61)
  have a0 : Act_ h lab (relab lab w.heap.size h) w (w.alloc (.cells #[.int .i64 6, .int .i64 wh, .int .i64 x, .int .i64 v] 61)) := Act_.of (S := fun _ => False) (Only.of_below hbl) (fun k hk => hk.elim)
  have P0 := P.other a0 hih
  have K0 : Kept (w.alloc (.cells #[.int .i64 6, .int .i64 wh, .int .i64 x, .int .i64 v] 61)) (relab lab w.heap.size h) h hb cs := by
    refine ⟨(K.at_.below hbl).relab_ (fun k hk hs => relab_i (fun _ => hs)), K.lens⟩
  have ht := told_calls _ P0 K0 hn
  have A0 := Lib.hid a0
  clear a0 P0 K0 hbl P K
  go_enter Try.func26, Try.ntmps26
  go_wp2_with (go_at_call 28; refine ht.mono ?_; rintro e w2 ⟨rfl, lab', cs', h1, h2, h3⟩; have h1 := Lib.hid h1; have h2 := Lib.hid h2; have h3 := Lib.hid h3)
  go_ret
  exact ⟨rfl, lab', cs', A0.out.trans h1.out, h2.out, h3.out⟩
set_option maxRecDepth 100000 in
set_option maxHeartbeats 2000000 in
theorem plays_none (w : World) (P : Pair w lab i p b q nx sz hs n) (k wh x v : Int) (hk : k < 1 ∨ 6 < k) (H : Value) :
    Calls Try.prog 26 #[.pointer (some ⟨p, 0, none⟩), .pointer (some ⟨q, 0, none⟩), .agg #[.int .i64 k, .int .i64 wh, .int .i64 x, .int .i64 v], H] w fun e w' => e = .returned (.bool true) ∧ Stepped w w' lab i p b q nx sz hs n := by
  have hb := (Below.refl w.heap.size w).alloc (Nat.le_refl _) (.cells #[.int .i64 k, .int .i64 wh, .int .i64 x, .int .i64 v] 61)
  have e1 : (k == 1) = false := beq_eq_false_iff_ne.2 (by omega)
  have e2 : (k == 2) = false := beq_eq_false_iff_ne.2 (by omega)
  have e3 : (k == 3) = false := beq_eq_false_iff_ne.2 (by omega)
  have e4 : (k == 4) = false := beq_eq_false_iff_ne.2 (by omega)
  have e5 : (k == 5) = false := beq_eq_false_iff_ne.2 (by omega)
  have e6 : (k == 6) = false := beq_eq_false_iff_ne.2 (by omega)
  have HS := Lib.hid (Stepped.same P hb)
  clear hk P hb
  go_enter Try.func26, Try.ntmps26
  go_wp2
  go_ret
  exact ⟨rfl, HS.out⟩
end
end Go.Proofs.YtmfabpkliogjlaaWin
end
section
namespace Go.Proofs.YtmfabpkliogjlaaWin
open Go.RowKit Go.Maps Go.Shelf
set_option linter.unusedSimpArgs false
set_option linter.unusedVariables false
theorem only_putObj (W : World) (L : Nat) (o : Obj) : Only (fun k => k = L) W (W.putObj L o) :=
  ⟨rfl, rfl, rfl, by simp [World.putObj], fun k _ hn => World.putObj_heap_other hn⟩
section
variable {n p b : Nat} {sz B : Int} {w : World}
theorem wpIn_rangeReadyR {g : Operand} {ps : Array Tmp} {assign body : Code} {Q : Exit → Act → World → Prop} {a : Act}
    (h1 : 1 ≤ n) {lb : Array Value} (hg : a.eval g = .func (.func 32) #[] lb) (hseq : ReadyStops (n - 1) p b sz B lb) (hps : ps.size = 2) (hp : p < w.heap.size) (hb : b < w.heap.size)
    (I : WS → World → Prop) (Ia : WS → Int → World → Prop) (Ix : Code → World → Prop) (hI : ∀ s W W', I s W → Only (fun k => k = w.heap.size + 1) W W' → I s W') (hIa : ∀ x s W W', Ia s x W → Only (fun k => k = w.heap.size + 1) W W' → Ia s x W') (hIx : ∀ c W W', Ix c W → Only (fun k => k = w.heap.size + 1) W W' → Ix c W')
    (hW : WinI p b sz B lb I)
    (hstep : ∀ s W x W', I s W → s.m s.nx = some x → Only (fun k => k = b ∨ k = p) W W' → WinS W' p b sz s.passed → Ia s x W')
    {s0 : WS} (h0 : I s0 w) (a₁ : Int → Int → Act)
    (hassign : ∀ (l : Nat) (x y : Int) (W : World) (K : Act → World → Prop), K (a₁ x y) W →
      assign.wpIn (Fence.wide.inRound l) (n - 1 - 1) Try.prog (Exit.then K (fun _ _ _ => False)) { tmps := (ps.zip #[Value.int .i64 x, Value.int .i64 y]).foldl (fun t (p, v) => t.setIfInBounds p v) a.tmps, defers := [] } W)
    (hbody : ∀ (l : Nat) (s : WS) (x : Int) (W : World), w.heap.size + 1 ≤ l → (∃ r, W.heap[l]? = some (.loop r)) → Ia s x W → body.wpIn (Fence.wide.inRound l) (n - 1 - 1) Try.prog (winPost w.heap.size I Ix s W) (a₁ s.nx x) W)
    (hdone : ∀ (D : Nat) (s : WS) (W : World), w.heap.size ≤ D → I s W → s.m s.nx = none → W.heap[D]? = some (.deferred (some [])) → Q .normal { a with defers := { target := .collected D, args := #[] } :: a.defers } W)
    (hstop : ∀ (D : Nat) (c : Code) (W : World), w.heap.size ≤ D → Ix c W → W.heap[D]? = some (.deferred (some [])) → c.wpIn Fence.wide n Try.prog Q { a with defers := { target := .collected D, args := #[] } :: a.defers } W) :
    (Code.rangeFunc g ps assign body).wpIn Fence.wide n Try.prog Q a w := by
  have eg := enters_of Try.func32 (by kernel_rfl) rfl
  refine wpIn_rangeFunc ?_
  intro fn hfn
  rw [show Fence.wide.round = none from rfl]
  obtain ⟨rec, hrec⟩ : ∃ rec : LoopState → Option Code → Loop, rec = fun st pe => { state := st, pending := pe, fn, tmps := a.tmps, params := ps, assign, body, defers := w.heap.size } := ⟨_, rfl⟩
  obtain ⟨W1, hW1⟩ : ∃ W1, (w.alloc (.deferred (some []))).alloc (.loop (rec .ready none)) = W1 := ⟨_, rfl⟩
  have hL1 : W1.heap[w.heap.size + 1]? = some (.loop (rec .ready none)) := by
    rw [← hW1]; have := World.alloc_heap_new (w.alloc (.deferred (some []))) (.loop (rec .ready none)); rwa [World.size_alloc] at this
  have hK1 : W1.heap[w.heap.size]? = some (.deferred (some [])) := by
    rw [← hW1]; exact (Below.heap_alloc _ _ _ (by simp)).trans (World.alloc_heap_new w _)
  have hI1 : I s0 W1 := by rw [← hW1]; exact hI _ _ _ (hI _ _ _ h0 (Only.alloc _ _ _)) (Only.alloc _ _ _)
  refine ⟨w.heap.size + 1, [{ target := .collected w.heap.size, args := #[] }], W1, { target := .fn (.func 32) lb, args := #[.func (.yield (w.heap.size + 1)) #[] #[]] }, W1, 32,
    #[.func (.yield (w.heap.size + 1)) #[] #[]] ++ lb, W1, ?_, ?_, ?_, ?_, fun _ => h1, ?_⟩
  · rw [← hW1, hrec]; exact run_enterLoop_outer _ _ _ _ _
  · simp only [resolve, hg]
    simp [go_sem]
  · intro f' hf'; exact trivial
  · simp [invoke, go_sem, eg]
  · refine (hseq (w.heap.size + 1)
      (fun s W => I s W ∧ W.heap[w.heap.size + 1]? = some (.loop (rec .ready none)) ∧ W.heap[w.heap.size]? = some (.deferred (some [])))
      (fun W => ∃ c, Ix c W ∧ W.heap[w.heap.size + 1]? = some (.loop (rec .done (some c))) ∧ W.heap[w.heap.size]? = some (.deferred (some [])))
      s0 W1 (fun s W hs => hW s W hs.1)
      (fun s W W' hs ho => ⟨hI _ _ _ hs.1 (ho.mono (fun k hk => hk.elim)), (ho.block _ (Array.getElem?_eq_some_iff.1 hs.2.1).1 (fun h => h)).trans hs.2.1, (ho.block _ (Array.getElem?_eq_some_iff.1 hs.2.2).1 (fun h => h)).trans hs.2.2⟩)
      ?_ ⟨hI1, hL1, hK1⟩).mono ?_
    ·
      rintro s W0 x W ⟨hi0, hl0, hk0⟩ hm ho hWs
      have hl := (ho.block _ (Array.getElem?_eq_some_iff.1 hl0).1 (by omega)).trans hl0
      have hk := (ho.block _ (Array.getElem?_eq_some_iff.1 hk0).1 (by omega)).trans hk0
      have hi := hstep s W0 x W hi0 hm ho hWs
      clear hi0 hl0 hk0 ho
      have hlt : w.heap.size + 1 < W.heap.size := (Array.getElem?_eq_some_iff.1 hl).1
      have hy := run_yield (P := Try.prog) (args := #[Value.int .i64 s.nx, Value.int .i64 x]) hl (by rw [hrec]; exact hps.symm)
      rw [hrec] at hy
      refine ⟨fn, _, assign, body, hy, roundIn_of_wpIn hfn (hassign _ s.nx x W _ ⟨_, run_beginRound hl (by rw [hrec]), ?_⟩)⟩
      have hl2 : (W.putObj (w.heap.size + 1) (.loop { rec .ready none with state := .busy })).heap[w.heap.size + 1]? = some (.loop { rec .ready none with state := .busy }) := World.putObj_heap_same hlt
      have hk2 : (W.putObj (w.heap.size + 1) (.loop { rec .ready none with state := .busy })).heap[w.heap.size]? = some (.deferred (some [])) := (World.putObj_heap_other (by omega)).trans hk
      refine wpIn_mono (hbody _ s x _ (by omega) ⟨_, hl2⟩ (hIa x _ _ _ hi (only_putObj _ _ _))) ?_
      have fin : ∀ (jump : Option Code) (W3 : World), KeepsFrom w.heap.size (W.putObj (w.heap.size + 1) (.loop { rec .ready none with state := .busy })) W3 →
          (Instr.endRound (w.heap.size + 1) jump).run Try.prog W3 = .ok (.bool jump.isNone) (W3.putObj (w.heap.size + 1) (.loop (rec (if jump.isNone then .ready else .done) jump))) ∧
          W3.heap[w.heap.size + 1]? = some (.loop { rec .ready none with state := .busy }) ∧
          (W3.putObj (w.heap.size + 1) (.loop (rec (if jump.isNone then .ready else .done) jump))).heap[w.heap.size + 1]? = some (.loop (rec (if jump.isNone then .ready else .done) jump)) ∧
          (W3.putObj (w.heap.size + 1) (.loop (rec (if jump.isNone then .ready else .done) jump))).heap[w.heap.size]? = some (.deferred (some [])) := fun jump W3 hk3 => by
        have hl3 := hk3.same _ _ (by omega) hl2 rfl
        have := run_endRound (P := Try.prog) jump hl3
        rw [hrec] at this ⊢
        exact ⟨this, by rw [hrec] at hl3; exact hl3, World.putObj_heap_same (Array.getElem?_eq_some_iff.1 hl3).1, (World.putObj_heap_other (by omega)).trans (hk3.same _ _ (Nat.le_refl _) hk2 rfl)⟩
      rintro e a3 W3 hp
      cases e with
      | normal =>
        obtain ⟨hk3, s', hs', hi3⟩ := hp
        obtain ⟨hr, hl3, hl4, hk4⟩ := fin none W3 hk3
        exact ⟨_, _, hr, .inl ⟨rfl, s', hs', hI _ _ _ hi3 (only_putObj _ _ _), hl4, hk4⟩⟩
      | ret =>
        obtain ⟨hk3, hi3⟩ := hp
        obtain ⟨hr, hl3, hl4, hk4⟩ := fin (some .ret) W3 hk3
        exact ⟨_, _, hr, .inr ⟨rfl, .ret, hIx _ _ _ hi3 (only_putObj _ _ _), hl4, hk4⟩⟩
      | exit id =>
        obtain ⟨hk3, hi3⟩ := hp
        obtain ⟨hr, hl3, hl4, hk4⟩ := fin (some (.exit id)) W3 hk3
        exact ⟨_, _, hr, .inr ⟨rfl, .exit id, hIx _ _ _ hi3 (only_putObj _ _ _), hl4, hk4⟩⟩
      | goto t =>
        obtain ⟨hk3, hi3⟩ := hp
        obtain ⟨hr, hl3, hl4, hk4⟩ := fin (some (.goto t)) W3 hk3
        exact ⟨_, _, hr, .inr ⟨rfl, .goto t, hIx _ _ _ hi3 (only_putObj _ _ _), hl4, hk4⟩⟩
      | panic ch => exact hp.elim
      | outgrown => exact hp.elim
    ·
      rintro e W2 ⟨⟨v, rfl⟩, (⟨s, ⟨hi, hl, hk⟩, hm⟩ | ⟨c, hi, hl, hk⟩)⟩
      · exact ⟨none, _, by have := run_endLoop (P := Try.prog) hl (by rw [hrec]; simp); rw [hrec] at this; exact this, hdone _ s _ (Nat.le_refl _) (hI _ _ _ hi (only_putObj _ _ _)) hm ((World.putObj_heap_other (by omega)).trans hk)⟩
      · exact ⟨some c, _, by have := run_endLoop (P := Try.prog) hl (by rw [hrec]; simp); rw [hrec] at this; exact this, hstop _ c _ (Nat.le_refl _) (hIx _ _ _ hi (only_putObj _ _ _)) ((World.putObj_heap_other (by omega)).trans hk)⟩
end
end Go.Proofs.YtmfabpkliogjlaaWin
end
section
namespace Go.Proofs.YtmfabpkliogjlaaWin
open Go.RowKit Go.Lib Go.Maps Go.Shelf
set_option linter.unusedSimpArgs false
set_option linter.unusedVariables false
def SL (lab : Nat → Nat) (i p b N0 : Nat) : Nat → Prop := fun k => (k < N0 ∧ lab k = i ∧ k ≠ p ∧ k ≠ b) ∨ N0 + 8 ≤ k
structure Lps (lab : Nat → Nat) (i p b q N0 : Nat) (sz wh X V : Int) (w0 W : World) (nx : Int) (m : Int → Option Int) (n : Nat) (rx : Int) (hs : Things) (c : Int) (r : Bool) : Prop where
  size : N0 + 6 ≤ W.heap.size
  only : Only (fun k => lab k = i ∨ N0 ≤ k) w0 W
  pl : p < N0
  bl : b < N0
  lp : lab p = i
  lb : lab b = i
  win : WinAt W p b nx sz m n
  ref : RefAt W q rx sz hs (SL lab i p b N0)
  b3 : Boxed W N0 22 (.pointer (some ⟨p, 0, none⟩))
  b4 : Boxed W (N0 + 1) 23 (.pointer (some ⟨q, 0, none⟩))
  b5 : W.heap[N0 + 1 + 1]? = some (.cells #[.int .i64 5, .int .i64 wh, .int .i64 X, .int .i64 V] 61 (0, 0))
  b6 : Boxed W (N0 + 1 + 1 + 1) 4 (.bool r)
  b7 : Boxed W (N0 + 1 + 1 + 1 + 1) 3 (.int .i64 c)
  b8 : Boxed W (N0 + 1 + 1 + 1 + 1 + 1) 22 (.pointer (some ⟨p, 0, none⟩))
section
variable {lab : Nat → Nat} {i p b q N0 : Nat} {sz wh X V : Int} {w0 W W' : World} {nx nx' : Int} {m m' : Int → Option Int} {n n' : Nat} {rx rx' : Int} {hs hs' : Things} {c : Int} {r : Bool}
theorem Lps.step {K : Nat → Prop} (h : Lps lab i p b q N0 sz wh X V w0 W nx m n rx hs c r) (ho : Only K W W') (h1 : ∀ k, K k → lab k = i ∨ N0 ≤ k) (h2 : ∀ k, K k → N0 ≤ k → N0 + 6 ≤ k) (hw : WinAt W' p b nx' sz m' n') (hr : RefAt W' q rx' sz hs' (SL lab i p b N0)) : Lps lab i p b q N0 sz wh X V w0 W' nx' m' n' rx' hs' c r := by
  have hn : ∀ j, N0 ≤ j → j < N0 + 6 → ¬ K j := fun j a b hk => by have := h2 j hk a; omega
  exact { h with
    size := Nat.le_trans h.size ho.size
    only := h.only.trans (ho.mono h1)
    win := hw
    ref := hr
    b3 := boxed_only h.b3 ho (hn _ (by omega) (by omega))
    b4 := boxed_only h.b4 ho (hn _ (by omega) (by omega))
    b5 := (ho.block _ (Array.getElem?_eq_some_iff.1 h.b5).1 (hn _ (by omega) (by omega))).trans h.b5
    b6 := boxed_only h.b6 ho (hn _ (by omega) (by omega))
    b7 := boxed_only h.b7 ho (hn _ (by omega) (by omega))
    b8 := boxed_only h.b8 ho (hn _ (by omega) (by omega)) }
theorem Lps.rec_ (h : Lps lab i p b q N0 sz wh X V w0 W nx m n rx hs c r) (ho : Only (fun k => k = N0 + 6 + 1) W W') : Lps lab i p b q N0 sz wh X V w0 W' nx m n rx hs c r :=
  h.step ho (fun k hk => .inr (by omega)) (fun k hk _ => by omega) (h.win.only ho (by have := h.pl; omega) (by have := h.bl; omega)) (h.ref.only ho (fun k hk hh => by
    subst hh
    rcases hk with hk | hk
    · omega
    · omega))
theorem Lps.idle (h : Lps lab i p b q N0 sz wh X V w0 W nx m n rx hs c r) (ho : Below W.heap.size W W') : Lps lab i p b q N0 sz wh X V w0 W' nx m n rx hs c r :=
  h.step (K := fun _ => False) (Only.of_below ho) (fun k hk => hk.elim) (fun k hk _ => hk.elim) (h.win.below ho) (h.ref.below ho)
theorem Lps.winOnly (h : Lps lab i p b q N0 sz wh X V w0 W nx m n rx hs c r) (ho : Only (fun k => k = b ∨ k = p) W W') (hw : WinAt W' p b nx' sz m' n') : Lps lab i p b q N0 sz wh X V w0 W' nx' m' n' rx hs c r :=
  h.step ho (fun k hk => .inl (by rcases hk with rfl | rfl; exact h.lb; exact h.lp)) (fun k hk hh => by have := h.pl; have := h.bl; omega) hw (h.ref.only ho (fun k hk hh => by
    have := h.pl
    have := h.bl
    rcases hk with hk | hk
    · rcases hh with rfl | rfl
      · exact hk.2.2.2 rfl
      · exact hk.2.2.1 rfl
    · omega))
theorem Lps.refOnly (h : Lps lab i p b q N0 sz wh X V w0 W nx m n rx hs c r) (h8 : N0 + 8 ≤ W.heap.size) {S : Nat → Prop} (hS : ∀ k, S k → SL lab i p b N0 k) (ho : Only S W W') (hr : RefAt W' q rx' sz hs' (fun k => S k ∨ W.heap.size ≤ k)) : Lps lab i p b q N0 sz wh X V w0 W' nx m n rx' hs' c r := by
  have hpl := h.pl
  have hbl := h.bl
  refine h.step ho (fun k hk => ?_) (fun k hk hh => ?_) (h.win.only ho (fun hk => ?_) (fun hk => ?_)) (hr.mono (fun k hk => ?_))
  · rcases hS k hk with hk | hk
    · exact .inl hk.2.1
    · exact .inr (by omega)
  · rcases hS k hk with hk | hk <;> omega
  · rcases hS _ hk with hk | hk
    · exact hk.2.2.1 rfl
    · omega
  · rcases hS _ hk with hk | hk
    · exact hk.2.2.2 rfl
    · omega
  · rcases hk with hk | hk
    · exact hS k hk
    · exact .inr (by omega)
theorem Lps.setC (h : Lps lab i p b q N0 sz wh X V w0 W nx m n rx hs c r) (c' : Int) : Lps lab i p b q N0 sz wh X V w0 (W.setCell ⟨N0 + 1 + 1 + 1 + 1, 0, none⟩ (.int .i64 c')) nx m n rx hs c' r := by
  have hpl := h.pl
  have hbl := h.bl
  have ho : Only (fun k => k = N0 + 1 + 1 + 1 + 1) W (W.setCell ⟨N0 + 1 + 1 + 1 + 1, 0, none⟩ (.int .i64 c')) := Only.setCell _ _ _ _ rfl
  exact { h with
    size := Nat.le_trans h.size ho.size
    only := h.only.trans (ho.mono (fun k hk => .inr (by omega)))
    win := h.win.only ho (by omega) (by omega)
    ref := h.ref.only ho (fun k hk hh => by subst hh; rcases hk with hk | hk <;> omega)
    b3 := boxed_only h.b3 ho (by omega)
    b4 := boxed_only h.b4 ho (by omega)
    b5 := (ho.block _ (Array.getElem?_eq_some_iff.1 h.b5).1 (by omega)).trans h.b5
    b6 := boxed_only h.b6 ho (by omega)
    b7 := h.b7.set _
    b8 := boxed_only h.b8 ho (by omega) }
theorem Lps.setR (h : Lps lab i p b q N0 sz wh X V w0 W nx m n rx hs c r) (r' : Bool) : Lps lab i p b q N0 sz wh X V w0 (W.setCell ⟨N0 + 1 + 1 + 1, 0, none⟩ (.bool r')) nx m n rx hs c r' := by
  have hpl := h.pl
  have hbl := h.bl
  have ho : Only (fun k => k = N0 + 1 + 1 + 1) W (W.setCell ⟨N0 + 1 + 1 + 1, 0, none⟩ (.bool r')) := Only.setCell _ _ _ _ rfl
  exact { h with
    size := Nat.le_trans h.size ho.size
    only := h.only.trans (ho.mono (fun k hk => .inr (by omega)))
    win := h.win.only ho (by omega) (by omega)
    ref := h.ref.only ho (fun k hk hh => by subst hh; rcases hk with hk | hk <;> omega)
    b3 := boxed_only h.b3 ho (by omega)
    b4 := boxed_only h.b4 ho (by omega)
    b5 := (ho.block _ (Array.getElem?_eq_some_iff.1 h.b5).1 (by omega)).trans h.b5
    b6 := h.b6.set _
    b7 := boxed_only h.b7 ho (by omega)
    b8 := boxed_only h.b8 ho (by omega) }
theorem RefAt.cells {S : Nat → Prop} (h : RefAt W q nx sz hs S) : RefAt W q nx sz hs (fun k => S k ∧ ∃ c t f, W.heap[k]? = some (.cells c t f)) := by
  obtain ⟨v, h1, h2, h3, h4⟩ := h
  refine ⟨v, h1, h2, ⟨h3, _, _, _, h1⟩, fun g hg => ⟨h4 g hg, ?_⟩⟩
  rcases h2.2 with ⟨hv, _⟩ | ⟨g', cap, cur, hv, _, hh, _⟩
  · rw [hv] at hg; cases hg
  · rw [hv] at hg
    injection hg with hg
    subst hg
    exact ⟨_, _, _, hh⟩
end
structure Cnt (nx0 : Int) (len0 n0 : Nat) (X sz nx : Int) (hs : Things) (n : Nat) : Prop where
  pos : 0 ≤ nx0
  room : nx0 + (len0 : Int) ≤ 4000000
  nroom : n0 + len0 + 2 ≤ 1000000
  sz1 : sz ≤ 1048576
  keys : Keys hs
  ge : ∀ y ∈ hs, nx ≤ y.1
  lt : ∀ y ∈ hs, y.1 ≤ 10000000
  le0 : nx0 ≤ nx
  sum : nx + (hs.length : Int) ≤ nx0 + (len0 : Int) ∨ (nx + (hs.length : Int) ≤ nx0 + (len0 : Int) + 1 ∧ (X < nx ∨ (look hs X).isSome = true))
  len : hs.length ≤ n
  nb : (n : Int) ≤ (n0 : Int) + (nx - nx0)
section
variable {nx0 : Int} {len0 n0 : Nat} {X sz nx : Int} {hs : Things} {n : Nat}
theorem Cnt.nx1 (h : Cnt nx0 len0 n0 X sz nx hs n) : nx ≤ 4000001 ∧ (n : Int) ≤ 1000000 ∧ nx + (hs.length : Int) ≤ nx0 + (len0 : Int) + 1 := by
  have h1 := h.sum
  have h2 := h.room
  have h3 := h.nb
  have h4 := h.nroom
  have h5 := h.le0
  rcases h1 with h1 | ⟨h1, _⟩ <;> omega
theorem Cnt.pass (h : Cnt nx0 len0 n0 X sz nx hs n) {x : Int} (hx : look hs nx = some x) : Cnt nx0 len0 n0 X sz (nx + 1) (wo hs nx) n := by
  have hl := wo_len_some h.keys hx
  refine { h with
    keys := h.keys.wo nx
    ge := fun y hy => by have h1 := h.ge y (wo_mem hy).1; have h2 := (wo_mem hy).2; omega
    lt := fun y hy => h.lt y (wo_mem hy).1
    le0 := by have := h.le0; omega
    sum := ?_
    len := by have := h.len; omega
    nb := by have := h.nb; omega }
  rcases h.sum with h1 | ⟨h1, h2⟩
  · exact .inl (by omega)
  · refine .inr ⟨by omega, ?_⟩
    by_cases c : X < nx + 1
    · exact .inl c
    · rcases h2 with h2 | h2
      · omega
      · right
        rw [look_wo]
        show (if X = nx then none else look hs X).isSome = true
        rw [if_neg (by omega)]
        exact h2
theorem Cnt.pass_nb (h : Cnt nx0 len0 n0 X sz nx hs n) : ((n + 1 : Nat) : Int) ≤ (n0 : Int) + (nx + 1 - nx0) := by
  have := h.nb
  omega
theorem Cnt.put (h : Cnt nx0 len0 n0 X sz nx hs n) (hn : ((n + 1 : Nat) : Int) ≤ (n0 : Int) + (nx - nx0)) (V : Int) : Cnt nx0 len0 n0 X sz nx (if putE nx sz (look hs) X = 0 then hs ++ [(X, V)] else hs) (n + 1) := by
  have hnx := h.nx1
  have hsz := h.sz1
  by_cases c : putE nx sz (look hs) X = 0
  · rw [if_pos c]
    obtain ⟨h1, h2, h3⟩ := putE_nx c
    refine { h with
      keys := h.keys.put h3
      ge := fun y hy => ?_
      lt := fun y hy => ?_
      sum := ?_
      len := by rw [List.length_append]; have := h.len; simp; omega
      nb := hn }
    · rcases List.mem_append.1 hy with hy | hy
      · exact h.ge y hy
      · rw [List.mem_singleton.1 hy]; exact h1
    · rcases List.mem_append.1 hy with hy | hy
      · exact h.lt y hy
      · rw [List.mem_singleton.1 hy]
        show X ≤ 10000000
        omega
    · right
      rcases h.sum with h5 | ⟨h5, h6⟩
      · refine ⟨by rw [List.length_append]; simp; omega, .inr ?_⟩
        rw [look_put h3]
        show (if X = X then some V else look hs X).isSome = true
        rw [if_pos rfl]
        rfl
      · rcases h6 with h6 | h6
        · omega
        · rw [h3] at h6; cases h6
  · rw [if_neg c]
    exact { h with len := by have := h.len; omega, nb := hn }
end
theorem putMap {nx sz : Int} {hs : Things} {X V : Int} : (if putE nx sz (look hs) X = 0 then fun y => if y = X then some V else look hs y else look hs) = look (if putE nx sz (look hs) X = 0 then hs ++ [(X, V)] else hs) := by
  by_cases c : putE nx sz (look hs) X = 0
  · rw [if_pos c, if_pos c, look_put (putE_nx c).2.2]
  · rw [if_neg c, if_neg c]
section
variable {lab : Nat → Nat} {i p b q N0 : Nat} {sz wh X V : Int} {w0 W W' : World} {nx nx' : Int} {m m' : Int → Option Int} {n n' : Nat} {rx rx' : Int} {hs hs' : Things} {c : Int} {r : Bool}
theorem Lps.mark {D : Nat} (h : Lps lab i p b q N0 sz wh X V w0 W nx m n rx hs c r) (ho : Only (fun k => k = D) W W') (hD : W.heap[D]? = some (.deferred (some []))) (hl : N0 + 6 ≤ D) : Lps lab i p b q N0 sz wh X V w0 W' nx m n rx hs c r := by
  have hpl := h.pl
  have hbl := h.bl
  refine h.step ho (fun k hk => .inr (by omega)) (fun k hk _ => by omega) (h.win.only ho (by omega) (by omega)) ?_
  refine (h.ref.cells.only ho (fun k hk hh => ?_)).mono (fun k hk => hk.1)
  obtain ⟨_, c, t, f, hk⟩ := hk
  subst hh
  rw [hD] at hk
  cases hk
theorem Lps.start {lab : Nat → Nat} {w : World} (P : Pair w lab i p b q nx sz hs n) (wh X V : Int) : Lps lab i p b q w.heap.size sz wh X V w
    ((((((w.alloc (.cells #[.pointer (some ⟨p, 0, none⟩)] 22)).alloc (.cells #[.pointer (some ⟨q, 0, none⟩)] 23)).alloc (.cells #[.int .i64 5, .int .i64 wh, .int .i64 X, .int .i64 V] 61)).alloc (.cells #[.bool false] 4)).alloc (.cells #[.int .i64 0] 3)).alloc (.cells #[.pointer (some ⟨p, 0, none⟩)] 22))
    nx (look hs) n nx hs 0 false := by
  have ha : ∀ {W : World} {k : Nat} {o : Obj} (o' : Obj), W.heap[k]? = some o → (W.alloc o').heap[k]? = some o := fun o' h => (Below.heap_alloc _ o' _ (Array.getElem?_eq_some_iff.1 h).1).trans h
  have hn : ∀ (W : World) (o : Obj) (k : Nat), W.heap.size = k → (W.alloc o).heap[k]? = some o := fun W o k e => by rw [← e]; exact World.alloc_heap_new W o
  have hb : Below w.heap.size w ((((((w.alloc (.cells #[.pointer (some ⟨p, 0, none⟩)] 22)).alloc (.cells #[.pointer (some ⟨q, 0, none⟩)] 23)).alloc (.cells #[.int .i64 5, .int .i64 wh, .int .i64 X, .int .i64 V] 61)).alloc (.cells #[.bool false] 4)).alloc (.cells #[.int .i64 0] 3)).alloc (.cells #[.pointer (some ⟨p, 0, none⟩)] 22)) :=
    ((((((Below.refl w.heap.size w).alloc (Nat.le_refl _) _).alloc (by simp) _).alloc (by simp; omega) _).alloc (by simp; omega) _).alloc (by simp; omega) _).alloc (by simp; omega) _
  refine ⟨by simp, Only.of_below hb, P.win.lt, P.win.2.lt, P.lp, P.lb, P.win.below hb, (P.ref.relab_ (fun k hk hs => .inl ⟨hk, hs.1, hs.2⟩)).below hb, ?_, ?_, ?_, ?_, ?_, ?_⟩
  · exact ha _ (ha _ (ha _ (ha _ (ha _ (hn _ _ _ rfl)))))
  · exact ha _ (ha _ (ha _ (ha _ (hn _ _ _ (by simp)))))
  · exact ha _ (ha _ (ha _ (hn _ _ _ (by simp))))
  · exact ha _ (ha _ (hn _ _ _ (by simp)))
  · exact ha _ (hn _ _ _ (by simp))
  · exact hn _ _ _ (by simp)
theorem Lps.done {n0 : Nat} {hs0 : Things} {nx0 : Int} (P : Pair w0 lab i p b q nx0 sz hs0 n0) (h : Lps lab i p b q w0.heap.size sz wh X V w0 W nx (look hs) n nx hs c r) (k : Cnt nx0 hs0.length n0 X sz nx hs n) : Stepped w0 W lab i p b q nx0 sz hs0 n0 := by
  have hk := k.nx1
  have h0 := k.pos
  have h1 := k.le0
  have h2 := k.nb
  have h3 := k.room
  refine ⟨relab lab w0.heap.size i, nx, hs, n, Act_.of (S := fun k => lab k = i) ⟨h.only.os, h.only.tape, h.only.output, h.only.size, fun k hk hn => h.only.block k hk (fun hh => ?_)⟩ (fun k hk => hk), ⟨h.win, relab_i (fun _ => h.lp), relab_i (fun _ => h.lb), ?_, k.keys, k.ge, k.lt, by omega, by omega, P.sz0, k.len, by omega⟩, by omega, by omega, by omega⟩
  · rcases hh with hh | hh
    · exact hn hh
    · omega
  · refine h.ref.mono (fun j hj => ?_)
    have hpl := h.pl
    have hbl := h.bl
    rcases hj with hj | hj
    · exact ⟨relab_i (fun _ => hj.2.1), hj.2.2⟩
    · exact ⟨relab_i (fun _ => by omega), by omega, by omega⟩
end
theorem eqlFuncX (W : World) (f : Nat) (bl : Array Value) : (binOp .eql 38 (.func (.func f) #[] bl) .nilFunc).run Try.prog W = .ok (.bool false) W := by
  unfold binOp Op.equal
  obtain ⟨d, hd⟩ : ∃ d, Op.maxDepth = d + 1 := ⟨9999, rfl⟩
  rw [hd]
  simp [Op.equalIn, run_underlying Try.underlying38, go_sem]
theorem run_store_funcX {P : Program} {w : World} (a : Addr) (m : Mode) (f : Fn) {x1 : _} {x2 : _} : (store a (.func f x1 x2) m).run P w = stored P w a (.func f x1 x2) m := run_store P w a _ m rfl
section
attribute [local go_sem] Oper.semAt_some eqlFuncX run_store_funcX
set_option maxRecDepth 100000 in
set_option maxHeartbeats 4000000 in
theorem ReadyX_calls (p : Option Addr) (w : World) : Calls Try.prog 14 #[.pointer p] w fun e w' => e = .returned (.func (.func 32) #[] #[.pointer (some ⟨w.heap.size, 0, none⟩)]) ∧ w' = w.alloc (.cells #[.pointer p] 22) := by
  go_enter Try.func14, Try.ntmps14
  go_wp2
  go_ret
  exact ⟨rfl, rfl⟩
set_option maxRecDepth 100000 in
set_option maxHeartbeats 4000000 in
theorem NextX_exact {p b n : Nat} {nx sz : Int} {m : Int → Option Int} (w : World) (h : WinAt w p b nx sz m n) : Calls Try.prog 15 #[.pointer (some ⟨p, 0, none⟩)] w fun e w' => e = .returned (.int .i64 nx) ∧ w' = w := by
  have c0 := h.c0
  go_enter Try.func15, Try.ntmps15
  go_wp2
  go_ret
  exact ⟨rfl, rfl⟩
end
theorem leavesX {F : Fence} {n : Nat} {P : Program} {fn : Func} {tmps : Array Value} {R : Ending → World → Prop} {D : Nat} (W : World) (hD : W.heap[D]? = some (.deferred (some [])))
    (h : ∀ W', Only (fun k => k = D) W W' → LeavesIn F n P fn tmps R [] .returning W') : LeavesInM F n P fn tmps R [{ target := .collected D, args := #[] }] .returning W :=
  ⟨by simp, .inl ⟨_, _, rfl, run_takeDeferred hD, h _ ⟨rfl, rfl, rfl, by simp, fun k _ hk => World.putObj_heap_other (fun e => hk e)⟩⟩⟩
end Go.Proofs.YtmfabpkliogjlaaWin
end
section
namespace Go
open Go.RowKit
section
variable {F : Fence} {n : Nat} {P : Program} {md : Region.Mode} {ops : Array Oper} {C : World → Prop}
def noDefer (ops : Array Oper) : Bool := ops.all fun o => match o.op with | .defer _ => false | _ => true
theorem noDefer_spec {ops : Array Oper} (h : noDefer ops = true) {i : Nat} {o : Oper} (hi : ops[i]? = some o) : ∀ c, o.op ≠ .defer c := by
  intro c e
  obtain ⟨h1, h2⟩ := Array.getElem?_eq_some_iff.1 hi
  have := (Array.all_eq_true.1 h) i h1
  rw [h2, e] at this
  cases this
theorem wpIn_of_quietR {o : Oper} {a : Act} {K : Act → Prop} {K' : Act → World → Prop} {Q' : Exit → Act → World → Prop} {w : World} (hnd : ∀ c, o.op ≠ .defer c) (hw : C w) (h : ∀ a w', C w' → K a → K' a w')
    (ha : o.askedIn F P a C) (hh : o.quietIn F n P a C K) : o.wpIn F n P a w K' Q' := by
  obtain ⟨v, h1, h2⟩ := hh
  have h3 := h1 w hw
  unfold Oper.quietAtIn at h3
  unfold Oper.wpIn
  refine ⟨ha w hw, ?_⟩
  rw [Oper.semAt_plain F _ _ hnd]
  generalize (execOp a.eval o).run P w = r at *
  cases r with
  | ok x w' =>
    cases x <;> simp only [Oper.quietUponIn] at h3 <;> simp only [Oper.uponIn]
    case value u =>
      obtain ⟨e1, e2⟩ := h3
      rw [e1, e2]
      exact h _ _ hw h2
    case skip =>
      obtain ⟨e1, e2⟩ := h3
      rw [e1, ← e2]
      exact h _ _ hw h2
    case enter f args =>
      obtain ⟨e1, hd, hc⟩ := h3
      rw [e1]
      exact ⟨hd, hc.mono fun e w'' ⟨he, hw''⟩ => by subst he; exact h _ _ hw'' h2⟩
  | halt x w' => simp only [Oper.quietUponIn] at h3
theorem wpOpIn_of_quietR {i : Nat} {a : Act} {K : Act → Prop} {K' : Act → World → Prop} {Q' : Exit → Act → World → Prop} {w : World} (hnd : noDefer ops = true) (hC : C w) (h : ∀ a w', C w' → K a → K' a w')
    (hh : qOpIn F n P ops C i K a) : wpOpIn F n P ops Q' i K' a w := by
  unfold qOpIn at hh
  unfold wpOpIn
  split
  · rename_i ho; simp only [ho] at hh; exact h _ _ hC hh
  · rename_i o ho
    simp only [ho] at hh
    obtain ⟨ha, hh⟩ := hh
    split
    · rename_i hw; simp only [hw, if_true] at hh; exact wpIn_of_quietR (noDefer_spec hnd ho) hC h ha hh
    · rename_i hw; simp only [hw] at hh; exact ⟨ha w hC, h _ _ hC hh⟩
theorem wpAnyIn_of_quietR {Q : Act → Prop} {Q' : Exit → Act → World → Prop} (hnd : noDefer ops = true) (hQ : ∀ a w, C w → Q a → Q' .normal a w) : ∀ (fuel : Nat) (listed : Array Bool) (a : Act) (w : World), C w →
    wpAnyQIn F n P md ops C Q fuel listed a → wpAnyIn F n P md ops Q' fuel listed a w
  | 0, _, _, _, hw, h => ⟨h.1, hQ _ _ hw h.2⟩
  | fuel + 1, _, _, _, hw, h => ⟨fun h0 => hQ _ _ hw (h.1 h0), fun i hi => wpOpIn_of_quietR hnd hw (fun a' w' hw' => wpAnyIn_of_quietR hnd hQ fuel _ a' w' hw') (h.2 i hi)⟩
theorem wpIn_region_quietR {id : Nat} {Q : Exit → Act → World → Prop} {a : Act} {w : World} {l : List Oper} (hnd : noDefer l.toArray = true) (hm : P.follows .mixedOrders = true) (hB : Region.lexB .any l.toArray = true)
    (h : wpQuietIn F n P l.toArray (fun w' => ∃ n, w' = w.drewN n) (fun a' => ∀ w', (∃ n, w' = w.drewN n) → Q .normal a' w') l a) : (Code.region id l.toArray true).wpIn F n P Q a w := by
  simp only [Region.lexB, Bool.and_eq_true] at hB
  refine wpIn_region_any hm (wpAnyIn_of_quietR (C := fun w' => ∃ n, w' = w.drewN n) (Q := fun a' => ∀ w', (∃ n, w' = w.drewN n) → Q .normal a' w') hnd (fun _ w' hw' h => h w' hw') _ _ _ _ ⟨1, rfl⟩ ?_)
  have := wpAnyQIn_lex (F := F) (n := n) (C := fun w' => ∃ n, w' = w.drewN n) (md := .any) hB.1 l.toArray.toList 0 (Array.replicate l.toArray.size false) a (by simp) (by simpa using hB.2) h
  simpa using this
end
end Go
namespace Go.Proofs.YtmfabpkliogjlaaWin
open Go.RowKit Go.Lib Go.Maps Go.Shelf
set_option linter.unusedSimpArgs false
set_option linter.unusedVariables false
theorem drewNX (w : World) (k : Nat) : Below w.heap.size w (w.drewN k) := ⟨rfl, rfl, rfl, Nat.le_refl _, fun k _ => rfl⟩
section
attribute [local go_sem] Oper.semAt_some eqlFuncX run_store_funcX
set_option maxRecDepth 100000 in
set_option maxHeartbeats 4000000 in
theorem loops_calls {lab : Nat → Nat} {i p b q n : Nat} {nx sz : Int} {hs : Things} (w : World) (P : Pair w lab i p b q nx sz hs n) (hroom : nx + (hs.length : Int) ≤ 4000000) (hn : n + hs.length + 2 ≤ 1000000) (wh X V : Int) (hf : Fits X) :
    Calls Try.prog 42 #[.pointer (some ⟨p, 0, none⟩), .pointer (some ⟨q, 0, none⟩), .agg #[.int .i64 5, .int .i64 wh, .int .i64 X, .int .i64 V]] w fun e w' => e = .returned (.bool true) ∧ Stepped w w' lab i p b q nx sz hs n := by
  have hst := Lps.start P wh X V
  have hcn : Cnt nx hs.length n X sz nx hs n := ⟨P.nx0, hroom, hn, P.sz0.2, P.keys, P.ge, P.lt, Int.le_refl _, .inl (Int.le_refl _), P.len, by omega⟩
  have PP := Lib.hid P
  have HFX := Lib.hid hf
  clear P
  refine (callsIn_wide (n := 8)).1 ?_
  refine callsIn_of_wp_marks Try.func42 rfl trivial ?_ rfl
  simp only [Try.ntmps42, List.size_toArray, List.length_cons, List.length_nil, Nat.reduceAdd, Nat.reduceSub, Array.replicate_succ, Array.replicate_zero, List.push_toArray, List.append_toArray, List.nil_append, List.cons_append]
  refine wpIn_wide.2 ?_
  go_wp2_with (go_at_call 14; refine (ReadyX_calls _ _).mono ?_; rintro e w1 ⟨rfl, rfl⟩)
  obtain ⟨W6, hW6⟩ : ∃ W6, ((((((w.alloc (.cells #[.pointer (some ⟨p, 0, none⟩)] 22)).alloc (.cells #[.pointer (some ⟨q, 0, none⟩)] 23)).alloc (.cells #[.int .i64 5, .int .i64 wh, .int .i64 X, .int .i64 V] 61)).alloc (.cells #[.bool false] 4)).alloc (.cells #[.int .i64 0] 3)).alloc (.cells #[.pointer (some ⟨p, 0, none⟩)] 22)) = W6 := ⟨_, rfl⟩
  have s6 : W6.heap.size = w.heap.size + 6 := by rw [← hW6]; simp
  rw [hW6] at hst ⊢
  have HST := Lib.hid hst
  have HCN := Lib.hid hcn
  have HS6 := Lib.hid s6
  clear hW6
  refine wpIn_wide (n := 8).1 ?_
  refine' wpIn_rangeReadyR (n := 8) (p := p) (b := b) (sz := sz) (B := 5000000) (w := W6) (by omega) (lb := #[.pointer (some ⟨w.heap.size + 1 + 1 + 1 + 1 + 1, 0, none⟩)]) rfl (ready1_stops _ p b _ _ _ (by omega)) rfl hst.win.lt hst.win.2.lt
    (fun s W => ∃ hs' c, Lps lab i p b q w.heap.size sz wh X V w W s.nx s.m s.n s.nx hs' c false ∧ s.m = look hs' ∧ Cnt nx hs.length n X sz s.nx hs' s.n ∧ 0 ≤ c ∧ c ≤ s.nx - nx)
    (fun s x W => ∃ hs' c, Lps lab i p b q w.heap.size sz wh X V w W (s.nx + 1) (fun y => if y = s.nx then none else s.m y) s.n s.nx hs' c false ∧ s.m = look hs' ∧ Cnt nx hs.length n X sz s.nx hs' s.n ∧ (0 ≤ c ∧ c ≤ s.nx - nx) ∧ look hs' s.nx = some x)
    (fun cd W => ∃ nx' hs' n' c, Lps lab i p b q w.heap.size sz wh X V w W nx' (look hs') n' nx' hs' c true ∧ Cnt nx hs.length n X sz nx' hs' n' ∧ cd = .ret)
    (fun s W W' ⟨hs', c, h, f⟩ ho => ⟨hs', c, h.rec_ (ho.mono (fun k hk => by omega)), f⟩)
    (fun x s W W' ⟨hs', c, h, f⟩ ho => ⟨hs', c, h.rec_ (ho.mono (fun k hk => by omega)), f⟩)
    (fun cd W W' ⟨nx', hs', n', c, h, f⟩ ho => ⟨nx', hs', n', c, h.rec_ (ho.mono (fun k hk => by omega)), f⟩)
    (fun s W ⟨hs', c, h, f1, f2, f3⟩ => ⟨h.win, fits_of (by have := f2.nx1; have := f2.pos; have := f2.le0; omega), by omega, (fun hsm => by have := f2.nx1; omega), (fun v hv => by cases hv; exact h.b8.cell)⟩)
    (fun s W x W' ⟨hs', c, h, f1, f2, f3⟩ hm ho hw => ⟨hs', c, h.winOnly ho hw, f1, f2, f3, by rw [← f1]; exact hm⟩)
    (s0 := ⟨nx, look hs, n⟩)
    ⟨hs, 0, hst, rfl, hcn, Int.le_refl _, by show (0 : Int) ≤ nx - nx; omega⟩
    _ ?assign ?body ?done ?stop
  case assign =>
    intro lp x y W K hK
    simp only [List.zip_toArray, List.zip_cons_cons, List.zip_nil_right, List.zip_nil_left, List.foldl_toArray, List.foldl_toArray', List.size_toArray, List.length_cons, List.length_nil, List.foldl_cons, List.foldl_nil, List.setIfInBounds_toArray, List.set_cons_succ, List.set_cons_zero]
    gi_wp2
    exact hK
  case done =>
    rintro D ⟨N, sm, sn⟩ W hD ⟨hs', c, hX, f1, hC, hc0, hc1⟩ hm hK
    dsimp only at hX f1 hC hm hc0 hc1 ⊢
    subst f1
    have hpk := RPeek_calls W hX.ref (by have := hC.len; have := hC.nx1; omega)
    rw [hm] at hpk
    simp only [Option.isSome_none, Option.getD_none, Bool.false_eq_true, if_false] at hpk
    have c4 := hX.b4.cell
    have c6 := hX.b6.cell
    have f6 := hX.b6.frozen
    have HX := Lib.hid hX
    have HC := Lib.hid hC
    have HK := Lib.hid hK
    have HD := Lib.hid hD
    clear hX hC hK hD hm hst hcn s6 hc0 hc1
    go_wp2_with (go_at_call 39; refine hpk.mono ?_; rintro e w2 ⟨hw2, rfl⟩; have hw2 := hw2.symm; subst hw2)
    have hX2 := HX.out.setR true
    have hK2 := (KeepsOthers.setCell W ⟨w.heap.size + 1 + 1 + 1, 0, none⟩ (.bool true)).same D _ HK.out rfl
    refine leavesX _ hK2 (fun W' ho => ?_)
    have hX3 := hX2.mark ho hK2 (by have := HD.out; have := HS6.out; omega)
    have c6' := hX3.b6.cell
    refine ⟨.bool true, ?_, rfl, Lps.done PP.out hX3 HC.out⟩
    simp [results, Try.f42, go_sem, c6']
  case stop =>
    rintro D c W hD ⟨nx', hs', n', c', hX, hC, rfl⟩ hK
    have HX := Lib.hid hX
    have HC := Lib.hid hC
    have HK := Lib.hid hK
    have HD := Lib.hid hD
    clear hX hC hK hD hst hcn s6
    refine wpIn_wide.2 ?_
    go_wp2
    refine leavesX _ HK.out (fun W' ho => ?_)
    have hX3 := HX.out.mark ho HK.out (by have := HD.out; have := HS6.out; omega)
    have c6' := hX3.b6.cell
    refine ⟨.bool true, ?_, rfl, Lps.done PP.out hX3 HC.out⟩
    simp [results, Try.f42, go_sem, c6']
  case body =>
    rintro l ⟨N, sm, sn⟩ x W hl ⟨r, hr⟩ ⟨hs', c, hX, f1, hC, hc0, hlk⟩
    dsimp only at hX f1 hC hc0 hlk ⊢
    subst f1
    rw [← look_wo] at hX
    have h8 : w.heap.size + 8 ≤ W.heap.size := by
      have := (Array.getElem?_eq_some_iff.1 hr).1
      omega
    have hnb := hC.nx1
    have hlen := hC.len
    have hC1 := hC.pass hlk
    have hnb1 := hC.pass_nb
    have hN0 : 0 ≤ N := by have := hC.pos; have := hC.le0; omega
    have hpk := RPeek_calls W hX.ref (by omega)
    rw [hlk] at hpk
    simp only [Option.isSome_some, Option.getD_some, if_true] at hpk
    have hnx := RNext_calls W hX.ref
    have hps := RPass_calls W hX.ref.cells hC.keys (by omega) hN0 (by omega)
    rw [hlk] at hps
    simp only [Option.isSome_some, if_true] at hps
    have c3 := hX.b3.cell
    have c4 := hX.b4.cell
    have HX := Lib.hid hX
    have H8 := Lib.hid h8
    have HC := Lib.hid hC
    have HC1 := Lib.hid hC1
    have HNB := Lib.hid hnb
    have HNB1 := Lib.hid hnb1
    have HC0 := Lib.hid hc0
    have HN0 := Lib.hid hN0
    clear hX hC hC1 hlk hr hl h8 hst hcn s6 hnb1 hlen hc0
    gi_wp2_with (first
      | (refine ⟨trivial, ?_⟩; gi_at_call 39; refine (CallsIn.inRound l (callsIn_wide.2 hpk)).mono ?_; rintro e w2 ⟨hw2, rfl⟩; have hw2 := hw2.symm; subst hw2; clear hpk)
      | (refine ⟨trivial, ?_⟩; gi_at_call 45; refine (CallsIn.inRound l (callsIn_wide.2 hnx)).mono ?_; rintro e w2 ⟨rfl, hw2⟩; have hw2 := hw2.symm; subst hw2; clear hnx)
      | (refine ⟨trivial, ?_⟩; gi_at_call 40; refine (CallsIn.inRound l (callsIn_wide.2 hps)).mono ?_; clear hps; rintro e w3 ⟨rfl, hr3, ho3⟩; have hX3 := HX.out.refOnly H8.out (fun k hk => hk.1) (ho3.mono (fun k hk => by obtain ⟨v0, _, _, h3, _⟩ := HX.out.ref.cells; rw [hk]; exact h3)) hr3; have hk3 : KeepsFrom W6.heap.size W w3 := keeps_only ho3 (fun k hk => by obtain ⟨v0, h1, _⟩ := HX.out.ref; rw [hk]; exact .inr ⟨_, _, _, h1⟩); have s3 := ho3.size; clear hr3 ho3))
    clear c3 c4 hnb hN0
    have hnx3 := fun k => NextX_exact (w3.drewN k) (hX3.idle (drewNX w3 k)).win
    have hrn3 := fun k => RNext_calls (w3.drewN k) (hX3.idle (drewNX w3 k)).ref
    have c3 := hX3.b3.cell
    have c4 := hX3.b4.cell
    have HX3 := Lib.hid hX3
    have HK3 := Lib.hid hk3
    have HS3 := Lib.hid s3
    clear hX3 hk3 s3
    refine wpIn_region_quietR (by kernel_rfl) (by kernel_rfl) (by kernel_rfl) ?_
    gi_big_quiet_step (fail)
    refine BigFrame.wpQuietIn_want (fun _ _ _ _ => trivial) rfl ?_
    intro K1 hK1
    gi_big_quiet_op
    gi_big_quiet_call (first | (gi_at_call 15; exact CallsIn.quiet_of_same (CallsIn.inRound l (callsIn_wide.2 (hnx3 _)))))
    gi_big_quiet_step (fail)
    refine BigFrame.wpQuietIn_want (fun _ _ _ _ => trivial) rfl ?_
    intro K1 hK1
    gi_big_quiet_op
    gi_big_quiet_call (first | (gi_at_call 45; exact CallsIn.quiet_of_same (CallsIn.inRound l (callsIn_wide.2 (hrn3 _)))))
    gi_big_quiet_step (fail)
    refine wpQuietIn_nil ?_
    intro _ hw'
    obtain ⟨nq, hw''⟩ := hw'
    subst hw''
    have hb4 := drewNX w3 nq
    have hX4 := HX3.out.idle hb4
    have hk4 : KeepsFrom W6.heap.size W (w3.drewN nq) := HK3.out.trans (keeps_below (KeepsFrom.refl _ _) hb4 (Nat.le_refl _))
    have h84 : w.heap.size + 8 ≤ (w3.drewN nq).heap.size := Nat.le_trans (Nat.le_trans H8.out HS3.out) hb4.size
    obtain ⟨W4, hW4⟩ : ∃ W4, w3.drewN nq = W4 := ⟨_, rfl⟩
    rw [hW4] at hX4 hk4 h84 ⊢
    clear hnx3 hrn3 c3 c4 hb4 hW4
    have v1 : wrap64 (c + 1) = c + 1 := IntWalk.wrap64_in _ (by have := HC0.out; have := HNB.out; have := HC.out.pos; omega)
    have c7 := hX4.b7.cell
    have f7 := hX4.b7.frozen
    have hX5 := hX4.setC (c + 1)
    have hk5 : KeepsFrom W6.heap.size W (W4.setCell ⟨w.heap.size + 1 + 1 + 1 + 1, 0, none⟩ (.int .i64 (c + 1))) := hk4.trans ((KeepsOthers.setCell _ _ _).from _)
    have h85 : w.heap.size + 8 ≤ (W4.setCell ⟨w.heap.size + 1 + 1 + 1 + 1, 0, none⟩ (.int .i64 (c + 1))).heap.size := by simpa [World.setCell] using h84
    have hc1 : 0 ≤ c + 1 ∧ c + 1 ≤ N + 1 - nx := by have := HC0.out; omega
    have HC1' := Lib.hid hc1
    have g3 := hX5.b3.cell
    have g4 := hX5.b4.cell
    have g5 := cell_of hX5.b5 2
    have g5' := cell_of hX5.b5 3
    have g6 := hX5.b6.frozen
    have g6' := hX5.b6.cell
    have g7 := hX5.b7.cell
    have HX5 := Lib.hid hX5
    have HK5 := Lib.hid hk5
    have H85 := Lib.hid h85
    clear hX4 hk4 hX5 hk5 h84 h85 hc1
    have hm1 := Int.tmod_lt_of_pos N (b := 2) (by omega)
    have hm2 := Int.lt_tmod_of_pos N (b := 2) (by omega)
    by_cases hev : N.tmod 2 = 0
    · have hn2 : ((2 : Int) == 0) = false := rfl
      have v2 : wrap64 (N.tmod 2) = 0 := by rw [hev]; exact IntWalk.wrap64_in _ ⟨by omega, by omega⟩
      have v3 : IntKind.i64.wrap (N.tmod 2) = 0 := (IntWalk.i64_left _).trans v2
      have hp1 := Put_calls _ HX5.out.win (by have := HN0.out; omega) (by have := HNB.out; unfold maxLen; omega) X V HFX.out
      rw [putMap] at hp1
      obtain ⟨E, hE⟩ : ∃ E, putE (N + 1) sz (look (wo hs' N)) X = E := ⟨_, rfl⟩
      rw [hE] at hp1
      obtain ⟨hp, hhp⟩ : ∃ hp, (if E = 0 then wo hs' N ++ [(X, V)] else wo hs' N) = hp := ⟨_, rfl⟩
      rw [hhp] at hp1
      have hCP := HC1.out.put HNB1.out V
      rw [hE, hhp] at hCP
      have hp2 := fun (S : Nat → Prop) (w6 : World) (h : RefAt w6 q (N + 1) sz (wo hs' N) S) => RPut_calls w6 h (by have := HC1.out.len; have := HNB.out; omega) (by have := HN0.out; omega) X V HFX.out
      simp only [hE, hhp] at hp2
      have HP2 := Lib.hid hp2
      have HCP := Lib.hid hCP
      clear hp2 hCP hhp hE
      by_cases hV : V < 1
      · have d1 : decide (1 ≤ V) = false := decide_eq_false (by omega)
        have d1' : decide (V ≥ 1) = false := decide_eq_false (by omega)
        gi_wp2_with (first
          | (refine ⟨trivial, ?_⟩; gi_at_call 13; refine (CallsIn.inRound l (callsIn_wide.2 hp1)).mono ?_; clear hp1; rintro e w6 ⟨rfl, hw6, ho6⟩; have hX6 := Lib.hid (HX5.out.winOnly (ho6.mono (fun k hk => .inl hk)) hw6); have hk6 := Lib.hid (HK5.out.trans (keeps_only ho6 (fun k hk => .inl (by have := HX5.out.bl; have := HS6.out; omega)))); have h86 := Lib.hid (Nat.le_trans H85.out ho6.size); have k4 := hX6.out.b4.cell; have k5 := cell_of hX6.out.b5 2; have k5' := cell_of hX6.out.b5 3; clear hw6 ho6)
          | (refine ⟨trivial, ?_⟩; gi_at_call 38; refine (CallsIn.inRound l (callsIn_wide.2 (HP2.out _ _ hX6.out.ref.cells))).mono ?_; rintro e w7 ⟨rfl, hr7, ho7⟩; have hX7 := Lib.hid (hX6.out.refOnly h86.out (fun k hk => hk.1) ho7 hr7); have hk7 := Lib.hid (hk6.out.trans (keeps_only ho7 (fun k hk => .inr hk.2))); have m5 := cell_of hX7.out.b5 3; have m6 := hX7.out.b6.cell; have m6' := hX7.out.b6.frozen; have m7 := hX7.out.b7.cell; clear hr7 ho7))
        exact ⟨hk7.out, ⟨N + 1, look (hp), sn + 1⟩, by show N < N + 1; omega, hp, c + 1, hX7.out, rfl, HCP.out, HC1'.out⟩
      · have d1 : decide (1 ≤ V) = true := decide_eq_true (by omega)
        have d1' : decide (V ≥ 1) = true := decide_eq_true (by omega)
        by_cases hV2 : V ≤ c + 1
        · have d2 : decide (V ≤ c + 1) = true := decide_eq_true hV2
          clear hV hV2
          gi_wp2_with (first
            | (refine ⟨trivial, ?_⟩; gi_at_call 13; refine (CallsIn.inRound l (callsIn_wide.2 hp1)).mono ?_; clear hp1; rintro e w6 ⟨rfl, hw6, ho6⟩; have hX6 := Lib.hid (HX5.out.winOnly (ho6.mono (fun k hk => .inl hk)) hw6); have hk6 := Lib.hid (HK5.out.trans (keeps_only ho6 (fun k hk => .inl (by have := HX5.out.bl; have := HS6.out; omega)))); have h86 := Lib.hid (Nat.le_trans H85.out ho6.size); have k4 := hX6.out.b4.cell; have k5 := cell_of hX6.out.b5 2; have k5' := cell_of hX6.out.b5 3; clear hw6 ho6)
            | (refine ⟨trivial, ?_⟩; gi_at_call 38; refine (CallsIn.inRound l (callsIn_wide.2 (HP2.out _ _ hX6.out.ref.cells))).mono ?_; rintro e w7 ⟨rfl, hr7, ho7⟩; have hX7 := Lib.hid (hX6.out.refOnly h86.out (fun k hk => hk.1) ho7 hr7); have hk7 := Lib.hid (hk6.out.trans (keeps_only ho7 (fun k hk => .inr hk.2))); have m5 := cell_of hX7.out.b5 3; have m6 := hX7.out.b6.cell; have m6' := hX7.out.b6.frozen; have m7 := hX7.out.b7.cell; clear hr7 ho7))
          exact ⟨hk7.out.trans ((KeepsOthers.setCell _ _ _).from _), N + 1, hp, sn + 1, c + 1, hX7.out.setR true, HCP.out, rfl⟩
        · have d2 : decide (V ≤ c + 1) = false := decide_eq_false hV2
          clear hV hV2
          gi_wp2_with (first
            | (refine ⟨trivial, ?_⟩; gi_at_call 13; refine (CallsIn.inRound l (callsIn_wide.2 hp1)).mono ?_; clear hp1; rintro e w6 ⟨rfl, hw6, ho6⟩; have hX6 := Lib.hid (HX5.out.winOnly (ho6.mono (fun k hk => .inl hk)) hw6); have hk6 := Lib.hid (HK5.out.trans (keeps_only ho6 (fun k hk => .inl (by have := HX5.out.bl; have := HS6.out; omega)))); have h86 := Lib.hid (Nat.le_trans H85.out ho6.size); have k4 := hX6.out.b4.cell; have k5 := cell_of hX6.out.b5 2; have k5' := cell_of hX6.out.b5 3; clear hw6 ho6)
            | (refine ⟨trivial, ?_⟩; gi_at_call 38; refine (CallsIn.inRound l (callsIn_wide.2 (HP2.out _ _ hX6.out.ref.cells))).mono ?_; rintro e w7 ⟨rfl, hr7, ho7⟩; have hX7 := Lib.hid (hX6.out.refOnly h86.out (fun k hk => hk.1) ho7 hr7); have hk7 := Lib.hid (hk6.out.trans (keeps_only ho7 (fun k hk => .inr hk.2))); have m5 := cell_of hX7.out.b5 3; have m6 := hX7.out.b6.cell; have m6' := hX7.out.b6.frozen; have m7 := hX7.out.b7.cell; clear hr7 ho7))
          exact ⟨hk7.out, ⟨N + 1, look (hp), sn + 1⟩, by show N < N + 1; omega, hp, c + 1, hX7.out, rfl, HCP.out, HC1'.out⟩
    · have v2 : wrap64 (N.tmod 2) = N.tmod 2 := IntWalk.wrap64_in _ ⟨by omega, by omega⟩
      have v3 : IntKind.i64.wrap (N.tmod 2) = N.tmod 2 := (IntWalk.i64_left _).trans v2
      have d0 : (N.tmod 2 == 0) = false := beq_eq_false_iff_ne.2 hev
      have d0' : decide (N.tmod 2 = 0) = false := decide_eq_false hev
      by_cases hV : V < 1
      · have d1 : decide (1 ≤ V) = false := decide_eq_false (by omega)
        have d1' : decide (V ≥ 1) = false := decide_eq_false (by omega)
        gi_wp2
        exact ⟨HK5.out, ⟨N + 1, look (wo hs' N), sn⟩, by show N < N + 1; omega, wo hs' N, c + 1, HX5.out, rfl, HC1.out, HC1'.out⟩
      · have d1 : decide (1 ≤ V) = true := decide_eq_true (by omega)
        have d1' : decide (V ≥ 1) = true := decide_eq_true (by omega)
        by_cases hV2 : V ≤ c + 1
        · have d2 : decide (V ≤ c + 1) = true := decide_eq_true hV2
          clear hV hV2
          gi_wp2
          exact ⟨HK5.out.trans ((KeepsOthers.setCell _ _ _).from _), N + 1, wo hs' N, sn, c + 1, HX5.out.setR true, HC1.out, rfl⟩
        · have d2 : decide (V ≤ c + 1) = false := decide_eq_false hV2
          clear hV hV2
          gi_wp2
          exact ⟨HK5.out, ⟨N + 1, look (wo hs' N), sn⟩, by show N < N + 1; omega, wo hs' N, c + 1, HX5.out, rfl, HC1.out, HC1'.out⟩
end
end Go.Proofs.YtmfabpkliogjlaaWin
end
section
namespace Go.Proofs.YtmfabpkliogjlaaWin
open Go.RowKit Go.Lib
set_option linter.unusedSimpArgs false
set_option linter.unusedVariables false
section
variable {lab : Nat → Nat} {i p b q hb : Nat} {nx sz : Int} {hs : Things} {n : Nat}
set_option maxRecDepth 100000 in
set_option maxHeartbeats 2000000 in
theorem plays_loops (w : World) (P : Pair w lab i p b q nx sz hs n) (hroom : nx + (hs.length : Int) ≤ 4000000) (hn : n + hs.length + 2 ≤ 1000000) (wh x v : Int) (hf : Fits x) (H : Value) :
    Calls Try.prog 26 #[.pointer (some ⟨p, 0, none⟩), .pointer (some ⟨q, 0, none⟩), .agg #[.int .i64 5, .int .i64 wh, .int .i64 x, .int .i64 v], H] w fun e w' => e = .returned (.bool true) ∧ Stepped w w' lab i p b q nx sz hs n := by
  have hb := (Below.refl w.heap.size w).alloc (Nat.le_refl _) (.cells #[.int .i64 5, .int .i64 wh, .int .i64 x, .int .i64 v] 61)
  have hnew := World.alloc_heap_new w (.cells #[.int .i64 5, .int .i64 wh, .int .i64 x, .int .i64 v] 61)
  obtain ⟨a0, P0⟩ := P.idle hb
  have hl := loops_calls _ P0 hroom hn wh x v hf
  have y0 := cell_of hnew 0
  have y1 := cell_of hnew 1
  have y2 := cell_of hnew 2
  have y3 := cell_of hnew 3
  have A0 := Lib.hid a0
  clear a0 P0 hnew hb P
  go_enter Try.func26, Try.ntmps26
  go_wp2_with (go_at_call 42; refine hl.mono ?_; rintro e w1 ⟨rfl, hst⟩; have hst := Lib.hid hst)
  go_ret
  obtain ⟨lab', nx', hs', n', s1, s2, s3⟩ := hst.out
  exact ⟨rfl, lab', nx', hs', n', A0.out.trans s1, s2, s3⟩
end
end Go.Proofs.YtmfabpkliogjlaaWin
end
section
namespace Go.Proofs.YtmfabpkliogjlaaWin
open Go.RowKit Go.Lib
set_option linter.unusedSimpArgs false
set_option linter.unusedVariables false
def Bd (k : Nat) (nx : Int) (hs : Things) (n : Nat) : Prop := nx + (hs.length : Int) ≤ 1048576 + (k : Int) ∧ hs.length ≤ k ∧ n ≤ 102 * k
theorem Bd.mono {k k' : Nat} {nx : Int} {hs : Things} {n : Nat} (h : Bd k nx hs n) (hk : k ≤ k') : Bd k' nx hs n := by
  obtain ⟨h1, h2, h3⟩ := h
  exact ⟨by omega, by omega, by omega⟩
theorem Bd.step {k n n' : Nat} {nx nx' : Int} {hs hs' : Things} (h : Bd k nx hs n) (hk : k ≤ 100) (h1 : hs'.length ≤ hs.length + 1) (h2 : nx' + (hs'.length : Int) ≤ nx + (hs.length : Int) + 1) (h3 : n' ≤ n + hs.length + 2) : Bd (k + 1) nx' hs' n' := by
  obtain ⟨a, b, c⟩ := h
  exact ⟨by omega, by omega, by omega⟩
theorem Bd.room {k n : Nat} {nx : Int} {hs : Things} (h : Bd k nx hs n) (hk : k ≤ 101) : nx + (hs.length : Int) ≤ 4000000 ∧ n + hs.length + 2 ≤ 1000000 := by
  obtain ⟨a, b, c⟩ := h
  omega
def Win0 (W : World) (lab : Nat → Nat) (k p q : Nat) : Prop := ∃ b j nx sz hs n, (j = 0 ∨ j = 2) ∧ Pair W lab j p b q nx sz hs n ∧ Bd k nx hs n
def Win1 (W : World) (lab : Nat → Nat) (k : Nat) (u1 u2 : Option Addr) : Prop := (u1 = none ∧ u2 = none) ∨ ∃ p b q nx sz hs n, u1 = some ⟨p, 0, none⟩ ∧ u2 = some ⟨q, 0, none⟩ ∧ Pair W lab 1 p b q nx sz hs n ∧ Bd k nx hs n
structure All (w W : World) (lab : Nat → Nat) (k p q : Nat) (u1 u2 : Option Addr) (hb : Nat) : Prop where
  bel : Below w.heap.size w W
  old : ∀ k, k < w.heap.size → lab k = 9
  w0 : Win0 W lab k p q
  w1 : Win1 W lab k u1 u2
  held : ∃ cs, Kept W lab 3 hb cs ∧ cs.length ≤ 2 * k
section
variable {w W W' : World} {lab lab' : Nat → Nat} {k p q hb j : Nat} {u1 u2 : Option Addr}
theorem below_act (h : Below w.heap.size w W) (old : ∀ k, k < w.heap.size → lab k = 9) (a : Act_ j lab lab' W W') (hj : j ≠ 9) : Below w.heap.size w W' :=
  h.trans (a.only.below h.size (fun k hk => by
    rcases Nat.lt_or_ge k w.heap.size with hh | hh
    · exact absurd ((old k hh).symm.trans hk) (fun e => hj e.symm)
    · exact hh))
theorem old_act (hs : w.heap.size ≤ W.heap.size) (old : ∀ k, k < w.heap.size → lab k = 9) (a : Act_ j lab lab' W W') : ∀ k, k < w.heap.size → lab' k = 9 := fun k hk => (a.old k (by omega)).trans (old k hk)
theorem Win0.mono {k' : Nat} (h : Win0 W lab k p q) (hk : k ≤ k') : Win0 W lab k' p q := by
  obtain ⟨b, j, nx, sz, hs, n, h1, h2, h3⟩ := h
  exact ⟨b, j, nx, sz, hs, n, h1, h2, h3.mono hk⟩
theorem Win1.mono {k' : Nat} (h : Win1 W lab k u1 u2) (hk : k ≤ k') : Win1 W lab k' u1 u2 := by
  rcases h with h | ⟨p, b, q, nx, sz, hs, n, h1, h2, h3, h4⟩
  · exact .inl h
  · exact .inr ⟨p, b, q, nx, sz, hs, n, h1, h2, h3, h4.mono hk⟩
theorem Win0.other (h : Win0 W lab k p q) (a : Act_ j lab lab' W W') (h0 : j ≠ 0) (h2 : j ≠ 2) : Win0 W' lab' k p q := by
  obtain ⟨b, i, nx, sz, hs, n, h1, h3, h4⟩ := h
  exact ⟨b, i, nx, sz, hs, n, h1, h3.other a (by rcases h1 with rfl | rfl; exact fun e => h0 e.symm; exact fun e => h2 e.symm), h4⟩
theorem Win1.other (h : Win1 W lab k u1 u2) (a : Act_ j lab lab' W W') (h0 : j ≠ 1) : Win1 W' lab' k u1 u2 := by
  rcases h with h | ⟨p, b, q, nx, sz, hs, n, h1, h2, h3, h4⟩
  · exact .inl h
  · exact .inr ⟨p, b, q, nx, sz, hs, n, h1, h2, h3.other a (fun e => h0 e.symm), h4⟩
theorem All.idle (h : All w W lab k p q u1 u2 hb) (hb' : Below W.heap.size W W') : ∃ lab', All w W' lab' k p q u1 u2 hb := by
  have a : Act_ 5 lab (relab lab W.heap.size 5) W W' := Act_.of (S := fun _ => False) (Only.of_below hb') (fun k hk => hk.elim)
  obtain ⟨cs, hc1, hc2⟩ := h.held
  exact ⟨_, below_act h.bel h.old a (by decide), old_act h.bel.size h.old a, h.w0.other a (by decide) (by decide), h.w1.other a (by decide), cs, hc1.other a (by decide), hc2⟩
theorem All.mono {k' : Nat} (h : All w W lab k p q u1 u2 hb) (hk : k ≤ k') : All w W lab k' p q u1 u2 hb := by
  obtain ⟨cs, hc1, hc2⟩ := h.held
  exact ⟨h.bel, h.old, h.w0.mono hk, h.w1.mono hk, cs, hc1, by omega⟩
theorem All.told {cs' : List (List Int)} (h : All w W lab k p q u1 u2 hb) (a : Act_ 3 lab lab' W W') (K : Kept W' lab' 3 hb cs') (hl : cs'.length ≤ 2 * k + 2) : All w W' lab' (k + 1) p q u1 u2 hb :=
  ⟨below_act h.bel h.old a (by decide), old_act h.bel.size h.old a, (h.w0.other a (by decide) (by decide)).mono (by omega), (h.w1.other a (by decide)).mono (by omega), cs', K, by omega⟩
theorem All.step0 {b nn : Nat} {nx sz : Int} {hs : Things} (h : All w W lab k p q u1 u2 hb) (hk : k ≤ 100) (hj : j = 0 ∨ j = 2) (hbd : Bd k nx hs nn) (st : Stepped W W' lab j p b q nx sz hs nn) : ∃ lab', All w W' lab' (k + 1) p q u1 u2 hb := by
  obtain ⟨lab', nx', hs', n', a, P, h1, h2, h3⟩ := st
  obtain ⟨cs, hc1, hc2⟩ := h.held
  have h9 : j ≠ 9 := by omega
  exact ⟨lab', below_act h.bel h.old a h9, old_act h.bel.size h.old a, ⟨b, j, nx', sz, hs', n', hj, P, hbd.step hk h1 h2 h3⟩, (h.w1.other a (by omega)).mono (by omega), cs, hc1.other a (by omega), by omega⟩
theorem All.step1 {p1 b q1 nn : Nat} {nx sz : Int} {hs : Things} (h : All w W lab k p q (some ⟨p1, 0, none⟩) (some ⟨q1, 0, none⟩) hb) (hk : k ≤ 100) (hbd : Bd k nx hs nn) (st : Stepped W W' lab 1 p1 b q1 nx sz hs nn) : ∃ lab', All w W' lab' (k + 1) p q (some ⟨p1, 0, none⟩) (some ⟨q1, 0, none⟩) hb := by
  obtain ⟨lab', nx', hs', n', a, P, h1, h2, h3⟩ := st
  obtain ⟨cs, hc1, hc2⟩ := h.held
  exact ⟨lab', below_act h.bel h.old a (by decide), old_act h.bel.size h.old a, (h.w0.other a (by decide) (by decide)).mono (by omega), .inr ⟨p1, b, q1, nx', sz, hs', n', rfl, rfl, P, hbd.step hk h1 h2 h3⟩, cs, hc1.other a (by decide), by omega⟩
theorem plays_any {p0 b0 q0 n0 i : Nat} {nx sz : Int} {hs : Things} (h : All w W lab k p q u1 u2 hb) (hk : k ≤ 99) (P : Pair W lab i p0 b0 q0 nx sz hs n0) (hi : i ≠ 3) (hbd : Bd k nx hs n0)
    (hst : ∀ W', Stepped W W' lab i p0 b0 q0 nx sz hs n0 → ∃ lab', All w W' lab' (k + 1) p q u1 u2 hb) (kd wh x v : Int) (hf : Fits x) :
    Calls Try.prog 26 #[.pointer (some ⟨p0, 0, none⟩), .pointer (some ⟨q0, 0, none⟩), .agg #[.int .i64 kd, .int .i64 wh, .int .i64 x, .int .i64 v], .pointer (some ⟨hb, 0, none⟩)] W fun e w' => e = .returned (.bool true) ∧ ∃ lab', All w w' lab' (k + 1) p q u1 u2 hb := by
  obtain ⟨r1, r2⟩ := hbd.room (by omega)
  by_cases c1 : kd = 1
  · subst c1
    exact (plays_put W P r1 r2 wh x v hf _).mono (fun e w' ⟨he, hs⟩ => ⟨he, hst w' hs⟩)
  by_cases c2 : kd = 2
  · subst c2
    exact (plays_peek W P wh x v _).mono (fun e w' ⟨he, hs⟩ => ⟨he, hst w' hs⟩)
  by_cases c3 : kd = 3
  · subst c3
    exact (plays_pass W P r1 wh x v _).mono (fun e w' ⟨he, hs⟩ => ⟨he, hst w' hs⟩)
  by_cases c4 : kd = 4
  · subst c4
    exact (plays_drop W P wh x v hf _).mono (fun e w' ⟨he, hs⟩ => ⟨he, hst w' hs⟩)
  by_cases c5 : kd = 5
  · subst c5
    exact (plays_loops W P r1 r2 wh x v hf _).mono (fun e w' ⟨he, hs⟩ => ⟨he, hst w' hs⟩)
  by_cases c6 : kd = 6
  · subst c6
    obtain ⟨cs, hc1, hc2⟩ := h.held
    exact (plays_told W P hc1 hi (by omega) wh x v).mono (fun e w' ⟨he, lab', cs', a, K, hl⟩ => ⟨he, lab', h.told a K (by omega)⟩)
  · exact (plays_none W P kd wh x v (by omega) _).mono (fun e w' ⟨he, hs⟩ => ⟨he, hst w' hs⟩)
theorem plays0 (h : All w W lab k p q u1 u2 hb) (hk : k ≤ 99) (kd wh x v : Int) (hf : Fits x) :
    Calls Try.prog 26 #[.pointer (some ⟨p, 0, none⟩), .pointer (some ⟨q, 0, none⟩), .agg #[.int .i64 kd, .int .i64 wh, .int .i64 x, .int .i64 v], .pointer (some ⟨hb, 0, none⟩)] W fun e w' => e = .returned (.bool true) ∧ ∃ lab', All w w' lab' (k + 1) p q u1 u2 hb := by
  obtain ⟨b, j, nx, sz, hs, n, hj, P, hbd⟩ := h.w0
  exact plays_any h hk P (by omega) hbd (fun W' hs => h.step0 (by omega) hj hbd hs) kd wh x v hf
theorem plays1 {p1 q1 : Nat} (h : All w W lab k p q (some ⟨p1, 0, none⟩) (some ⟨q1, 0, none⟩) hb) (hk : k ≤ 99) (kd wh x v : Int) (hf : Fits x) :
    Calls Try.prog 26 #[.pointer (some ⟨p1, 0, none⟩), .pointer (some ⟨q1, 0, none⟩), .agg #[.int .i64 kd, .int .i64 wh, .int .i64 x, .int .i64 v], .pointer (some ⟨hb, 0, none⟩)] W fun e w' => e = .returned (.bool true) ∧ ∃ lab', All w w' lab' (k + 1) p q (some ⟨p1, 0, none⟩) (some ⟨q1, 0, none⟩) hb := by
  rcases h.w1 with ⟨e, _⟩ | ⟨p', b, q', nx, sz, hs, n, e1, e2, P, hbd⟩
  · cases e
  · injection e1 with e1
    injection e1 with e1
    injection e2 with e2
    injection e2 with e2
    subst e1 e2
    exact plays_any h hk P (by decide) hbd (fun W' hs => h.step1 (by omega) hbd hs) kd wh x v hf
theorem told0 (h : All w W lab k p q u1 u2 hb) (hk : k ≤ 101) : Calls Try.prog 28 #[.pointer (some ⟨p, 0, none⟩), .pointer (some ⟨q, 0, none⟩), .pointer (some ⟨hb, 0, none⟩)] W fun e w' => e = .returned (.bool true) ∧ ∃ lab', All w w' lab' (k + 1) p q u1 u2 hb := by
  obtain ⟨b, j, nx, sz, hs, n, hj, P, hbd⟩ := h.w0
  obtain ⟨cs, hc1, hc2⟩ := h.held
  exact (told_calls W P hc1 (by omega)).mono (fun e w' ⟨he, lab', cs', a, K, hl⟩ => ⟨he, lab', h.told a K (by omega)⟩)
theorem told1 {p1 q1 : Nat} (h : All w W lab k p q (some ⟨p1, 0, none⟩) (some ⟨q1, 0, none⟩) hb) (hk : k ≤ 101) : Calls Try.prog 28 #[.pointer (some ⟨p1, 0, none⟩), .pointer (some ⟨q1, 0, none⟩), .pointer (some ⟨hb, 0, none⟩)] W fun e w' => e = .returned (.bool true) ∧ ∃ lab', All w w' lab' (k + 1) p q (some ⟨p1, 0, none⟩) (some ⟨q1, 0, none⟩) hb := by
  rcases h.w1 with ⟨e, _⟩ | ⟨p', b, q', nx, sz, hs, n, e1, e2, P, hbd⟩
  · cases e
  · injection e1 with e1
    injection e1 with e1
    injection e2 with e2
    injection e2 with e2
    subst e1 e2
    obtain ⟨cs, hc1, hc2⟩ := h.held
    exact (told_calls W P hc1 (by omega)).mono (fun e w' ⟨he, lab', cs', a, K, hl⟩ => ⟨he, lab', h.told a K (by omega)⟩)
theorem hold_all (h : All w W lab k p q u1 u2 hb) (hk : k ≤ 102) : Calls Try.prog 27 #[.pointer (some ⟨hb, 0, none⟩)] W fun e w' => e = .returned (.bool true) ∧ ∃ lab', All w w' lab' k p q u1 u2 hb := by
  obtain ⟨cs, hc1, hc2⟩ := h.held
  exact (hold_calls W hc1.at_ (by omega) hc1.lens).mono (fun e w' ⟨he, hb⟩ => ⟨he, h.idle hb⟩)
end
theorem opened_any (w : World) (lab : Nat → Nat) (i : Nat) (nx sz : Int) : Calls Try.prog 10 #[.agg #[.int .i64 nx, .int .i64 sz]] w fun e w' =>
    ∃ v1 v2 : Option Addr, e = .returned (.tuple #[.pointer v1, .pointer v2, .bool true]) ∧ Below w.heap.size w w' ∧ ((v1 = none ∧ v2 = none) ∨ ∃ p b q sz nx, v1 = some ⟨p, 0, none⟩ ∧ v2 = some ⟨q, 0, none⟩ ∧ Pair w' (relab lab w.heap.size i) i p b q nx sz [] 0 ∧ Bd 0 nx [] 0) ∧ Act_ i lab (relab lab w.heap.size i) w w' := by
  by_cases h : RoomOk nx sz
  · refine (opened_yes w lab i nx sz h).mono ?_
    rintro e w' ⟨p, b, q, rfl, a, P, hb⟩
    exact ⟨_, _, rfl, hb, .inr ⟨p, b, q, sz, nx, rfl, rfl, P, by have := h.2.1; exact ⟨by simpa using this, Nat.le_refl _, Nat.le_refl _⟩⟩, a⟩
  · refine (opened_no w nx sz h).mono ?_
    rintro e w' ⟨rfl, hb⟩
    exact ⟨_, _, rfl, hb, .inl ⟨rfl, rfl⟩, Act_.of (S := fun _ => False) (Only.of_below hb) (fun k hk => hk.elim)⟩
end Go.Proofs.YtmfabpkliogjlaaWin
end
section
namespace Go.Proofs.YtmfabpkliogjlaaR
open Go.RowKit Go.Proofs.YtmfabpkliogjlaaW.PrintWords
theorem list_of {α : Type} {p : Nat → α → Prop} : ∀ (n : Nat), (∀ i, i < n → ∃ y, p i y) → ∃ ys : List α, ys.length = n ∧ ∀ i y, ys[i]? = some y → p i y
  | 0, _ => ⟨[], rfl, fun i y h => by simp at h⟩
  | n + 1, h => by
    obtain ⟨ys, hl, hp⟩ := list_of n (fun i hi => h i (by omega))
    obtain ⟨y, hy⟩ := h n (by omega)
    refine ⟨ys ++ [y], by simp [hl], fun i z hz => ?_⟩
    by_cases hi : i < n
    · rw [List.getElem?_append_left (by omega)] at hz
      exact hp i z hz
    · have : i = n := by
        have := (List.getElem?_eq_some_iff.1 hz).1
        simp [hl] at this
        omega
      subst this
      rw [List.getElem?_append_right (by omega)] at hz
      simp [hl] at hz
      subst hz
      exact hy
theorem weightsAll_mem {H : Type} {P : Program} {e : TypeId} : ∀ {ds : List (DataW H)} {d : DataW H}, d ∈ ds → ∀ n ∈ d.weights P e, n ∈ DataW.weightsAll P e ds
  | d0 :: ds, d, hd, n, hn => by
    simp only [DataW.weightsAll, List.mem_append]
    rcases List.mem_cons.1 hd with rfl | hd
    · exact Or.inl hn
    · exact Or.inr (weightsAll_mem hd n hn)
  | [], d, hd, _, _ => by simp at hd
def Reads {α : Type} (P : Program) (t : TypeId) (d : Kd α) (Q : α → Prop) : Prop :=
  ∀ (H : Type) (enc : TypeId × Value → H) (w : World) (base : Nat) (spare : Nat → Bool) (held : Bool) (fuel : Nat) (cs : List Value) (x : DataW H × List MemPlace),
    DataW.trod enc P w base spare held fuel t cs = some x → (∀ n ∈ x.1.weights P t, n ≤ reachBytes) → ∃ y, d.K w y cs ∧ Q y
theorem reads_int {P : Program} {t : TypeId} {k : IntKind} (ht : P.underlying t = some (.int k)) : Reads P t (Kd.int k) (fun n => (Lit.int k n).wf = true) := by
  intro H enc w base spare held fuel cs x h _
  obtain ⟨n, rfl, _, hw⟩ := DataW.trod_int ht h
  exact ⟨n, rfl, hw⟩
theorem reads_slice {α : Type} {P : Program} {t e : TypeId} {d : Kd α} {Q : α → Prop} (ht : P.underlying t = some (.slice e)) (hc : P.cellsOf e = d.sz) {B : Nat} (hB : P.bytesOf e = B) (he : Reads P e d Q) :
    Reads P t (Kd.slice e d) (fun xs => xs.length * B ≤ 140737488351232 ∧ ∀ x ∈ xs, Q x) := by
  intro H enc w base spare held fuel cs x h hb
  rcases Deep.open_slice ht h with ⟨rfl, rfl⟩ | ⟨a, len, cap, m, n, D, Pl, rfl, _, hl, hm, hmm, rfl, hx⟩
  · exact ⟨[], ⟨none, 0, rfl, Nat.le_refl _, ⟨rfl, by simp, fun h0 => absurd h0 (by simp)⟩⟩, by simp, by simp⟩
  · have hlm : len ≤ m := by rw [hmm]; split <;> omega
    have hex : ∀ i, i < len → ∃ y, (∃ cs', w.cells? base (a.add (i * P.cellsOf e)) (P.cellsOf e) = some cs' ∧ d.K w y cs') ∧ Q y := by
      intro i hi
      obtain ⟨cs', h1, h2⟩ := hx i (by omega)
      obtain ⟨y, hy, hq⟩ := he H enc w base spare held n cs' _ h2 (fun k hk => hb k (by
        simp only [DataW.weights, ht, List.mem_cons, List.mem_append]
        refine Or.inr (Or.inl (weightsAll_mem (d := D i) ?_ k hk))
        exact List.mem_map.2 ⟨i, List.mem_range.2 hi, rfl⟩))
      exact ⟨y, ⟨cs', h1, hy⟩, hq⟩
    obtain ⟨ys, hlen, hp⟩ := list_of len hex
    subst hlen
    have hcap : ys.length ≤ 9223372036854775807 := by unfold maxLen at hm; omega
    refine ⟨ys, ⟨some a, cap, rfl, hl, rfl, hcap, fun _ => ⟨a, rfl, fun j p hj => ?_⟩⟩, ?_, fun x hx' => ?_⟩
    · obtain ⟨⟨cs', h1, hK⟩, _⟩ := hp j p hj
      obtain ⟨_, hl2, hcell⟩ := World.cells?_some h1
      rw [hc] at hl2
      refine ⟨cs', hl2, hK, fun i u hu => ?_⟩
      have hi : i < P.cellsOf e := by rw [hc, ← hl2]; exact (List.getElem?_eq_some_iff.1 hu).1
      rw [← add_add, ← hc]
      exact (hcell i hi).trans hu
    · have := hb _ (by simp only [DataW.weights, ht]; exact List.mem_cons_self)
      simp only [List.length_map, List.length_range] at this
      rw [hB] at this
      have e1 : reachBytes = 140737488351232 := rfl
      rw [e1] at this
      refine Nat.le_trans (Nat.mul_le_mul_right _ ?_) this
      omega
    · obtain ⟨i, hi⟩ := List.getElem?_of_mem hx'
      exact (hp i x hi).2
def ReadsL {α : Type} (P : Program) (o : Nat) (fs : List Field) (d : Kd α) (Q : α → Prop) : Prop :=
  ∀ (H : Type) (enc : TypeId × Value → H) (w : World) (base : Nat) (spare : Nat → Bool) (held : Bool) (fuel : Nat) (cs : List Value) (xs : List (DataW H × List MemPlace)),
    xs.length = fs.length → (∀ (i : Nat) (f : Field), fs[i]? = some f → DataW.trod enc P w base spare held fuel f.type ((cs.drop f.offset).take (P.cellsOf f.type)) = xs[i]?) →
    (∀ n ∈ DataW.weightsEach P (fs.map (·.type)) (xs.map (·.1)), n ≤ reachBytes) → o + d.sz ≤ cs.length → ∃ y, d.K w y ((cs.drop o).take d.sz) ∧ Q y
theorem readsL_one {α : Type} {P : Program} {o : Nat} {f : Field} {d : Kd α} {Q : α → Prop} (h : Reads P f.type d Q) (ho : f.offset = o) (hc : P.cellsOf f.type = d.sz) : ReadsL P o [f] d Q := by
  intro H enc w base spare held fuel cs xs hl hx hb _
  match xs, hl with
  | [x], _ =>
    have h0 := hx 0 f rfl
    rw [ho, hc] at h0
    exact h H enc w base spare held fuel _ x h0 (fun n hn => hb n (by simpa [DataW.weightsEach] using hn))
theorem readsL_cons {α β : Type} {P : Program} {o : Nat} {f : Field} {fs : List Field} {a : Kd α} {b : Kd β} {Qa : α → Prop} {Qb : β → Prop} (h : Reads P f.type a Qa) (ho : f.offset = o) (hc : P.cellsOf f.type = a.sz) (ht : ReadsL P (o + a.sz) fs b Qb) :
    ReadsL P o (f :: fs) (Kd.pair a b) (fun y => Qa y.1 ∧ Qb y.2) := by
  intro H enc w base spare held fuel cs xs hl hx hb hlen
  match xs, hl with
  | x :: xs, hl =>
    have h0 := hx 0 f rfl
    rw [ho, hc] at h0
    obtain ⟨y, hy, hq⟩ := h H enc w base spare held fuel _ x h0 (fun n hn => hb n (by simp only [List.map_cons, DataW.weightsEach, List.mem_append]; exact Or.inl hn))
    have hsz : (Kd.pair a b).sz = a.sz + b.sz := rfl
    obtain ⟨z, hz, hr⟩ := ht H enc w base spare held fuel cs xs (by simpa using hl) (fun i g hg => hx (i + 1) g hg) (fun n hn => hb n (by simp only [List.map_cons, DataW.weightsEach, List.mem_append]; exact Or.inr hn)) (by rw [hsz] at hlen; omega)
    refine ⟨(y, z), ⟨_, _, ?_, hy, hz⟩, hq, hr⟩
    rw [hsz, List.take_add, List.drop_drop]
theorem reads_struct {α β : Type} {P : Program} {t : TypeId} {fs : Array Field} {d : Kd α} {Q : α → Prop} {f : β → α} (g : α → β) (hg : ∀ y, f (g y) = y) (ht : P.underlying t = some (.struct fs)) (hc : P.cellsOf t = d.sz) (h : ReadsL P 0 fs.toList d Q) :
    Reads P t (Kd.iso d f) (fun x => Q (f x)) := by
  intro H enc w base spare held fuel cs x hx hb
  obtain ⟨xs, n, rfl, rfl, hl, hlen, hall⟩ := DataW.trod_struct ht hx
  obtain ⟨y, hy, hq⟩ := h H enc w base spare held n cs xs (by simpa using hlen) (fun i f hf => hall i f (by simpa using hf)) (fun k hk => hb k (by simp only [DataW.weights, ht]; exact hk)) (by omega)
  rw [List.drop_zero, List.take_of_length_le (by omega)] at hy
  refine ⟨g y, ?_, ?_⟩
  · show d.K w (f (g y)) cs
    rw [hg]; exact hy
  · show Q (f (g y))
    rw [hg]; exact hq
theorem Reads.weaken {α : Type} {P : Program} {t : TypeId} {d : Kd α} {Q Q' : α → Prop} (h : Reads P t d Q) (hq : ∀ x, Q x → Q' x) : Reads P t d Q' := by
  intro H enc w base spare held fuel cs x hx hb
  obtain ⟨y, hy, hq'⟩ := h H enc w base spare held fuel cs x hx hb
  exact ⟨y, hy, hq y hq'⟩
theorem slice_arg {α : Type} {H : Type} {enc : TypeId × Value → H} {P : Program} {W : World} {base : Nat} {spare : Nat → Bool} {held : Bool} {t e : TypeId} {d : Kd α} {Q : List α → Prop} {a : Option Addr} {len cap : Nat} {D : DataW H} {ps : List MemPlace}
    (h : DataW.Trod enc P W base spare held t (.slice a len cap) D ps) {ts : List TypeId} {ds : List (DataW H)} {j : Nat}
    (hsz : (DataW.weightsEach P ts ds).all (· ≤ reachBytes) = true) (ht : ts[j]? = some t) (hd : ds[j]? = some D) (hR : Reads P t (Kd.slice e d) Q) :
    ∃ xs : List α, len = xs.length ∧ xs.length ≤ cap ∧ d.C W a xs.length xs ∧ Q xs := by
  obtain ⟨fuel, hf⟩ := h
  obtain ⟨xs, ⟨A, c, hc, hl, hC⟩, hq⟩ := hR H enc W base spare held fuel _ _ hf (fun n hn => by
    have := List.all_eq_true.1 hsz n (DataW.weights_mem_each ht hd n hn)
    simpa using this)
  simp [Value.cells] at hc
  obtain ⟨rfl, rfl, rfl⟩ := hc
  exact ⟨xs, rfl, hl, hC, hq⟩
theorem agg_arg {α : Type} {H : Type} {enc : TypeId × Value → H} {P : Program} {W : World} {base : Nat} {spare : Nat → Bool} {held : Bool} {t : TypeId} {d : Kd α} {Q : α → Prop} {v : Value} {D : DataW H} {ps : List MemPlace}
    (h : DataW.Trod enc P W base spare held t v D ps) {ts : List TypeId} {ds : List (DataW H)} {j : Nat}
    (hsz : (DataW.weightsEach P ts ds).all (· ≤ reachBytes) = true) (ht : ts[j]? = some t) (hd : ds[j]? = some D) (hR : Reads P t d Q) :
    ∃ x : α, d.K W x v.cells.toList ∧ Q x := by
  obtain ⟨fuel, hf⟩ := h
  exact hR H enc W base spare held fuel _ _ hf (fun n hn => by
    have := List.all_eq_true.1 hsz n (DataW.weights_mem_each ht hd n hn)
    simpa using this)
end Go.Proofs.YtmfabpkliogjlaaR
end
section
namespace Go.Proofs.YtmfabpkliogjlaaWin
open Go.RowKit Go.Proofs.YtmfabpkliogjlaaR Go.Proofs.YtmfabpkliogjlaaW.PrintWords
abbrev kRoom : Kd (Int × Int) := Kd.iso (Kd.pair (Kd.int .i64) (Kd.int .i64)) (fun x : Int × Int => x)
abbrev SStep : Type := Int × Int × Int × Int
abbrev kStep : Kd SStep := Kd.iso (Kd.pair (Kd.int .i64) (Kd.pair (Kd.int .i64) (Kd.pair (Kd.int .i64) (Kd.int .i64)))) (fun x : SStep => x)
theorem readsRoom : Reads Try.prog 27 kRoom (fun _ => True) := (reads_struct (d := Kd.pair (Kd.int .i64) (Kd.int .i64)) (f := fun x : Int × Int => x) (fun y => y) (fun _ => rfl) Try.underlying27 (by kernel_rfl) (readsL_cons (reads_int Try.underlying3) (by kernel_rfl) (by kernel_rfl) (readsL_one (reads_int Try.underlying3) (by kernel_rfl) (by kernel_rfl)))).weaken (fun _ _ => trivial)
theorem readsStep : Reads Try.prog 61 kStep (fun x => (Lit.int .i64 x.2.2.1).wf = true) := (reads_struct (d := Kd.pair (Kd.int .i64) (Kd.pair (Kd.int .i64) (Kd.pair (Kd.int .i64) (Kd.int .i64)))) (f := fun x : SStep => x) (fun y => y) (fun _ => rfl) Try.underlying61 (by kernel_rfl) (readsL_cons (reads_int Try.underlying3) (by kernel_rfl) (by kernel_rfl) (readsL_cons (reads_int Try.underlying3) (by kernel_rfl) (by kernel_rfl) (readsL_cons (reads_int Try.underlying3) (by kernel_rfl) (by kernel_rfl) (readsL_one (reads_int Try.underlying3) (by kernel_rfl) (by kernel_rfl)))))).weaken (fun _ h => h.2.2.1)
theorem agg_of_cells2 {v a b : Value} (h : v.cells.toList = [a, b]) : v = .agg #[a, b] := by
  cases v <;> simp [Value.cells] at h
  rename_i arr
  cases arr
  simp_all
theorem openRoom {w : World} {x : Int × Int} {v : Value} (h : kRoom.K w x v.cells.toList) : v = .agg #[.int .i64 x.1, .int .i64 x.2] := by
  obtain ⟨_, _, hv, rfl, rfl⟩ := h
  exact agg_of_cells2 hv
theorem atStep {w : World} {A : Option Addr} {ps : List SStep} (h : Kd.C kStep w A ps.length ps) {k : Nat} (hk : k < ps.length) : ∃ ad, A = some ad ∧ w.cell? (ad.add (k * 4)) = some (.int .i64 ps[k].1) ∧ w.cell? ⟨(ad.add (k * 4)).block, (ad.add (k * 4)).off + 1, none⟩ = some (.int .i64 ps[k].2.1) ∧ w.cell? ⟨(ad.add (k * 4)).block, (ad.add (k * 4)).off + 2, none⟩ = some (.int .i64 ps[k].2.2.1) ∧ w.cell? ⟨(ad.add (k * 4)).block, (ad.add (k * 4)).off + 3, none⟩ = some (.int .i64 ps[k].2.2.2) := by
  obtain ⟨ad, c, e, hl, hK, hc⟩ := Kd.C_get h (0, 0, 0, 0) (k : Int) (by omega) (by omega)
  have hx : ps.getD (k : Int).toNat (0, 0, 0, 0) = ps[k] := by simp [hk]
  rw [hx] at hK
  obtain ⟨c0, c1, rfl, h0, c2, c3, rfl, h1, c4, c5, rfl, h2, h3⟩ := hK
  have h0' : c0 = [.int .i64 ps[k].1] := h0
  have h1' : c2 = [.int .i64 ps[k].2.1] := h1
  have h2' : c4 = [.int .i64 ps[k].2.2.1] := h2
  have h3' : c5 = [.int .i64 ps[k].2.2.2] := h3
  subst h0' h1' h2' h3'
  have hs : kStep.sz = 4 := rfl
  refine ⟨ad, e, ?_, ?_, ?_, ?_⟩
  · have := hc 0 _ rfl
    rw [hs] at this
    simpa using this
  · have := hc 1 _ rfl
    rw [hs, Int.toNat_natCast, add_field _ _ _ (by decide)] at this
    exact this
  · have := hc 2 _ rfl
    rw [hs, Int.toNat_natCast, add_field _ _ _ (by decide)] at this
    exact this
  · have := hc 3 _ rfl
    rw [hs, Int.toNat_natCast, add_field _ _ _ (by decide)] at this
    exact this
end Go.Proofs.YtmfabpkliogjlaaWin
end
section
namespace Go.Proofs.YtmfabpkliogjlaaWin
open Go.RowKit Go.Lib Go.Proofs.YtmfabpkliogjlaaR Go.Proofs.YtmfabpkliogjlaaW.PrintWords
set_option linter.unusedSimpArgs false
set_option linter.unusedVariables false
theorem held_empty (W : World) (S : Nat → Prop) (hb : Nat) (h : W.heap[hb]? = some (.cells #[.slice none 0 0, .slice none 0 0] 59 (0, 0))) (hS : S hb) : HeldAt W hb [] S S :=
  ⟨_, _, [], [], h, hS, World.ownsRow_nil W 0 29 1, World.ownsRow_nil W 0 29 1, (fun g hg => by cases hg), (fun g hg => by cases hg), rfl, rfl, (fun g hg => by cases hg), fun i hi => by cases hi⟩
def Opn (W : World) (lab : Nat → Nat) (i : Nat) (v1 v2 : Option Addr) : Prop := (v1 = none ∧ v2 = none) ∨ ∃ p b q sz nx, v1 = some ⟨p, 0, none⟩ ∧ v2 = some ⟨q, 0, none⟩ ∧ Pair W lab i p b q nx sz [] 0 ∧ Bd 0 nx [] 0
theorem Opn.other {W W' : World} {lab lab' : Nat → Nat} {i j : Nat} {v1 v2 : Option Addr} (h : Opn W lab i v1 v2) (a : Act_ j lab lab' W W') (hij : i ≠ j) : Opn W' lab' i v1 v2 := by
  rcases h with h | ⟨p, b, q, sz, nx, h1, h2, P, h3⟩
  · exact .inl h
  · exact .inr ⟨p, b, q, sz, nx, h1, h2, P.other a hij, h3⟩
theorem opened_o (w : World) (lab : Nat → Nat) (i : Nat) (nx sz : Int) : Calls Try.prog 10 #[.agg #[.int .i64 nx, .int .i64 sz]] w fun e w' =>
    ∃ v1 v2 : Option Addr, e = .returned (.tuple #[.pointer v1, .pointer v2, .bool true]) ∧ Below w.heap.size w w' ∧ ∃ lab', Opn w' lab' i v1 v2 ∧ Act_ i lab lab' w w' := by
  refine (opened_any w lab i nx sz).mono ?_
  rintro e w' ⟨v1, v2, h1, h2, h3, h4⟩
  exact ⟨v1, v2, h1, h2, _, h3, h4⟩
set_option maxRecDepth 100000 in
set_option maxHeartbeats 16000000 in
theorem exact_calls {a0 a1 b0 b1 : Int} {sc : List SStep} {w : World} {A : Option Addr} {c : Nat} (hSc : Kd.C kStep w A sc.length sc) (hsm : sc.length ≤ 140737488355328) (hfit : ∀ x ∈ sc, Fits x.2.2.1) :
    Calls Try.prog 7 #[.agg #[.int .i64 a0, .int .i64 a1], .agg #[.int .i64 b0, .int .i64 b1], .slice A sc.length c] w fun e w' => e = .returned (.bool true) ∧ Below w.heap.size w w' := by
  obtain ⟨W3, hW3⟩ : ∃ W3, ((w.alloc (.cells #[.int .i64 a0, .int .i64 a1] 27)).alloc (.cells #[.int .i64 b0, .int .i64 b1] 27)).alloc (.cells #[.slice none 0 0, .slice none 0 0] 59) = W3 := ⟨_, rfl⟩
  have hA : W3.heap[w.heap.size]? = some (.cells #[.int .i64 a0, .int .i64 a1] 27 (0, 0)) := by
    rw [← hW3]
    exact (Below.heap_alloc _ _ _ (by simp; omega)).trans ((Below.heap_alloc _ _ _ (by simp)).trans (World.alloc_heap_new _ _))
  have hB : W3.heap[w.heap.size + 1]? = some (.cells #[.int .i64 b0, .int .i64 b1] 27 (0, 0)) := by
    rw [← hW3]
    have := World.alloc_heap_new (w.alloc (.cells #[.int .i64 a0, .int .i64 a1] 27)) (.cells #[.int .i64 b0, .int .i64 b1] 27)
    rw [World.size_alloc] at this
    exact (Below.heap_alloc _ _ _ (by simp)).trans this
  have hH : W3.heap[w.heap.size + 1 + 1]? = some (.cells #[.slice none 0 0, .slice none 0 0] 59 (0, 0)) := by
    rw [← hW3]
    have := World.alloc_heap_new ((w.alloc (.cells #[.int .i64 a0, .int .i64 a1] 27)).alloc (.cells #[.int .i64 b0, .int .i64 b1] 27)) (.cells #[.slice none 0 0, .slice none 0 0] 59)
    rw [World.size_alloc, World.size_alloc] at this
    exact this
  have hb3 : Below w.heap.size w W3 := by
    rw [← hW3]
    exact (((Below.refl w.heap.size w).alloc (Nat.le_refl _) _).alloc (by simp) _).alloc (by simp; omega) _
  obtain ⟨hb, hhb⟩ : ∃ hb, w.heap.size + 1 + 1 = hb := ⟨_, rfl⟩
  rw [hhb] at hH
  have hl3 : Act_ 3 (fun _ => 9) (relab (fun _ => 9) w.heap.size 3) w W3 := Act_.of (S := fun _ => False) (Only.of_below hb3) (fun k hk => hk.elim)
  have hold3 : ∀ k, k < w.heap.size → relab (fun _ => 9) w.heap.size 3 k = 9 := fun k hk => hl3.old k hk
  have hK3 : Kept W3 (relab (fun _ => 9) w.heap.size 3) 3 hb [] := ⟨held_empty W3 _ hb hH (by show relab _ _ _ hb = 3; unfold relab; rw [if_neg (by omega)]), fun c hc => by cases hc⟩
  obtain ⟨lab3, hlab3⟩ : ∃ l, relab (fun _ => 9) w.heap.size 3 = l := ⟨_, rfl⟩
  rw [hlab3] at hold3 hK3
  have ho0 := opened_o W3 lab3 0 a0 a1
  have xa0 := cell_of hA 0
  have xa1 := cell_of hA 1
  have HB := Lib.hid hB
  have HW3 := Lib.hid hb3
  have HK := Lib.hid hK3
  have HOLD := Lib.hid hold3
  have HFit := Lib.hid hfit
  have sb : (sc.length : Int) ≤ 140737488355328 := by omega
  clear hA hB hH hl3 hold3 hK3 hlab3 hb3 hfit hsm
  go_enter Try.func7, Try.ntmps7
  go_upto_region 2 with fail
  go_upto_region 3 with (go_at_call 10; refine ho0.mono ?_; clear ho0; rintro e w4 ⟨v1, v2, rfl, hb4, lab4, hO4, ha4⟩)
  have hB4 := (hb4.block _ (Array.getElem?_eq_some_iff.1 HB.out).1).trans HB.out
  have xb0 := cell_of hB4 0
  have xb1 := cell_of hB4 1
  have ho1 := opened_o w4 lab4 1 b0 b1
  have HO4 := Lib.hid hO4
  have HK4 := Lib.hid (HK.out.other ha4 (by decide))
  have HOLD4 := Lib.hid (old_act HW3.out.size HOLD.out ha4)
  have HW4 := Lib.hid (HW3.out.trans (hb4.mono HW3.out.size))
  clear xa0 xa1 hb4 hO4 ha4 hB4 hW3 HK HOLD
  go_upto_region 4 with (go_at_call 10; refine ho1.mono ?_; clear ho1; rintro e w5 ⟨u1, u2, rfl, hb5, lab5, hO5, ha5⟩)
  have ho2 := opened_yes w5 lab5 2 1 4 ⟨by decide, by decide, by decide, by decide⟩
  have HO5 := Lib.hid hO5
  have HO45 := Lib.hid (HO4.out.other ha5 (by decide))
  have HK5 := Lib.hid (HK4.out.other ha5 (by decide))
  have HOLD5 := Lib.hid (old_act HW4.out.size HOLD4.out ha5)
  have HW5 := Lib.hid (HW4.out.trans (hb5.mono HW4.out.size))
  clear xb0 xb1 hb5 hO5 ha5 HO4 HK4 HOLD4
  go_upto_region 7 with (go_at_call 10; refine ho2.mono ?_; clear ho2; rintro e w6 ⟨x, b, y, rfl, ha6, P6, hb6⟩)
  obtain ⟨lab6, hlab6⟩ : ∃ l, relab lab5 w5.heap.size 2 = l := ⟨_, rfl⟩
  rw [hlab6] at ha6 P6
  have HO6 := Lib.hid (HO5.out.other ha6 (by decide))
  have HO46 := Lib.hid (HO45.out.other ha6 (by decide))
  have HK6 := Lib.hid (HK5.out.other ha6 (by decide))
  have HOLD6 := Lib.hid (old_act HW5.out.size HOLD5.out ha6)
  have HW6 := Lib.hid (HW5.out.trans (hb6.mono HW5.out.size))
  have HP6 := Lib.hid P6
  clear hb6 ha6 P6 hlab6 HO5 HO45 HK5 HOLD5 HW5
  go_upto_if 54 with fail
  go_cut [8, 9] from 53 to 56 (fun v8 v9 wx => ∃ p q : Nat, v8 = .pointer (some ⟨p, 0, none⟩) ∧ v9 = .pointer (some ⟨q, 0, none⟩) ∧ Hid (All w wx lab6 0 p q u1 u2 hb))
  case first =>
    have hbd : Bd 0 1 ([] : Things) 0 := ⟨by decide, by decide, by decide⟩
    have w1 : Win1 w6 lab6 0 u1 u2 := by
      rcases HO6.out with h | ⟨p, b, q, sz, nx, h1, h2, P, h3⟩
      · exact .inl h
      · exact .inr ⟨p, b, q, nx, sz, [], 0, h1, h2, P, h3⟩
    rcases HO46.out with ⟨h1, h2⟩ | ⟨p, b', q, sz, nx, h1, h2, P, h3⟩
    · subst h1 h2
      have HR : Hid (All w w6 lab6 0 x y u1 u2 hb) := Lib.hid ⟨HW6.out, HOLD6.out, ⟨b, 2, 1, 4, [], 0, .inr rfl, HP6.out, hbd⟩, w1, [], HK6.out, Nat.le_refl _⟩
      clear hbd w1
      go_wp2_with fail
      go_meet
      exact ⟨x, y, rfl, rfl, HR⟩
    · subst h1 h2
      have HR : Hid (All w w6 lab6 0 p q u1 u2 hb) := Lib.hid ⟨HW6.out, HOLD6.out, ⟨b', 0, nx, sz, [], 0, .inl rfl, P, h3⟩, w1, [], HK6.out, Nat.le_refl _⟩
      clear hbd w1 P h3
      go_wp2_with fail
      go_meet
      exact ⟨p, q, rfl, rfl, HR⟩
  case rest =>
    obtain ⟨p, q, rfl, rfl, HR⟩ := hcut
    clear HO6 HO46 HK6 HOLD6 HW6 HP6
    go_wp2
    go_loopw [17, 18] (fun v17 v18 wr => ∃ i : Nat, i ≤ sc.length ∧ i ≤ 100 ∧ v17 = .int .i64 (i : Int) ∧ ∃ lab, Hid (All w wr lab i p q u1 u2 hb)) (fun v17 _ _ => 100 - (intOf v17).toNat)
    case atStart => exact ⟨0, by omega, by omega, rfl, _, HR⟩
    case round =>
      obtain ⟨i, hi, hi2, rfl, lab, HA⟩ := hrel
      have ib : (i : Int) ≤ 100 := by omega
      clear HR
      have htail : i ≤ 100 → ((i : Int) < (sc.length : Int) → ¬ (i : Int) < 100) → True := fun _ _ => trivial
      by_cases h1 : i < sc.length
      · have d1 : decide (i < sc.length) = true := decide_eq_true h1
        have d1' : decide ((i : Int) < (sc.length : Int)) = true := decide_eq_true (by omega)
        by_cases h2 : i < 100
        · have d2 : decide ((i : Int) < 100) = true := decide_eq_true (by omega)
          obtain ⟨ad, hAd, x0, x1, x2, x3⟩ := atStep (Kd.C_below hSc HA.out.bel) h1
          have hfi := HFit.out _ (List.getElem_mem h1)
          subst hAd
          have p0 : (0 ≤ (i : Int)) = True := eq_true (by omega)
          have p1 : ((i : Int) < (sc.length : Int)) = True := eq_true (by omega)
          obtain ⟨⟨k0, k1, k2, k3⟩, hkk⟩ : ∃ x, sc[i] = x := ⟨_, rfl⟩
          rw [hkk] at x0 x1 x2 x3 hfi
          dsimp only at x0 x1 x2 x3 hfi
          have HFI := Lib.hid hfi
          have H1 := Lib.hid h1
          have H2 := Lib.hid h2
          have H99 : Hid (i ≤ 99) := Lib.hid (by omega)
          have H102 : Hid (i + 1 ≤ 102) := Lib.hid (by omega)
          have hp0 := plays0 HA.out H99.out k0 k1 k2 k3 HFI.out
          have hp1 := fun W lab (h : All w W lab (i + 1) p q u1 u2 hb) => hold_all h H102.out
          have H102' : Hid (i ≤ 102) := Lib.hid (by omega)
          clear hkk hfi h1 h2 hi hi2 htail
          have hm1 := Int.tmod_lt_of_pos k1 (b := 2) (by omega)
          have hm2 := Int.lt_tmod_of_pos k1 (b := 2) (by omega)
          by_cases hev : k1.tmod 2 = 0
          · have v2 : wrap64 (k1.tmod 2) = 0 := by rw [hev]; exact IntWalk.wrap64_in _ ⟨by omega, by omega⟩
            have v3 : IntKind.i64.wrap (k1.tmod 2) = 0 := (IntWalk.i64_left _).trans v2
            have d0 : (k1.tmod 2 == 0) = true := beq_iff_eq.2 hev
            have d0' : decide (k1.tmod 2 = 0) = true := decide_eq_true hev
            clear hm1 hm2
            go_wp2_with (first
              | (go_at_call 26; refine hp0.mono ?_; clear hp0; clear x0 x1 x2 x3; rintro e w7 ⟨rfl, lab7, hA7⟩; have HA7 := Lib.hid hA7; clear hA7)
              | (go_at_call 27; refine (hp1 _ _ HA7.out).mono ?_; rintro e w8 ⟨rfl, lab8, hA8⟩; have HA8 := Lib.hid hA8; clear hA8))
            go_roundw
            case rel => exact ⟨i + 1, H1.out, H2.out, by go_num, lab8, HA8⟩
            case measure => have := H2.out; simp [intOf]; omega
          · have v2 : wrap64 (k1.tmod 2) = k1.tmod 2 := IntWalk.wrap64_in _ ⟨by omega, by omega⟩
            have v3 : IntKind.i64.wrap (k1.tmod 2) = k1.tmod 2 := (IntWalk.i64_left _).trans v2
            have d0 : (k1.tmod 2 == 0) = false := beq_eq_false_iff_ne.2 hev
            have d0' : decide (k1.tmod 2 = 0) = false := decide_eq_false hev
            clear hm1 hm2 hev
            rcases HA.out.w1 with ⟨e1, e2⟩ | ⟨pp, bb, qq, nxx, szz, hss, nn, e1, e2, _, _⟩
            · subst e1 e2
              go_wp2_with (first
                | (go_at_call 27; refine (hold_all HA.out H102'.out).mono ?_; rintro e w8 ⟨rfl, lab8, hA8⟩; have HA8 := Lib.hid (hA8.mono (Nat.le_succ i)); clear hA8))
              go_roundw
              case rel => exact ⟨i + 1, H1.out, H2.out, by go_num, lab8, HA8⟩
              case measure => have := H2.out; simp [intOf]; omega
            · subst e1 e2
              go_wp2_with (first
                | (go_at_call 26; refine (plays1 HA.out H99.out k0 k1 k2 k3 HFI.out).mono ?_; clear x0 x1 x2 x3; rintro e w7 ⟨rfl, lab7, hA7⟩; have HA7 := Lib.hid hA7; clear hA7)
                | (go_at_call 27; refine (hp1 _ _ HA7.out).mono ?_; rintro e w8 ⟨rfl, lab8, hA8⟩; have HA8 := Lib.hid hA8; clear hA8))
              go_roundw
              case rel => exact ⟨i + 1, H1.out, H2.out, by go_num, lab8, HA8⟩
              case measure => have := H2.out; simp [intOf]; omega
        · have d2 : decide ((i : Int) < 100) = false := decide_eq_false (by omega)
          have HI := Lib.hid hi2
          clear hi hi2 h1 h2 htail
          rcases HA.out.w1 with ⟨e1, e2⟩ | ⟨pp, bb, qq, nxx, szz, hss, nn, e1, e2, _, _⟩
          · subst e1 e2
            go_wp2_with (first
              | (go_at_call 28; refine (told0 HA.out (by have := HI.out; omega)).mono ?_; rintro e w6 ⟨rfl, lab6, hA6⟩; have HA6 := Lib.hid hA6; clear hA6)
              | (go_at_call 27; refine (hold_all HA6.out (by have := HI.out; omega)).mono ?_; rintro e w7 ⟨rfl, lab7, hA7⟩; have HA7 := Lib.hid hA7; clear hA7))
            go_ret
            exact ⟨rfl, HA7.out.bel⟩
          · subst e1 e2
            go_wp2_with (first
              | (go_at_call 28; refine (told0 HA5.out (by have := HI.out; omega)).mono ?_; rintro e w6 ⟨rfl, lab6, hA6⟩; have HA6 := Lib.hid hA6; clear hA6 HA5)
              | (go_at_call 28; refine (told1 HA.out (by have := HI.out; omega)).mono ?_; rintro e w5 ⟨rfl, lab5, hA5⟩; have HA5 := Lib.hid hA5; clear hA5)
              | (go_at_call 27; refine (hold_all HA6.out (by have := HI.out; omega)).mono ?_; rintro e w7 ⟨rfl, lab7, hA7⟩; have HA7 := Lib.hid hA7; clear hA7))
            go_ret
            exact ⟨rfl, HA7.out.bel⟩
      · have d1 : decide (i < sc.length) = false := decide_eq_false h1
        have d1' : decide ((i : Int) < (sc.length : Int)) = false := decide_eq_false (by omega)
        have HI := Lib.hid hi2
        clear hi hi2 h1 htail
        rcases HA.out.w1 with ⟨e1, e2⟩ | ⟨pp, bb, qq, nxx, szz, hss, nn, e1, e2, _, _⟩
        · subst e1 e2
          go_wp2_with (first
              | (go_at_call 28; refine (told0 HA.out (by have := HI.out; omega)).mono ?_; rintro e w6 ⟨rfl, lab6, hA6⟩; have HA6 := Lib.hid hA6; clear hA6)
              | (go_at_call 27; refine (hold_all HA6.out (by have := HI.out; omega)).mono ?_; rintro e w7 ⟨rfl, lab7, hA7⟩; have HA7 := Lib.hid hA7; clear hA7))
          go_ret
          exact ⟨rfl, HA7.out.bel⟩
        · subst e1 e2
          go_wp2_with (first
              | (go_at_call 28; refine (told0 HA5.out (by have := HI.out; omega)).mono ?_; rintro e w6 ⟨rfl, lab6, hA6⟩; have HA6 := Lib.hid hA6; clear hA6 HA5)
              | (go_at_call 28; refine (told1 HA.out (by have := HI.out; omega)).mono ?_; rintro e w5 ⟨rfl, lab5, hA5⟩; have HA5 := Lib.hid hA5; clear hA5)
              | (go_at_call 27; refine (hold_all HA6.out (by have := HI.out; omega)).mono ?_; rintro e w7 ⟨rfl, lab7, hA7⟩; have HA7 := Lib.hid hA7; clear hA7))
          go_ret
          exact ⟨rfl, HA7.out.bel⟩
end Go.Proofs.YtmfabpkliogjlaaWin
end
section
namespace Go.Proofs.YtmfabpkliogjlaaWin
set_option linter.unusedVariables false
open Go.RowKit Go.Proofs.YtmfabpkliogjlaaR Go.Proofs.YtmfabpkliogjlaaW.PrintWords
abbrev WfStep (x : SStep) : Prop := (Lit.int .i64 x.2.2.1).wf = true
theorem reads55 : Reads Try.prog 55 (Kd.slice 61 kStep) (fun l => l.length * 32 ≤ 140737488351232 ∧ ∀ x ∈ l, WfStep x) := reads_slice (B := 32) Try.underlying55 (by kernel_rfl) (by kernel_rfl) readsStep
abbrev WfSteps (l : List SStep) : Prop := l.length * 32 ≤ 140737488351232 ∧ ∀ x ∈ l, WfStep x
theorem Exact_pure (_ _ : Int × Int) (l : List SStep) (hq : WfSteps l) : ∃ k : Nat, (l.length ≤ k ∧ k ≤ 140737488351232) ∧ ∀ x ∈ l, WfStep x := ⟨l.length, ⟨Nat.le_refl _, by have := hq.1; omega⟩, hq.2⟩
theorem Exact.calls (kk : Nat) (a0 a1 b0 b1 : Int) (A : Option Addr) (c : Nat) (l : List SStep) (_ : Bool) (W : World) (hC : Kd.C kStep W A l.length l) (hcap : l.length ≤ c) (hk : (l.length ≤ kk ∧ kk ≤ 140737488351232) ∧ ∀ x ∈ l, WfStep x) : Calls Try.prog 7 #[.agg #[.int .i64 a0, .int .i64 a1], .agg #[.int .i64 b0, .int .i64 b1], .slice A l.length c] W fun e w' => e = .returned (.bool true) ∧ Below W.heap.size W w' :=
  exact_calls hC (by have := hk.1.1; have := hk.1.2; omega) (fun x hx => hk.2 x hx)
end Go.Proofs.YtmfabpkliogjlaaWin
end
