/- WindowBounds, for every input: the law answers true and its arguments read as before; no condition. -/
import Derived.Maps.OwnSet
import Derived.Below
import Derived.WalkKit
import Derived.KernelRfl
import Derived.Test.YtmfabpkliogjlaaProg
import Derived.Tactics
import Derived.IntWalk
import Derived.RangeFuncBox
import Derived.Deep.RegionWith
import Derived.Shelf.SlIterI.Nil
import Derived.Shelf.SortM.Plain
import Derived.Shelf.SortM.SortNone
import Derived.Shelf.SlGeneric
import Derived.Ground.GgzProg
import Derived.Ground.SlgmProg
section
namespace Go.Proofs.YtmfabpkliogjlaaWin
open Go.RowKit Go.Maps
structure ElemK (α : Type) where
  R : Value → Option (DataW Unit × List MemPlace)
  val : α → Value
  dat : α → DataW Unit
  put : ∀ a, R (val a) = some (dat a, [])
  inv : ∀ {v a ps}, R v = some (dat a, ps) → v = val a
structure Only (K : Nat → Prop) (W W' : World) : Prop where
  os : W'.os = W.os
  tape : W'.tape = W.tape
  output : W'.output = W.output
  size : W.heap.size ≤ W'.heap.size
  block : ∀ k, k < W.heap.size → ¬ K k → W'.heap[k]? = W.heap[k]?
theorem Only.refl (K : Nat → Prop) (W : World) : Only K W W := ⟨rfl, rfl, rfl, Nat.le_refl _, fun _ _ _ => rfl⟩
theorem Only.trans {K : Nat → Prop} {A B C : World} (h : Only K A B) (k : Only K B C) : Only K A C :=
  ⟨k.os.trans h.os, k.tape.trans h.tape, k.output.trans h.output, Nat.le_trans h.size k.size, fun i hi hn => (k.block i (Nat.lt_of_lt_of_le hi h.size) hn).trans (h.block i hi hn)⟩
theorem Only.mono {K K' : Nat → Prop} {A B : World} (h : Only K A B) (hk : ∀ i, K i → K' i) : Only K' A B := ⟨h.os, h.tape, h.output, h.size, fun i hi hn => h.block i hi (fun hki => hn (hk i hki))⟩
theorem Only.below {K : Nat → Prop} {A B : World} (h : Only K A B) {n : Nat} (hn : n ≤ A.heap.size) (hk : ∀ i, K i → n ≤ i) : Below n A B :=
  ⟨h.os, h.tape, h.output, h.size, fun i hi => h.block i (Nat.lt_of_lt_of_le hi hn) (fun hki => by have := hk i hki; omega)⟩
theorem Only.of_below {K : Nat → Prop} {A B : World} (h : Below A.heap.size A B) : Only K A B := ⟨h.os, h.tape, h.output, h.size, fun i hi _ => h.block i hi⟩
theorem Only.alloc (K : Nat → Prop) (W : World) (o : Obj) : Only K W (W.alloc o) := Only.of_below ((Below.refl _ W).alloc (Nat.le_refl _) o)
theorem Only.drew {K : Nat → Prop} {A B : World} (h : Only K A B) : Only K A B.drew := ⟨h.os, h.tape, h.output, h.size, h.block⟩
theorem Only.turned {K : Nat → Prop} {A B : World} {b : Nat} (h : A.mapTurned B b) (hk : K b) : Only K A B := by
  obtain ⟨es, clock, es', clock', hb, rfl⟩ := h
  exact ⟨rfl, rfl, rfl, by simp [ChangeMaps.setBlock], fun i _ hn => ChangeMaps.heap_setBlock_other hb _ (fun e => hn (e ▸ hk))⟩
section
variable {α : Type} {P : Program}
def MapIs (P : Program) (E : ElemK α) (W : World) (b : Nat) (m : Int → Option α) (n : Nat) : Prop :=
  ∃ D : DataW Unit, W.ownsMap P 3 E.R b n D ∧ ∀ x, (Lit.int .i64 x).wf = true → match m x with
    | some a => ∀ z, D.atKey (.int .i64 x) z = E.dat a
    | none => ∀ z, D.atKey (.int .i64 x) z = z
variable {E : ElemK α} {W W' : World} {b n : Nat} {m : Int → Option α}
theorem MapIs.mono (h : MapIs P E W b m n) {n' : Nat} (hn : n ≤ n') : MapIs P E W b m n' := by
  obtain ⟨D, h1, h2⟩ := h
  exact ⟨D, h1.mono hn, h2⟩
theorem MapIs.lt (h : MapIs P E W b m n) : b < W.heap.size := by
  obtain ⟨D, h1, _⟩ := h
  exact h1.lt
theorem MapIs.block (h : MapIs P E W b m n) (hb : W'.heap[b]? = W.heap[b]?) : MapIs P E W' b m n := by
  obtain ⟨D, ⟨es, clock, h0, h1⟩, h2⟩ := h
  exact ⟨D, ⟨es, clock, hb.trans h0, h1⟩, h2⟩
theorem MapIs.isMap (h : MapIs P E W b m n) : ∃ es clock, W.heap[b]? = some (.map es clock) := by
  obtain ⟨D, ⟨es, clock, h0, _⟩, _⟩ := h
  exact ⟨es, clock, h0⟩
theorem MapIs.made (W : World) : MapIs P E (W.alloc (.map #[] 0)) W.heap.size (fun _ => none) 0 :=
  ⟨_, World.ownsMap_made W P 3 E.R, fun _ _ => fun _ => rfl⟩
theorem litKey (x : Int) : WideAt.IsKeyLit (.int .i64 x) := trivial
theorem litNe {x y : Int} (h : x ≠ y) : (Lit.int .i64 x) ≠ Lit.int .i64 y := fun e => h (by cases e; rfl)
variable {t e : TypeId} (K : Keyed P 3) (h3 : P.underlying 3 = some (.int .i64)) (ht : P.underlying t = some (.map 3 e))
theorem MapIs.look (h : MapIs P E W b m n) (h3 : P.underlying 3 = some (.int .i64)) (ht : P.underlying t = some (.map 3 e)) {z : α} (hz : (zeroValue e).run P W = .ok (E.val z) W) {x : Int} (hx : (Lit.int .i64 x).wf = true) :
    (Instr.lookup t (.map (some b)) (.int .i64 x) true).run P W = .ok (.tuple #[E.val ((m x).getD z), .bool (m x).isSome]) W := by
  obtain ⟨D, h1, h2⟩ := h
  obtain ⟨v, ps, hrun, hv⟩ := h1.look_ok (int_keyed h3) ht hz (E.put z) (keyOf_int_mk h3 hx)
  have h2 := h2 x hx
  rw [hrun]
  cases hm : m x with
  | none =>
    rw [hm] at h2
    simp only at h2
    rw [h2] at hv
    rw [E.inv hv, has_false_of_atKey h2]
    rfl
  | some a =>
    rw [hm] at h2
    simp only at h2
    rw [h2] at hv
    rw [E.inv hv, has_true_of_atKey h2]
    rfl
theorem MapIs.store (h : MapIs P E W b m n) (h3 : P.underlying 3 = some (.int .i64)) (ht : P.underlying t = some (.map 3 e)) (hn : n < maxLen) {x : Int} (hx : (Lit.int .i64 x).wf = true) (a : α) :
    ∃ W', (Instr.mapUpdate t (.map (some b)) (.int .i64 x) (E.val a)).run P W = .ok () W' ∧ MapIs P E W' b (fun y => if y = x then some a else m y) (n + 1) ∧ W.mapTurned W' b := by
  obtain ⟨D, h1, h2⟩ := h
  have hD := h1.isMap
  obtain ⟨W', hrun, hown, hturn⟩ := h1.store (int_keyed h3) ht hn (keyOf_int_mk h3 hx) (E.put a)
  refine ⟨W', hrun, ⟨_, hown, fun y hy => ?_⟩, hturn⟩
  by_cases c : y = x
  · subst c
    simp only [if_true]
    exact fun z => atKey_put_same hD (litKey _) _ _
  · simp only [if_neg c]
    have := h2 y hy
    cases hm : m y with
    | none => rw [hm] at this; exact fun z => (atKey_put_other (litNe c) _ _).trans (this z)
    | some a' => rw [hm] at this; exact fun z => (atKey_put_other (litNe c) _ _).trans (this z)
end
end Go.Proofs.YtmfabpkliogjlaaWin
end
section
namespace Go.Proofs.YtmfabpkliogjlaaWin
open Go.RowKit Go.Maps
set_option linter.unusedSimpArgs false
set_option linter.unusedVariables false
def EI : ElemK Int where
  R v := match v with
    | .agg cs => match cs.toList with
      | [.int .i64 a] => some (.lit (.int .i64 a), [])
      | _ => none
    | _ => none
  val a := .agg #[.int .i64 a]
  dat a := .lit (.int .i64 a)
  put a := rfl
  inv {v a ps} h := by
    cases v <;> simp at h
    rename_i cs
    cases cs with | mk l =>
    split at h
    · rename_i h'
      simp at h h'
      subst h'
      rw [h.1]
    · cases h
def WinAt (W : World) (p b : Nat) (nx sz : Int) (m : Int → Option Int) (n : Nat) : Prop :=
  W.heap[p]? = some (.cells #[.int .i64 nx, .int .i64 sz, .map (some b)] 73 (0, 0)) ∧ MapIs Try.prog EI W b m n
section
variable {W W' : World} {p b : Nat} {nx sz : Int} {m : Int → Option Int} {n : Nat}
theorem WinAt.c0 (h : WinAt W p b nx sz m n) : W.cell? ⟨p, 0, none⟩ = some (.int .i64 nx) := by simp [World.cell?, h.1]
theorem WinAt.c1 (h : WinAt W p b nx sz m n) : W.cell? ⟨p, 1, none⟩ = some (.int .i64 sz) := by simp [World.cell?, h.1]
theorem WinAt.c2 (h : WinAt W p b nx sz m n) : W.cell? ⟨p, 2, none⟩ = some (.map (some b)) := by simp [World.cell?, h.1]
theorem WinAt.lt (h : WinAt W p b nx sz m n) : p < W.heap.size := (Array.getElem?_eq_some_iff.1 h.1).1
theorem WinAt.ne (h : WinAt W p b nx sz m n) : p ≠ b := by
  rintro rfl
  obtain ⟨es, clock, he⟩ := h.2.isMap
  rw [h.1] at he
  cases he
theorem WinAt.only {K : Nat → Prop} (h : WinAt W p b nx sz m n) (hk : Only K W W') (h1 : ¬ K p) (h2 : ¬ K b) : WinAt W' p b nx sz m n :=
  ⟨(hk.block p h.lt h1).trans h.1, h.2.block (hk.block b h.2.lt h2)⟩
theorem WinAt.below (h : WinAt W p b nx sz m n) (hk : Below W.heap.size W W') : WinAt W' p b nx sz m n := h.only (K := fun _ => False) (Only.of_below hk) (fun h => h) (fun h => h)
theorem WinAt.mono (h : WinAt W p b nx sz m n) {n' : Nat} (hn : n ≤ n') : WinAt W p b nx sz m n' := ⟨h.1, h.2.mono hn⟩
theorem WinAt.turn {m' : Int → Option Int} {n' : Nat} (h : WinAt W p b nx sz m n) (ht : W.mapTurned W' b) (hm : MapIs Try.prog EI W' b m' n') : WinAt W' p b nx sz m' n' :=
  ⟨((Only.turned (K := fun k => k = b) ht rfl).block p h.lt h.ne).trans h.1, hm⟩
end
abbrev Fits (x : Int) : Prop := (Lit.int .i64 x).wf = true
theorem wf64 {x : Int} (h : Fits x) : -9223372036854775808 ≤ x ∧ x ≤ 9223372036854775807 := by
  have h' : (Lit.int .i64 x).wf = true := h
  simp [Lit.wf, IntKind.min, IntKind.max, IntKind.signed, IntKind.bits] at h'
  omega
set_option maxRecDepth 100000 in
set_option maxHeartbeats 4000000 in
theorem New_calls (nx sz : Int) (w : World) : Calls Try.prog 12 #[.int .i64 nx, .int .i64 sz] w fun e w' =>
    if nx < 0 ∨ nx > 1048576 ∨ sz < 1 ∨ sz > 1048576 then e = .returned (.tuple #[.pointer none, .int .i64 2]) ∧ Below w.heap.size w w'
    else e = .returned (.tuple #[.pointer (some ⟨w.heap.size + 1, 0, none⟩), .int .i64 0]) ∧ WinAt w' (w.heap.size + 1) w.heap.size nx sz (fun _ => none) 0 ∧ Below w.heap.size w w' := by
  have hmm := @run_makeMap Try.prog
  by_cases c1 : nx < 0
  · simp only [if_pos (Or.inl c1 : nx < 0 ∨ nx > 1048576 ∨ sz < 1 ∨ sz > 1048576)]
    go_enter Try.func12, Try.ntmps12
    go_wp2
    go_ret2
    exact ⟨rfl, Below.refl _ _⟩
  by_cases c2 : nx > 1048576
  · simp only [if_pos (Or.inr (Or.inl c2) : nx < 0 ∨ nx > 1048576 ∨ sz < 1 ∨ sz > 1048576)]
    go_enter Try.func12, Try.ntmps12
    go_wp2
    go_ret2
    exact ⟨rfl, Below.refl _ _⟩
  by_cases c3 : sz < 1
  · simp only [if_pos (Or.inr (Or.inr (Or.inl c3)) : nx < 0 ∨ nx > 1048576 ∨ sz < 1 ∨ sz > 1048576)]
    go_enter Try.func12, Try.ntmps12
    go_wp2
    go_ret2
    exact ⟨rfl, Below.refl _ _⟩
  by_cases c4 : sz > 1048576
  · simp only [if_pos (Or.inr (Or.inr (Or.inr c4)) : nx < 0 ∨ nx > 1048576 ∨ sz < 1 ∨ sz > 1048576)]
    go_enter Try.func12, Try.ntmps12
    go_wp2
    go_ret2
    exact ⟨rfl, Below.refl _ _⟩
  simp only [if_neg (fun h => by omega : ¬ (nx < 0 ∨ nx > 1048576 ∨ sz < 1 ∨ sz > 1048576))]
  have hM := MapIs.made (P := Try.prog) (E := EI) w
  have hb := ((Below.refl w.heap.size w).alloc (Nat.le_refl _) (.map #[] 0)).alloc (by simp) (.cells #[.int .i64 nx, .int .i64 sz, .map (some w.heap.size)] 73)
  have h1 := World.alloc_heap_new (w.alloc (.map #[] 0)) (.cells #[.int .i64 nx, .int .i64 sz, .map (some w.heap.size)] 73)
  rw [World.size_alloc] at h1
  go_enter Try.func12, Try.ntmps12
  go_wp2
  go_ret2
  exact ⟨rfl, ⟨h1, hM.block (Below.heap_alloc _ _ _ (by simp))⟩, hb⟩
theorem look_some {W : World} {p b n : Nat} {nx sz : Int} {m : Int → Option Int} (h : WinAt W p b nx sz m n) {x a : Int} (hf : Fits x) (hm : m x = some a) :
    (Instr.lookup 71 (.map (some b)) (.int .i64 x) true).run Try.prog W = .ok (.tuple #[.agg #[.int .i64 a], .bool true]) W := by
  have := h.2.look Try.underlying3 Try.underlying71 (z := (0 : Int)) (Try.zeroValue75 W) hf
  rw [hm] at this
  exact this
theorem look_none {W : World} {p b n : Nat} {nx sz : Int} {m : Int → Option Int} (h : WinAt W p b nx sz m n) {x : Int} (hf : Fits x) (hm : m x = none) :
    (Instr.lookup 71 (.map (some b)) (.int .i64 x) true).run Try.prog W = .ok (.tuple #[.agg #[.int .i64 0], .bool false]) W := by
  have := h.2.look Try.underlying3 Try.underlying71 (z := (0 : Int)) (Try.zeroValue75 W) hf
  rw [hm] at this
  exact this
set_option maxRecDepth 100000 in
set_option maxHeartbeats 4000000 in
theorem Peek_calls {p b n : Nat} {nx sz : Int} {m : Int → Option Int} (w : World) (h : WinAt w p b nx sz m n) (hf : Fits nx) : Calls Try.prog 17 #[.pointer (some ⟨p, 0, none⟩)] w fun e w' =>
    e = .returned (.tuple #[.int .i64 ((m nx).getD 0), .int .i64 (if (m nx).isSome then 0 else 15)]) ∧ Only (fun _ => False) w w' := by
  have c0 := h.c0
  have c2 := h.c2
  cases hm : m nx with
  | none =>
    have h2 : WinAt (w.alloc (.cells #[.int .i64 0] 75)).drew p b nx sz m n := h.below (((Below.refl _ w).alloc (Nat.le_refl _) _).drew)
    have h3 : WinAt w.drew p b nx sz m n := h.below (Below.refl _ w).drew
    have d0 := h2.c0
    have d2 := h2.c2
    have e0 := h3.c0
    have e2 := h3.c2
    have hl := look_none h hf hm
    have hl2 := look_none h2 hf hm
    have hl3 := look_none h3 hf hm
    clear h h2 h3 hf hm
    simp only [Option.isSome_none, Option.isSome_some, Bool.false_eq_true, if_false, if_true, Option.getD_none, Option.getD_some]
    go_enter Try.func17, Try.ntmps17
    go_wp2
    go_region
    all_goals go_wp2
    all_goals go_ret2
    all_goals exact ⟨rfl, (Only.alloc _ _ _).drew⟩
  | some a =>
    have h2 : WinAt (w.alloc (.cells #[.int .i64 0] 75)).drew p b nx sz m n := h.below (((Below.refl _ w).alloc (Nat.le_refl _) _).drew)
    have h3 : WinAt w.drew p b nx sz m n := h.below (Below.refl _ w).drew
    have d0 := h2.c0
    have d2 := h2.c2
    have e0 := h3.c0
    have e2 := h3.c2
    have hl := look_some h hf hm
    have hl2 := look_some h2 hf hm
    have hl3 := look_some h3 hf hm
    clear h h2 h3 hf hm
    simp only [Option.isSome_none, Option.isSome_some, Bool.false_eq_true, if_false, if_true, Option.getD_none, Option.getD_some]
    go_enter Try.func17, Try.ntmps17
    go_wp2
    go_region
    all_goals go_wp2
    all_goals go_ret2
    all_goals exact ⟨rfl, (Only.alloc _ _ _).drew⟩
def putE (nx sz : Int) (m : Int → Option Int) (x : Int) : Int := if x < nx then 130 else if x - nx ≥ sz then 132 else if (m x).isSome then 131 else 0
set_option maxRecDepth 100000 in
set_option maxHeartbeats 4000000 in
theorem Put_calls {p b n : Nat} {nx sz : Int} {m : Int → Option Int} (w : World) (h : WinAt w p b nx sz m n) (hn0 : 0 ≤ nx) (hn : n < maxLen) (x v : Int) (hf : Fits x) : Calls Try.prog 13 #[.pointer (some ⟨p, 0, none⟩), .int .i64 x, .int .i64 v] w fun e w' =>
    e = .returned (.int .i64 (putE nx sz m x)) ∧ WinAt w' p b nx sz (if putE nx sz m x = 0 then fun y => if y = x then some v else m y else m) (n + 1) ∧ Only (fun k => k = b) w w' := by
  have c0 := h.c0
  have c1 := h.c1
  have c2 := h.c2
  unfold putE
  by_cases q1 : x < nx
  · simp only [if_pos q1, show ¬ ((130 : Int) = 0) from by decide, if_false]
    go_enter Try.func13, Try.ntmps13
    go_wp2
    go_ret
    exact ⟨rfl, h.mono (Nat.le_succ _), Only.refl _ _⟩
  simp only [if_neg q1]
  have hx := wf64 hf
  have hw : wrap64 (x - nx) = x - nx := IntWalk.wrap64_in _ ⟨by omega, by omega⟩
  have h3 : WinAt w.drew p b nx sz m n := h.below (Below.refl _ w).drew
  have e0 := h3.c0
  have e1 := h3.c1
  have e2 := h3.c2
  by_cases q2 : x - nx ≥ sz
  · simp only [if_pos q2, show ¬ ((132 : Int) = 0) from by decide, if_false]
    go_enter Try.func13, Try.ntmps13
    go_wp2
    go_region
    all_goals go_wp2
    all_goals go_ret
    all_goals exact ⟨rfl, h3.mono (Nat.le_succ _), (Only.refl _ _).drew⟩
  simp only [if_neg q2]
  cases hm : m x with
  | some a =>
    have hl := look_some h3 hf hm
    simp only [Option.isSome_some, if_true, show ¬ ((131 : Int) = 0) from by decide, if_false]
    go_enter Try.func13, Try.ntmps13
    go_wp2
    go_region
    all_goals go_wp2
    all_goals go_ret
    all_goals exact ⟨rfl, (h.below ((Below.refl _ w).alloc (Nat.le_refl _) _).drew).mono (Nat.le_succ _), (Only.alloc _ _ _).drew⟩
  | none =>
    have hl := look_none h3 hf hm
    have h2 := h.below ((Below.refl _ w).alloc (Nat.le_refl _) (.cells #[.int .i64 0] 75)).drew
    have d2 := h2.c2
    obtain ⟨W', hrun, hM, ht⟩ := h2.2.store Try.underlying3 Try.underlying71 hn hf v
    rw [show EI.val v = .agg #[.int .i64 v] from rfl] at hrun
    simp only [Option.isSome_none, Bool.false_eq_true, if_false, if_true]
    go_enter Try.func13, Try.ntmps13
    go_wp2
    go_region
    all_goals go_wp2
    all_goals go_ret
    all_goals exact ⟨rfl, h2.turn ht hM, (Only.alloc _ _ _).drew.trans (Only.turned ht rfl)⟩
end Go.Proofs.YtmfabpkliogjlaaWin
end
section
namespace Go.Proofs.YtmfabpkliogjlaaWin
open Go.RowKit Go.Maps Go.Shelf
set_option linter.unusedSimpArgs false
set_option linter.unusedVariables false
theorem fits_of {x : Int} (h : -9223372036854775808 ≤ x ∧ x ≤ 9223372036854775807) : Fits x := by
  show (Lit.int .i64 x).wf = true
  simp [Lit.wf, IntKind.min, IntKind.max, IntKind.signed, IntKind.bits]
  omega
end Go.Proofs.YtmfabpkliogjlaaWin
end
section
namespace Go.Proofs.YtmfabpkliogjlaaWin
open Go.RowKit Go.Maps Go.Shelf
set_option linter.unusedSimpArgs false
set_option linter.unusedVariables false
attribute [local go_sem] Oper.semAt_some
theorem eqlFunc (W : World) (f : Nat) (bl : Array Value) : (binOp .eql 38 (.func (.func f) #[] bl) .nilFunc).run Try.prog W = .ok (.bool false) W := by
  unfold binOp Op.equal
  obtain ⟨d, hd⟩ : ∃ d, Op.maxDepth = d + 1 := ⟨9999, rfl⟩
  rw [hd]
  simp [Op.equalIn, run_underlying Try.underlying38, go_sem]
attribute [local go_sem] eqlFunc
theorem run_store_func {P : Program} {w : World} (a : Addr) (m : Mode) (f : Fn) {x1 : _} {x2 : _} : (store a (.func f x1 x2) m).run P w = stored P w a (.func f x1 x2) m := run_store P w a _ m rfl
attribute [local go_sem] run_store_func
set_option maxRecDepth 100000 in
set_option maxHeartbeats 4000000 in
theorem Next_exact {p b n : Nat} {nx sz : Int} {m : Int → Option Int} (w : World) (h : WinAt w p b nx sz m n) : Calls Try.prog 15 #[.pointer (some ⟨p, 0, none⟩)] w fun e w' => e = .returned (.int .i64 nx) ∧ w' = w := by
  have c0 := h.c0
  go_enter Try.func15, Try.ntmps15
  go_wp2
  go_ret
  exact ⟨rfl, rfl⟩
theorem New_good {nx sz : Int} (h : 0 ≤ nx ∧ nx ≤ 1048576 ∧ 1 ≤ sz ∧ sz ≤ 1048576) (w : World) : Calls Try.prog 12 #[.int .i64 nx, .int .i64 sz] w fun e w' =>
    ∃ p b, e = .returned (.tuple #[.pointer (some ⟨p, 0, none⟩), .int .i64 0]) ∧ w.heap.size ≤ p ∧ w.heap.size ≤ b ∧ WinAt w' p b nx sz (fun _ => none) 0 ∧ Below w.heap.size w w' := by
  refine (New_calls nx sz w).mono ?_
  intro e w' hh
  rw [if_neg (by omega)] at hh
  exact ⟨_, _, hh.1, Nat.le_succ _, Nat.le_refl _, hh.2⟩
theorem Put_old {p b n : Nat} {nx sz : Int} {m : Int → Option Int} (w : World) (h : WinAt w p b nx sz m n) (hn0 : 0 ≤ nx) (hn : n < maxLen) (x v : Int) (hf : Fits x) (hlt : x < nx) : Calls Try.prog 13 #[.pointer (some ⟨p, 0, none⟩), .int .i64 x, .int .i64 v] w fun e w' =>
    e = .returned (.int .i64 130) ∧ WinAt w' p b nx sz m (n + 1) ∧ Only (fun k => k = b) w w' := by
  refine (Put_calls w h hn0 hn x v hf).mono ?_
  rintro e w' ⟨rfl, h1, h2⟩
  rw [show putE nx sz m x = 130 from by unfold putE; rw [if_pos hlt]] at h1 ⊢
  exact ⟨rfl, h1, h2⟩
theorem Put_new {p b n : Nat} {nx sz : Int} {m : Int → Option Int} (w : World) (h : WinAt w p b nx sz m n) (hn0 : 0 ≤ nx) (hn : n < maxLen) (x v : Int) (hf : Fits x) (h1 : nx ≤ x) (h2 : x - nx < sz) (h3 : m x = none) : Calls Try.prog 13 #[.pointer (some ⟨p, 0, none⟩), .int .i64 x, .int .i64 v] w fun e w' =>
    e = .returned (.int .i64 0) ∧ WinAt w' p b nx sz (fun y => if y = x then some v else m y) (n + 1) ∧ Only (fun k => k = b) w w' := by
  refine (Put_calls w h hn0 hn x v hf).mono ?_
  have e0 : putE nx sz m x = 0 := by unfold putE; rw [if_neg (by omega), if_neg (by omega), h3]; rfl
  rintro e w' ⟨rfl, h1, h2⟩
  rw [e0] at h1 ⊢
  exact ⟨rfl, h1, h2⟩
section
variable {w W0 W W' : World} {B P R M V O I C D p b : Nat} {q : Array Value} {m1 o i nx nx' : Int} {m m' : Int → Option Int} {n n' : Nat}
end
end Go.Proofs.YtmfabpkliogjlaaWin
end
section
namespace Go.Proofs
open Go.Shelf
def Try.keysI_ren : Go.Shelf.Ren := ⟨fun | 7 => 35 | 10 => 50 | n => n, fun | 23 => 71 | 26 => 3 | 3 => 75 | 28 => 80 | 0 => 0 | 27 => 79 | 33 => 101 | 4 => 4 | n => n, fun | n => n⟩
theorem Try.keysI : Go.Proofs.SlLaysZI.n7 Try.prog Try.keysI_ren := {
  mixed := by kernel_rfl
  f7 := ⟨Try.f35.name, by decide, Try.func35.trans (congrArg some (by kernel_rfl))⟩
  f10 := ⟨Try.f50.name, by decide, Try.func50.trans (congrArg some (by kernel_rfl))⟩
  t0 := Try.underlying0
  a0 := Try.isAgg0
  z0 := Try.sizeOf0
  v0 := Try.zeroValue0
  t4 := Try.underlying4
  a4 := Try.isAgg4
  z4 := Try.sizeOf4
  v4 := Try.zeroValue4
  t23 := Try.underlying71
  a23 := Try.isAgg71
  z23 := Try.sizeOf71
  v23 := Try.zeroValue71
  t26 := Try.underlying3
  a26 := Try.isAgg3
  z26 := Try.sizeOf3
  v26 := Try.zeroValue3
  t27 := Try.underlying79
  a27 := Try.isAgg79
  z27 := Try.sizeOf79
  v27 := Try.zeroValue79
  t28 := Try.underlying80
  a28 := Try.isAgg80
  z28 := Try.sizeOf80
  v28 := Try.zeroValue80
  t33 := Try.underlying101
  a33 := Try.isAgg101
  z33 := Try.sizeOf101
  v33 := Try.zeroValue101 }
def Try.sortedI_ren : Go.Shelf.Ren := ⟨fun | 6 => 34 | 8 => 48 | 9 => 49 | 11 => 54 | 13 => 56 | 12 => 55 | 23 => 66 | 24 => 67 | 14 => 57 | 15 => 58 | 16 => 59 | 17 => 60 | 18 => 61 | 19 => 62 | 20 => 63 | 21 => 64 | 22 => 65 | 25 => 68 | 26 => 69 | 27 => 70 | 28 => 71 | 29 => 72 | 30 => 73 | 31 => 74 | n => n, fun | 26 => 3 | 28 => 80 | 24 => 29 | 0 => 0 | 3 => 3 | 37 => 108 | 48 => 118 | 50 => 120 | 4 => 4 | 40 => 111 | 39 => 110 | 45 => 115 | 5 => 5 | 9 => 9 | 51 => 121 | 55 => 125 | 57 => 127 | 58 => 91 | 33 => 101 | n => n, fun | n => n⟩
theorem Try.sortedI : Go.Proofs.SlLaysZI.n6 Try.prog Try.sortedI_ren := {
  mixed := by kernel_rfl
  f6 := ⟨Try.f34.name, by decide, Try.func34.trans (congrArg some (by kernel_rfl))⟩
  f8 := ⟨Try.f48.name, by decide, Try.func48.trans (congrArg some (by kernel_rfl))⟩
  f11 := ⟨Try.f54.name, by decide, Try.func54.trans (congrArg some (by kernel_rfl))⟩
  t0 := Try.underlying0
  a0 := Try.isAgg0
  z0 := Try.sizeOf0
  v0 := Try.zeroValue0
  t24 := Try.underlying29
  a24 := Try.isAgg29
  z24 := Try.sizeOf29
  v24 := Try.zeroValue29
  t26 := Try.underlying3
  a26 := Try.isAgg3
  z26 := Try.sizeOf3
  v26 := Try.zeroValue3
  t28 := Try.underlying80
  a28 := Try.isAgg80
  z28 := Try.sizeOf80
  v28 := Try.zeroValue80
  i26 := by kernel_rfl }
def Try.sortI_ren : Go.Shelf.Ren := ⟨fun | 5 => 49 | 8 => 56 | 7 => 55 | 19 => 66 | 20 => 67 | 10 => 57 | 11 => 58 | 12 => 59 | 13 => 60 | 14 => 61 | 15 => 62 | 16 => 63 | 17 => 64 | 18 => 65 | 30 => 68 | 31 => 69 | 32 => 70 | 33 => 71 | 34 => 72 | 35 => 73 | 40 => 74 | n => n, fun | 23 => 29 | 25 => 3 | 3 => 3 | 32 => 108 | 22 => 29 | 0 => 0 | 44 => 118 | 46 => 120 | 4 => 4 | 36 => 111 | 35 => 110 | 41 => 115 | 5 => 5 | 9 => 9 | 53 => 121 | 57 => 125 | 63 => 127 | 64 => 91 | n => n, fun | n => n⟩
theorem Try.sortI : Go.Proofs.SlLaysM.n5 Try.prog Try.sortI_ren := {
  mixed := by kernel_rfl
  f5 := ⟨Try.f49.name, by decide, Try.func49.trans (congrArg some (by kernel_rfl))⟩
  f7 := ⟨Try.f55.name, by decide, Try.func55.trans (congrArg some (by kernel_rfl))⟩
  f8 := Try.func56.trans (congrArg some (by kernel_rfl))
  f10 := ⟨Try.f57.name, by decide, Try.func57.trans (congrArg some (by kernel_rfl))⟩
  f11 := ⟨Try.f58.name, by decide, Try.func58.trans (congrArg some (by kernel_rfl))⟩
  f12 := ⟨Try.f59.name, by decide, Try.func59.trans (congrArg some (by kernel_rfl))⟩
  f13 := ⟨Try.f60.name, by decide, Try.func60.trans (congrArg some (by kernel_rfl))⟩
  f14 := ⟨Try.f61.name, by decide, Try.func61.trans (congrArg some (by kernel_rfl))⟩
  f15 := ⟨Try.f62.name, by decide, Try.func62.trans (congrArg some (by kernel_rfl))⟩
  f16 := ⟨Try.f63.name, by decide, Try.func63.trans (congrArg some (by kernel_rfl))⟩
  f17 := ⟨Try.f64.name, by decide, Try.func64.trans (congrArg some (by kernel_rfl))⟩
  f18 := ⟨Try.f65.name, by decide, Try.func65.trans (congrArg some (by kernel_rfl))⟩
  f19 := Try.func66.trans (congrArg some (by kernel_rfl))
  f20 := Try.func67.trans (congrArg some (by kernel_rfl))
  f30 := ⟨Try.f68.name, by decide, Try.func68.trans (congrArg some (by kernel_rfl))⟩
  f31 := Try.func69.trans (congrArg some (by kernel_rfl))
  f32 := Try.func70.trans (congrArg some (by kernel_rfl))
  f33 := ⟨Try.f71.name, by decide, Try.func71.trans (congrArg some (by kernel_rfl))⟩
  f34 := ⟨Try.f72.name, by decide, Try.func72.trans (congrArg some (by kernel_rfl))⟩
  f35 := ⟨Try.f73.name, by decide, Try.func73.trans (congrArg some (by kernel_rfl))⟩
  f40 := ⟨Try.f74.name, by decide, Try.func74.trans (congrArg some (by kernel_rfl))⟩
  t0 := Try.underlying0
  a0 := Try.isAgg0
  z0 := Try.sizeOf0
  v0 := Try.zeroValue0
  t3 := Try.underlying3
  a3 := Try.isAgg3
  z3 := Try.sizeOf3
  v3 := Try.zeroValue3
  t4 := Try.underlying4
  a4 := Try.isAgg4
  z4 := Try.sizeOf4
  v4 := Try.zeroValue4
  t5 := Try.underlying5
  a5 := Try.isAgg5
  z5 := Try.sizeOf5
  v5 := Try.zeroValue5
  t9 := Try.underlying9
  a9 := Try.isAgg9
  z9 := Try.sizeOf9
  v9 := Try.zeroValue9
  t22 := Try.underlying29
  a22 := Try.isAgg29
  z22 := Try.sizeOf29
  v22 := Try.zeroValue29
  t23 := Try.underlying29
  a23 := Try.isAgg29
  z23 := Try.sizeOf29
  v23 := Try.zeroValue29
  t25 := Try.underlying3
  a25 := Try.isAgg3
  z25 := Try.sizeOf3
  v25 := Try.zeroValue3
  t32 := Try.underlying108
  a32 := Try.isAgg108
  z32 := Try.sizeOf108
  v32 := Try.zeroValue108
  t35 := Try.underlying110
  a35 := Try.isAgg110
  z35 := Try.sizeOf110
  v35 := Try.zeroValue110
  t36 := Try.underlying111
  a36 := Try.isAgg111
  z36 := Try.sizeOf111
  v36 := Try.zeroValue111
  t41 := Try.underlying115
  a41 := Try.isAgg115
  z41 := Try.sizeOf115
  v41 := Try.zeroValue115
  t44 := Try.underlying118
  a44 := Try.isAgg118
  z44 := Try.sizeOf118
  v44 := Try.zeroValue118
  t46 := Try.underlying120
  a46 := Try.isAgg120
  z46 := Try.sizeOf120
  v46 := Try.zeroValue120
  t53 := Try.underlying121
  a53 := Try.isAgg121
  z53 := Try.sizeOf121
  v53 := Try.zeroValue121
  t57 := Try.underlying125
  a57 := Try.isAgg125
  z57 := Try.sizeOf125
  v57 := Try.zeroValue125
  t63 := Try.underlying127
  a63 := Try.isAgg127
  z63 := Try.sizeOf127
  v63 := Try.zeroValue127
  t64 := Try.underlying91
  a64 := Try.isAgg91
  z64 := Try.sizeOf91
  v64 := Try.zeroValue91 }
end Go.Proofs
end
section
namespace Go.Proofs.YtmfabpkliogjlaaWin
open Go.RowKit Go.Maps Go.Sort Go.Shelf
set_option linter.unusedSimpArgs false
set_option linter.unusedVariables false
theorem intKeys_has {P : Program} {R : Value → Option (DataW Unit × List MemPlace)} {w : World} {b n : Nat} {D0 : DataW Unit} (hown : w.ownsMap P 3 R b n D0) (hk : P.underlying 3 = some (.int .i64)) : (intKeys D0).Nodup ∧ (∀ x, x ∈ intKeys D0 ↔ has D0 (.int .i64 x) = true) ∧ Maps.size D0 ≤ n := by
  obtain ⟨es, hD, hp, _⟩ := hown.entries (int_keyed hk)
  obtain ⟨es', hD', hko⟩ := hown.keysOf
  obtain rfl : es = es' := by rw [hD] at hD'; simpa using hD'
  subst hD
  have hk' : ∀ p ∈ es, ∃ x, p.1 = .int .i64 x := fun p hp => by obtain ⟨v, hv⟩ := hko p hp; obtain ⟨x, _, hx, _⟩ := Maps.keyOf_i64 hk hv; exact ⟨x, hx⟩
  refine ⟨?_, fun x => ?_, ?_⟩
  · show (es.map fun p => _root_.Go.intOf p.1).Nodup
    refine List.pairwise_map.2 (hp.imp_of_mem fun {p q} hp' hq' hne e => hne ?_)
    obtain ⟨a, ha⟩ := hk' p hp'
    obtain ⟨b, hb⟩ := hk' q hq'
    rw [ha, hb] at e ⊢
    exact congrArg _ e
  · rw [has_eq, List.any_eq_true]
    show x ∈ es.map (fun p => _root_.Go.intOf p.1) ↔ _
    rw [List.mem_map]
    constructor
    · rintro ⟨p, hp', rfl⟩
      obtain ⟨a, ha⟩ := hk' p hp'
      exact ⟨p, hp', by rw [ha]; simp [Lit.sameKey, _root_.Go.intOf]⟩
    · rintro ⟨p, hp', hs⟩
      obtain ⟨a, ha⟩ := hk' p hp'
      rw [ha] at hs
      exact ⟨p, hp', by rw [ha]; simpa [Lit.sameKey, _root_.Go.intOf] using hs⟩
  · obtain ⟨es2, clock, _, _, hs, hD2⟩ := hown
    rw [hD2, size_eq, length_sorted]
    simpa using hs
def KeysOfM {α : Type} (m : Int → Option α) (ss : List Int) : Prop := ss.Pairwise (· < ·) ∧ (∀ x, Fits x → (x ∈ ss ↔ (m x).isSome = true)) ∧ ∀ x ∈ ss, Fits x
theorem keysOfM {α : Type} {E : ElemK α} {P : Program} {W : World} {b n : Nat} {m : Int → Option α} {D : DataW Unit} (hown : W.ownsMap P 3 E.R b n D) (hk : P.underlying 3 = some (.int .i64))
    (hm : ∀ x, (Lit.int .i64 x).wf = true → match m x with | some a => ∀ z, D.atKey (.int .i64 x) z = E.dat a | none => ∀ z, D.atKey (.int .i64 x) z = z) {ss : List Int} (hp : ss.Perm (intKeys D)) :
    KeysOfM m (ss.mergeSort leI) := by
  obtain ⟨h1, h2, h3⟩ := intKeys_has hown hk
  have tr : ∀ a b c : Int, leI a b = true → leI b c = true → leI a c = true := fun a b c h1 h2 => by simp only [leI, decide_eq_true_eq] at *; exact Int.le_trans h1 h2
  have to : ∀ a b : Int, (leI a b || leI b a) = true := fun a b => by simp only [leI, Bool.or_eq_true, decide_eq_true_eq]; exact Int.le_total a b
  have hsp := List.mergeSort_perm ss leI
  refine ⟨?_, fun x hx => ?_, fun x hx => intKeys_wf hown hk x ((hsp.trans hp).mem_iff.1 hx)⟩
  · have p1 := List.pairwise_mergeSort tr to ss
    have p2 : (ss.mergeSort leI).Pairwise (· ≠ ·) := (hsp.trans hp).nodup_iff.2 h1
    refine (p1.and p2).imp (fun {a b} h => ?_)
    have h5 : a ≤ b := by simpa [leI] using h.1
    have h6 := h.2
    omega
  · rw [(hsp.trans hp).mem_iff, h2 x]
    have := hm x hx
    cases hc : m x with
    | none =>
      rw [hc] at this
      rw [has_false_of_atKey this]
      simp
    | some a =>
      rw [hc] at this
      rw [has_true_of_atKey this]
      simp
theorem sortsI (m : Nat) : AnyZI.SortsIn Try.prog Try.sortedI_ren Fence.wide m :=
  ⟨fun blk off cap ss W hH hblk hsz => callsIn_wide.2 (AnyM.slices_Sort_int Try.sortI blk off cap ss W hH hblk hsz),
   fun p cap W => callsIn_wide.2 (AnyM.slices_Sort_int_none Try.sortI p cap W)⟩
set_option maxRecDepth 100000 in
set_option maxHeartbeats 2000000 in
theorem Held_calls {p b n : Nat} {nx sz : Int} {m : Int → Option Int} (w : World) (h : WinAt w p b nx sz m n) (hn : n ≤ 2000000) :
    Calls Try.prog 16 #[.pointer (some ⟨p, 0, none⟩)] w fun e w' => ∃ (v : Value) (ss : List Int), e = .returned v ∧ KeysOfM m ss ∧
      w'.ownsRow w.heap.size 3 1 v ss.length (ss.map (Value.int .i64)) ∧ Below w.heap.size w w' := by
  have c2 := h.c2
  obtain ⟨D0, hown, hm⟩ := h.2
  obtain ⟨_, _, hs⟩ := intKeys_has hown Try.underlying3
  refine (callsIn_wide (n := 6)).1 ?_
  have hbl := hown.lt
  have hseq : SeqGives Fence.wide 2 Try.prog 50 #[.pointer (some ⟨w.heap.size, 0, none⟩)] encZ (fun ss => ss.Perm (intKeys D0)) (Maps.size D0) (w.alloc (.cells #[.map (some b)] 71)) :=
    AnyZI.keys_gives (ρ := Try.keysI_ren) { Try.keysI with } Fence.wide _ trivial rfl (by omega) w.heap.size b n D0 _ (by simp) (by simp) (by
      obtain ⟨es, clock, hb, Ft, hs, hD⟩ := hown
      exact ⟨es, clock, (Below.heap_alloc _ _ b hbl).trans hb, Ft, hs, hD⟩)
  have cK : ∀ mb W, CallsIn Fence.wide 5 Try.prog 35 #[.map mb] W fun e w' => e = .returned (.func (.func 50) #[] #[.pointer (some ⟨W.heap.size, 0, none⟩)]) ∧ w' = W.alloc (.cells #[.map mb] 71) := fun mb W => AnyZI.keys_in Try.keysI Fence.wide 5 trivial rfl mb W
  have cS := AnyZI.sorted_in Try.sortedI Fence.wide 5 trivial trivial trivial trivial rfl (by omega) (sortsI _) (enters_of Try.func49 (by kernel_rfl) rfl) 50 #[.pointer (some ⟨w.heap.size, 0, none⟩)] trivial (enters_of Try.func50 (by kernel_rfl) rfl) _ _ (by simp [maxLen]; omega) (by omega) _ hseq
  change CallsIn _ _ Try.prog 34 _ _ _ at cS
  have hfK : Fence.wide.fn 35 := trivial
  have hfS : Fence.wide.fn 34 := trivial
  refine callsIn_of_wp Try.func16 rfl trivial ?_ rfl
  simp only [Try.ntmps16, List.size_toArray, List.length_cons, List.length_nil, Nat.reduceAdd, Nat.reduceSub, Array.replicate_succ, Array.replicate_zero, List.push_toArray, List.append_toArray, List.nil_append, List.cons_append]
  gi_wp2_with (first
    | (gi_at_call 35; refine (cK _ _).mono ?_; rintro e w' ⟨rfl, rfl⟩)
    | (gi_at_call 34; refine cS.mono ?_; rintro e w' ⟨v, ss, rfl, hS, hrow, hnil, hb⟩))
  go_ret
  have hk := keysOfM hown Try.underlying3 hm hS
  refine ⟨v, ss.mergeSort leI, rfl, hk, ?_, ((Below.refl _ w).alloc (Nat.le_refl _) _).trans (hb.mono (by simp))⟩
  have := ownsRow_base_a (base' := w.heap.size) hrow (by simp)
  rw [List.length_mergeSort]
  exact this
theorem row_slice {W : World} {n₀ k : Nat} {v : Value} {xs : List Value} (h : W.ownsRow n₀ 3 1 v k xs) : ∃ A c, v = .slice A k c ∧ ∀ x, xs[0]? = some x → ∃ g, A = some ⟨g, 0, none⟩ ∧ W.cell? ⟨g, 0, none⟩ = some x := by
  obtain ⟨h1, h2⟩ := h
  rcases h2 with ⟨rfl, hx⟩ | ⟨g, cap, cur, rfl, hbg, hh, hnc, hcm, hcs, htake⟩
  · refine ⟨none, 0, by rw [hx], fun x hx0 => ?_⟩
    have : xs = [] := List.eq_nil_of_length_eq_zero (by omega)
    rw [this] at hx0
    simp at hx0
  · refine ⟨_, _, rfl, fun x hx0 => ⟨g, rfl, ?_⟩⟩
    have hl : 0 < xs.length := (List.getElem?_eq_some_iff.1 hx0).1
    rw [← htake, List.getElem?_take, if_pos (by omega), Array.getElem?_toList] at hx0
    simpa [World.cell?, hh] using hx0
theorem keys_none {α : Type} {ss : List Int} (h : KeysOfM (fun _ : Int => (none : Option α)) ss) : ss = [] := by
  cases ss with
  | nil => rfl
  | cons x l =>
    have h1 := h.2.2 x List.mem_cons_self
    have := (h.2.1 x h1).1 List.mem_cons_self
    simp at this
theorem keys_one {α : Type} {m : Int → Option α} {ss : List Int} {x : Int} {a : α} (h : KeysOfM m ss) (hx : Fits x) (hm : ∀ y, m y = if y = x then some a else none) : ss = [x] := by
  have h1 : ∀ y ∈ ss, y = x := fun y hy => by
    have := (h.2.1 y (h.2.2 y hy)).1 hy
    rw [hm] at this
    by_cases c : y = x
    · exact c
    · rw [if_neg c] at this; simp at this
  have h2 : x ∈ ss := (h.2.1 x hx).2 (by rw [hm, if_pos rfl]; rfl)
  cases ss with
  | nil => cases h2
  | cons y l =>
    obtain rfl := h1 y List.mem_cons_self
    cases l with
    | nil => rfl
    | cons z l =>
      have hz := h1 z (List.mem_cons_of_mem _ List.mem_cons_self)
      have := (List.pairwise_cons.1 h.1).1 z List.mem_cons_self
      omega
end Go.Proofs.YtmfabpkliogjlaaWin
end
section
namespace Go.Proofs.YtmfabpkliogjlaaWin
open Go.RowKit Go.Maps
set_option linter.unusedSimpArgs false
set_option linter.unusedVariables false
theorem New_bad {nx sz : Int} (h : nx < 0 ∨ nx > 1048576 ∨ sz < 1 ∨ sz > 1048576) (w : World) : Calls Try.prog 12 #[.int .i64 nx, .int .i64 sz] w fun e w' =>
    e = .returned (.tuple #[.pointer none, .int .i64 2]) ∧ Below w.heap.size w w' := by
  refine (New_calls nx sz w).mono ?_
  intro e w' hh
  rwa [if_pos h] at hh
theorem Put_far {p b n : Nat} {nx sz : Int} {m : Int → Option Int} (w : World) (h : WinAt w p b nx sz m n) (hn0 : 0 ≤ nx) (hn : n < maxLen) (x v : Int) (hf : Fits x) (h1 : ¬ x < nx) (h2 : x - nx ≥ sz) : Calls Try.prog 13 #[.pointer (some ⟨p, 0, none⟩), .int .i64 x, .int .i64 v] w fun e w' =>
    e = .returned (.int .i64 132) ∧ WinAt w' p b nx sz m (n + 1) ∧ Only (fun k => k = b) w w' := by
  refine (Put_calls w h hn0 hn x v hf).mono ?_
  rintro e w' ⟨rfl, h1', h2'⟩
  rw [show putE nx sz m x = 132 from by unfold putE; rw [if_neg h1, if_pos h2]] at h1' ⊢
  exact ⟨rfl, h1', h2'⟩
set_option maxRecDepth 100000 in
set_option maxHeartbeats 8000000 in
theorem Bounds_bad (q0 q1 q2 : Int) (h : q0 < 0 ∨ q0 > 1048576 ∨ q1 < 1 ∨ q1 > 1048576) (w : World) : Calls Try.prog 5 #[.int .i64 q0, .int .i64 q1, .int .i64 q2] w fun e w' => e = .returned (.bool true) ∧ Below w.heap.size w w' := by
  have hB := New_bad h w
  by_cases c1 : q0 < 0
  · clear h
    go_enter Try.func5, Try.ntmps5
    go_wp2_with (first | (go_at_call 12; refine hB.mono ?_; clear hB; rintro e w1 ⟨rfl, hb1⟩) | (go_at_call 12; refine (New_good ⟨by omega, by omega, by omega, by omega⟩ _).mono ?_; rintro e w2 ⟨p2, b2, rfl, _, _, _, hb2⟩))
    go_ret
    exact ⟨rfl, hb1.trans (hb2.mono hb1.size)⟩
  by_cases c2 : q0 > 1048576
  · clear h
    go_enter Try.func5, Try.ntmps5
    go_wp2_with (first | (go_at_call 12; refine hB.mono ?_; clear hB; rintro e w1 ⟨rfl, hb1⟩) | (go_at_call 12; refine (New_good ⟨by omega, by omega, by omega, by omega⟩ _).mono ?_; rintro e w2 ⟨p2, b2, rfl, _, _, _, hb2⟩))
    go_ret
    exact ⟨rfl, hb1.trans (hb2.mono hb1.size)⟩
  by_cases c3 : q1 < 1
  · clear h
    go_enter Try.func5, Try.ntmps5
    go_wp2_with (first | (go_at_call 12; refine hB.mono ?_; clear hB; rintro e w1 ⟨rfl, hb1⟩) | (go_at_call 12; refine (New_good ⟨by omega, by omega, by omega, by omega⟩ _).mono ?_; rintro e w2 ⟨p2, b2, rfl, _, _, _, hb2⟩))
    go_ret
    exact ⟨rfl, hb1.trans (hb2.mono hb1.size)⟩
  have c4 : ¬ q1 ≤ 1048576 := by omega
  · clear h
    go_enter Try.func5, Try.ntmps5
    go_wp2_with (first | (go_at_call 12; refine hB.mono ?_; clear hB; rintro e w1 ⟨rfl, hb1⟩) | (go_at_call 12; refine (New_good ⟨by omega, by omega, by omega, by omega⟩ _).mono ?_; rintro e w2 ⟨p2, b2, rfl, _, _, _, hb2⟩))
    go_ret
    exact ⟨rfl, hb1.trans (hb2.mono hb1.size)⟩
set_option maxRecDepth 100000 in
set_option maxHeartbeats 8000000 in
theorem Bounds_good (q0 q1 q2 : Int) (h0 : 0 ≤ q0) (h1 : q0 ≤ 1048576) (h2 : 1 ≤ q1) (h3 : q1 ≤ 1048576) (hf : Fits q2) (w : World) : Calls Try.prog 5 #[.int .i64 q0, .int .i64 q1, .int .i64 q2] w fun e w' => e = .returned (.bool true) ∧ Below w.heap.size w w' := by
  have hfirst : True := trivial
  have hf0 : Fits q0 := fits_of ⟨by omega, by omega⟩
  have hx := wf64 hf
  have hw : wrap64 (q2 - q0) = q2 - q0 ∨ q2 < q0 := by
    by_cases c : q2 < q0
    · exact .inr c
    · exact .inl (IntWalk.wrap64_in _ ⟨by omega, by omega⟩)
  by_cases c1 : q2 < q0
  · clear hw
    go_enter Try.func5, Try.ntmps5
    go_wp2_with (first | (go_at_call 12; clear hfirst; refine (New_good ⟨by omega, by omega, by omega, by omega⟩ _).mono ?_; rintro e w1 ⟨p, b, rfl, hp, hb, hW1, hb1⟩) | (go_at_call 12; refine (New_good ⟨by omega, by omega, by omega, by omega⟩ _).mono ?_; rintro e w2 ⟨p2, b2, rfl, _, _, _, hb2⟩; have hW2 := hW1.below hb2; clear hW1) | (go_at_call 15; refine (Next_exact _ hW2).mono ?_; rintro e w3 ⟨rfl, rfl⟩) | (go_at_call 16; refine (Held_calls _ hW2 (by omega)).mono ?_; rintro e w4 ⟨v4, s4, rfl, hk4, hr4, hb4⟩; obtain rfl := keys_none hk4; obtain ⟨A4, c4, rfl, _⟩ := row_slice hr4; have hW4 := hW2.below hb4; clear hW2 hr4 hk4) | (go_at_call 13; refine (Put_old _ hW4 h0 (by simp [maxLen]) _ _ hf (by omega)).mono ?_; rintro e w5 ⟨rfl, hW5, ho5⟩; clear hW4) | (go_at_call 16; refine (Held_calls _ hW5 (by omega)).mono ?_; rintro e w6 ⟨v6, s6, rfl, hk6, hr6, hb6⟩; obtain rfl := keys_none hk6; obtain ⟨A6, c6, rfl, _⟩ := row_slice hr6; clear hW5 hr6 hk6))
    go_ret
    exact ⟨rfl, (((hb1.trans (hb2.mono hb1.size)).trans (hb4.mono (Nat.le_trans hb1.size hb2.size))).trans (ho5.below (Nat.le_trans (Nat.le_trans hb1.size hb2.size) hb4.size) (fun k hk => by omega))).trans (hb6.mono (Nat.le_trans (Nat.le_trans (Nat.le_trans hb1.size hb2.size) hb4.size) ho5.size))⟩
  replace hw := hw.resolve_right c1
  by_cases c2 : q2 - q0 ≥ q1
  · go_enter Try.func5, Try.ntmps5
    go_wp2_with (first | (go_at_call 12; clear hfirst; refine (New_good ⟨by omega, by omega, by omega, by omega⟩ _).mono ?_; rintro e w1 ⟨p, b, rfl, hp, hb, hW1, hb1⟩) | (go_at_call 12; refine (New_good ⟨by omega, by omega, by omega, by omega⟩ _).mono ?_; rintro e w2 ⟨p2, b2, rfl, _, _, _, hb2⟩; have hW2 := hW1.below hb2; clear hW1) | (go_at_call 15; refine (Next_exact _ hW2).mono ?_; rintro e w3 ⟨rfl, rfl⟩) | (go_at_call 16; refine (Held_calls _ hW2 (by omega)).mono ?_; rintro e w4 ⟨v4, s4, rfl, hk4, hr4, hb4⟩; obtain rfl := keys_none hk4; obtain ⟨A4, c4, rfl, _⟩ := row_slice hr4; have hW4 := hW2.below hb4; clear hW2 hr4 hk4) | (go_at_call 13; refine (Put_far _ hW4 h0 (by simp [maxLen]) _ _ hf (by omega) (by omega)).mono ?_; rintro e w5 ⟨rfl, hW5, ho5⟩; clear hW4) | (go_at_call 16; refine (Held_calls _ hW5 (by omega)).mono ?_; rintro e w6 ⟨v6, s6, rfl, hk6, hr6, hb6⟩; obtain rfl := keys_none hk6; obtain ⟨A6, c6, rfl, _⟩ := row_slice hr6; clear hW5 hr6 hk6))
    go_ret
    exact ⟨rfl, (((hb1.trans (hb2.mono hb1.size)).trans (hb4.mono (Nat.le_trans hb1.size hb2.size))).trans (ho5.below (Nat.le_trans (Nat.le_trans hb1.size hb2.size) hb4.size) (fun k hk => by omega))).trans (hb6.mono (Nat.le_trans (Nat.le_trans (Nat.le_trans hb1.size hb2.size) hb4.size) ho5.size))⟩
  by_cases c3 : q2 = q0
  · subst c3
    go_enter Try.func5, Try.ntmps5
    go_wp2_with (first | (go_at_call 12; clear hfirst; refine (New_good ⟨by omega, by omega, by omega, by omega⟩ _).mono ?_; rintro e w1 ⟨p, b, rfl, hp, hb, hW1, hb1⟩) | (go_at_call 12; refine (New_good ⟨by omega, by omega, by omega, by omega⟩ _).mono ?_; rintro e w2 ⟨p2, b2, rfl, _, _, _, hb2⟩; have hW2 := hW1.below hb2; clear hW1) | (go_at_call 15; refine (Next_exact _ hW2).mono ?_; rintro e w3 ⟨rfl, rfl⟩) | (go_at_call 16; refine (Held_calls _ hW2 (by omega)).mono ?_; rintro e w4 ⟨v4, s4, rfl, hk4, hr4, hb4⟩; obtain rfl := keys_none hk4; obtain ⟨A4, c4, rfl, _⟩ := row_slice hr4; have hW4 := hW2.below hb4; clear hW2 hr4 hk4) | (go_at_call 13; refine (Put_new _ hW4 h0 (by simp [maxLen]) _ _ hf (by omega) (by omega) rfl).mono ?_; rintro e w5 ⟨rfl, hW5, ho5⟩; clear hW4) | (go_at_call 17; refine (Peek_calls _ hW5 hf0).mono ?_; rintro e w6 ⟨rfl, ho6⟩; have hW6 := hW5.only ho6 (fun h => h) (fun h => h); clear hW5) | (go_at_call 16; refine (Held_calls _ hW6 (by omega)).mono ?_; rintro e w7 ⟨v7, s7, rfl, hk7, hr7, hb7⟩; obtain rfl := keys_one hk7 hf (fun y => rfl); obtain ⟨A7, c7, rfl, hg7⟩ := row_slice hr7; obtain ⟨g7, rfl, hc7⟩ := hg7 _ rfl; clear hW6 hk7))
    go_ret
    exact ⟨rfl, (((((hb1.trans (hb2.mono hb1.size)).trans (hb4.mono (Nat.le_trans hb1.size hb2.size))).trans (ho5.below (Nat.le_trans (Nat.le_trans hb1.size hb2.size) hb4.size) (fun k hk => by omega))).trans (ho6.below (Nat.le_trans (Nat.le_trans (Nat.le_trans hb1.size hb2.size) hb4.size) ho5.size) (fun _ h => h.elim))).trans (hb7.mono (Nat.le_trans (Nat.le_trans (Nat.le_trans (Nat.le_trans hb1.size hb2.size) hb4.size) ho5.size) ho6.size)))⟩
  · go_enter Try.func5, Try.ntmps5
    go_wp2_with (first | (go_at_call 12; clear hfirst; refine (New_good ⟨by omega, by omega, by omega, by omega⟩ _).mono ?_; rintro e w1 ⟨p, b, rfl, hp, hb, hW1, hb1⟩) | (go_at_call 12; refine (New_good ⟨by omega, by omega, by omega, by omega⟩ _).mono ?_; rintro e w2 ⟨p2, b2, rfl, _, _, _, hb2⟩; have hW2 := hW1.below hb2; clear hW1) | (go_at_call 15; refine (Next_exact _ hW2).mono ?_; rintro e w3 ⟨rfl, rfl⟩) | (go_at_call 16; refine (Held_calls _ hW2 (by omega)).mono ?_; rintro e w4 ⟨v4, s4, rfl, hk4, hr4, hb4⟩; obtain rfl := keys_none hk4; obtain ⟨A4, c4, rfl, _⟩ := row_slice hr4; have hW4 := hW2.below hb4; clear hW2 hr4 hk4) | (go_at_call 13; refine (Put_new _ hW4 h0 (by simp [maxLen]) _ _ hf (by omega) (by omega) rfl).mono ?_; rintro e w5 ⟨rfl, hW5, ho5⟩; clear hW4) | (go_at_call 17; refine (Peek_calls _ hW5 hf0).mono ?_; rintro e w6 ⟨rfl, ho6⟩; have hW6 := hW5.only ho6 (fun h => h) (fun h => h); clear hW5) | (go_at_call 16; refine (Held_calls _ hW6 (by omega)).mono ?_; rintro e w7 ⟨v7, s7, rfl, hk7, hr7, hb7⟩; obtain rfl := keys_one hk7 hf (fun y => rfl); obtain ⟨A7, c7, rfl, hg7⟩ := row_slice hr7; obtain ⟨g7, rfl, hc7⟩ := hg7 _ rfl; clear hW6 hk7))
    go_ret
    refine ⟨?_, (((((hb1.trans (hb2.mono hb1.size)).trans (hb4.mono (Nat.le_trans hb1.size hb2.size))).trans (ho5.below (Nat.le_trans (Nat.le_trans hb1.size hb2.size) hb4.size) (fun k hk => by omega))).trans (ho6.below (Nat.le_trans (Nat.le_trans (Nat.le_trans hb1.size hb2.size) hb4.size) ho5.size) (fun _ h => h.elim))).trans (hb7.mono (Nat.le_trans (Nat.le_trans (Nat.le_trans (Nat.le_trans hb1.size hb2.size) hb4.size) ho5.size) ho6.size)))⟩
    simp [c3]
theorem Bounds.calls (k : Nat) (q0 q1 q2 : Int) (r : Bool) (w : World) (h0 : Fits q2) : Calls Try.prog 5 #[.int .i64 q0, .int .i64 q1, .int .i64 q2] w fun e w' => e = .returned (.bool true) ∧ Below w.heap.size w w' := by
  by_cases c : q0 < 0 ∨ q0 > 1048576 ∨ q1 < 1 ∨ q1 > 1048576
  · exact Bounds_bad q0 q1 q2 c w
  · exact Bounds_good q0 q1 q2 (by omega) (by omega) (by omega) (by omega) h0 w
theorem Bounds_pure (a : Int) (_ : Fits a) (b : Int) (_ : Fits b) (c : Int) (h : Fits c) : ∃ _ : Nat, Fits c := ⟨0, h⟩
end Go.Proofs.YtmfabpkliogjlaaWin
end
