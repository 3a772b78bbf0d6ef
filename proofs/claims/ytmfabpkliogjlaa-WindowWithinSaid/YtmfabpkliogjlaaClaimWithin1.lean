/- WindowWithin, for every input: the law answers true and its argument reads as before; no condition. -/
import Derived.Maps.OwnSet
import Derived.Below
import Derived.WalkKit
import Derived.KernelRfl
import Derived.Test.YtmfabpkliogjlaaProg
import Derived.Tactics
import Derived.IntWalk
import Derived.RangeFuncBox
import Derived.RangeFuncNested
import Derived.RangeFuncBound
import Derived.RangeFuncCalls
import Derived.RangeFuncLeaves
import Derived.Shelf.Abstract
import Derived.Shelf.RegionOpen
import Derived.OwnWalkIn
import Derived.TacticsInMore
import Derived.LoopNIn
import Derived.LoopIn
import Derived.Deep.RegionWith
import Derived.SizedLaws
import Derived.Deep.Slices
import Derived.ChangeArms
import Derived.DataReads
import Derived.Test.YtmfabpkliogjlaaClaimWithinW0
section
namespace Go.Proofs.YtmfabpkliogjlaaWin
open Go.RowKit Go.Maps
structure ElemK (α : Type) where
  R : Value → Option (DataW Unit × List MemPlace)
  val : α → Value
  dat : α → DataW Unit
  put : ∀ a, R (val a) = some (dat a, [])
  inv : ∀ {v a ps}, R v = some (dat a, ps) → v = val a
structure Only (K : Nat → Prop) (W W' : World) : Prop where
  os : W'.os = W.os
  tape : W'.tape = W.tape
  output : W'.output = W.output
  size : W.heap.size ≤ W'.heap.size
  block : ∀ k, k < W.heap.size → ¬ K k → W'.heap[k]? = W.heap[k]?
theorem Only.refl (K : Nat → Prop) (W : World) : Only K W W := ⟨rfl, rfl, rfl, Nat.le_refl _, fun _ _ _ => rfl⟩
theorem Only.trans {K : Nat → Prop} {A B C : World} (h : Only K A B) (k : Only K B C) : Only K A C :=
  ⟨k.os.trans h.os, k.tape.trans h.tape, k.output.trans h.output, Nat.le_trans h.size k.size, fun i hi hn => (k.block i (Nat.lt_of_lt_of_le hi h.size) hn).trans (h.block i hi hn)⟩
theorem Only.mono {K K' : Nat → Prop} {A B : World} (h : Only K A B) (hk : ∀ i, K i → K' i) : Only K' A B := ⟨h.os, h.tape, h.output, h.size, fun i hi hn => h.block i hi (fun hki => hn (hk i hki))⟩
theorem Only.below {K : Nat → Prop} {A B : World} (h : Only K A B) {n : Nat} (hn : n ≤ A.heap.size) (hk : ∀ i, K i → n ≤ i) : Below n A B :=
  ⟨h.os, h.tape, h.output, h.size, fun i hi => h.block i (Nat.lt_of_lt_of_le hi hn) (fun hki => by have := hk i hki; omega)⟩
theorem Only.of_below {K : Nat → Prop} {A B : World} (h : Below A.heap.size A B) : Only K A B := ⟨h.os, h.tape, h.output, h.size, fun i hi _ => h.block i hi⟩
theorem Only.alloc (K : Nat → Prop) (W : World) (o : Obj) : Only K W (W.alloc o) := Only.of_below ((Below.refl _ W).alloc (Nat.le_refl _) o)
theorem Only.drew {K : Nat → Prop} {A B : World} (h : Only K A B) : Only K A B.drew := ⟨h.os, h.tape, h.output, h.size, h.block⟩
theorem Only.setCell (K : Nat → Prop) (W : World) (p : Addr) (v : Value) (hk : K p.block) : Only K W (W.setCell p v) :=
  ⟨rfl, rfl, rfl, by simp [World.setCell], fun i _ hn => Below.heap_setCell _ _ _ _ (fun e => hn (e ▸ hk))⟩
theorem Only.turned {K : Nat → Prop} {A B : World} {b : Nat} (h : A.mapTurned B b) (hk : K b) : Only K A B := by
  obtain ⟨es, clock, es', clock', hb, rfl⟩ := h
  exact ⟨rfl, rfl, rfl, by simp [ChangeMaps.setBlock], fun i _ hn => ChangeMaps.heap_setBlock_other hb _ (fun e => hn (e ▸ hk))⟩
section
variable {α : Type} {P : Program}
def MapIs (P : Program) (E : ElemK α) (W : World) (b : Nat) (m : Int → Option α) (n : Nat) : Prop :=
  ∃ D : DataW Unit, W.ownsMap P 3 E.R b n D ∧ ∀ x, (Lit.int .i64 x).wf = true → match m x with
    | some a => ∀ z, D.atKey (.int .i64 x) z = E.dat a
    | none => ∀ z, D.atKey (.int .i64 x) z = z
variable {E : ElemK α} {W W' : World} {b n : Nat} {m : Int → Option α}
theorem MapIs.mono (h : MapIs P E W b m n) {n' : Nat} (hn : n ≤ n') : MapIs P E W b m n' := by
  obtain ⟨D, h1, h2⟩ := h
  exact ⟨D, h1.mono hn, h2⟩
theorem MapIs.lt (h : MapIs P E W b m n) : b < W.heap.size := by
  obtain ⟨D, h1, _⟩ := h
  exact h1.lt
theorem MapIs.block (h : MapIs P E W b m n) (hb : W'.heap[b]? = W.heap[b]?) : MapIs P E W' b m n := by
  obtain ⟨D, ⟨es, clock, h0, h1⟩, h2⟩ := h
  exact ⟨D, ⟨es, clock, hb.trans h0, h1⟩, h2⟩
theorem MapIs.isMap (h : MapIs P E W b m n) : ∃ es clock, W.heap[b]? = some (.map es clock) := by
  obtain ⟨D, ⟨es, clock, h0, _⟩, _⟩ := h
  exact ⟨es, clock, h0⟩
theorem MapIs.made (W : World) : MapIs P E (W.alloc (.map #[] 0)) W.heap.size (fun _ => none) 0 :=
  ⟨_, World.ownsMap_made W P 3 E.R, fun _ _ => fun _ => rfl⟩
theorem litKey (x : Int) : WideAt.IsKeyLit (.int .i64 x) := trivial
theorem litNe {x y : Int} (h : x ≠ y) : (Lit.int .i64 x) ≠ Lit.int .i64 y := fun e => h (by cases e; rfl)
variable {t e : TypeId} (K : Keyed P 3) (h3 : P.underlying 3 = some (.int .i64)) (ht : P.underlying t = some (.map 3 e))
theorem MapIs.look (h : MapIs P E W b m n) (h3 : P.underlying 3 = some (.int .i64)) (ht : P.underlying t = some (.map 3 e)) {z : α} (hz : (zeroValue e).run P W = .ok (E.val z) W) {x : Int} (hx : (Lit.int .i64 x).wf = true) :
    (Instr.lookup t (.map (some b)) (.int .i64 x) true).run P W = .ok (.tuple #[E.val ((m x).getD z), .bool (m x).isSome]) W := by
  obtain ⟨D, h1, h2⟩ := h
  obtain ⟨v, ps, hrun, hv⟩ := h1.look_ok (int_keyed h3) ht hz (E.put z) (keyOf_int_mk h3 hx)
  have h2 := h2 x hx
  rw [hrun]
  cases hm : m x with
  | none =>
    rw [hm] at h2
    simp only at h2
    rw [h2] at hv
    rw [E.inv hv, has_false_of_atKey h2]
    rfl
  | some a =>
    rw [hm] at h2
    simp only at h2
    rw [h2] at hv
    rw [E.inv hv, has_true_of_atKey h2]
    rfl
theorem MapIs.store (h : MapIs P E W b m n) (h3 : P.underlying 3 = some (.int .i64)) (ht : P.underlying t = some (.map 3 e)) (hn : n < maxLen) {x : Int} (hx : (Lit.int .i64 x).wf = true) (a : α) :
    ∃ W', (Instr.mapUpdate t (.map (some b)) (.int .i64 x) (E.val a)).run P W = .ok () W' ∧ MapIs P E W' b (fun y => if y = x then some a else m y) (n + 1) ∧ W.mapTurned W' b := by
  obtain ⟨D, h1, h2⟩ := h
  have hD := h1.isMap
  obtain ⟨W', hrun, hown, hturn⟩ := h1.store (int_keyed h3) ht hn (keyOf_int_mk h3 hx) (E.put a)
  refine ⟨W', hrun, ⟨_, hown, fun y hy => ?_⟩, hturn⟩
  by_cases c : y = x
  · subst c
    simp only [if_true]
    exact fun z => atKey_put_same hD (litKey _) _ _
  · simp only [if_neg c]
    have := h2 y hy
    cases hm : m y with
    | none => rw [hm] at this; exact fun z => (atKey_put_other (litNe c) _ _).trans (this z)
    | some a' => rw [hm] at this; exact fun z => (atKey_put_other (litNe c) _ _).trans (this z)
theorem MapIs.drop (h : MapIs P E W b m n) (h3 : P.underlying 3 = some (.int .i64)) (ht : P.underlying t = some (.map 3 e)) (ty : TypeId) {x : Int} (hx : (Lit.int .i64 x).wf = true) :
    ∃ W', (Builtin.delete_ #[t, 3] ty #[.map (some b), .int .i64 x]).run P W = .ok (.tuple #[]) W' ∧ MapIs P E W' b (fun y => if y = x then none else m y) n ∧ W.mapTurned W' b := by
  obtain ⟨D, h1, h2⟩ := h
  obtain ⟨W', hrun, hown, hturn⟩ := h1.drop (int_keyed h3) ht (keyOf_int_mk h3 hx) ty
  refine ⟨W', hrun, ⟨_, hown, fun y hy => ?_⟩, hturn⟩
  by_cases c : y = x
  · subst c
    simp only [if_true]
    exact fun z => atKey_del_same _
  · simp only [if_neg c]
    have := h2 y hy
    cases hm : m y with
    | none => rw [hm] at this; exact fun z => (atKey_del_other (litNe c) _).trans (this z)
    | some a' => rw [hm] at this; exact fun z => (atKey_del_other (litNe c) _).trans (this z)
end
end Go.Proofs.YtmfabpkliogjlaaWin
end
section
namespace Go.Proofs.YtmfabpkliogjlaaWin
open Go.RowKit Go.Maps
set_option linter.unusedSimpArgs false
set_option linter.unusedVariables false
def EI : ElemK Int where
  R v := match v with
    | .agg cs => match cs.toList with
      | [.int .i64 a] => some (.lit (.int .i64 a), [])
      | _ => none
    | _ => none
  val a := .agg #[.int .i64 a]
  dat a := .lit (.int .i64 a)
  put a := rfl
  inv {v a ps} h := by
    cases v <;> simp at h
    rename_i cs
    cases cs with | mk l =>
    split at h
    · rename_i h'
      simp at h h'
      subst h'
      rw [h.1]
    · cases h
def WinAt (W : World) (p b : Nat) (nx sz : Int) (m : Int → Option Int) (n : Nat) : Prop :=
  W.heap[p]? = some (.cells #[.int .i64 nx, .int .i64 sz, .map (some b)] 73 (0, 0)) ∧ MapIs Try.prog EI W b m n
section
variable {W W' : World} {p b : Nat} {nx sz : Int} {m : Int → Option Int} {n : Nat}
theorem WinAt.c0 (h : WinAt W p b nx sz m n) : W.cell? ⟨p, 0, none⟩ = some (.int .i64 nx) := by simp [World.cell?, h.1]
theorem WinAt.c1 (h : WinAt W p b nx sz m n) : W.cell? ⟨p, 1, none⟩ = some (.int .i64 sz) := by simp [World.cell?, h.1]
theorem WinAt.c2 (h : WinAt W p b nx sz m n) : W.cell? ⟨p, 2, none⟩ = some (.map (some b)) := by simp [World.cell?, h.1]
theorem WinAt.f0 (h : WinAt W p b nx sz m n) : W.frozen? ⟨p, 0, none⟩ = false := by simp [World.frozen?, h.1]
theorem WinAt.lt (h : WinAt W p b nx sz m n) : p < W.heap.size := (Array.getElem?_eq_some_iff.1 h.1).1
theorem WinAt.ne (h : WinAt W p b nx sz m n) : p ≠ b := by
  rintro rfl
  obtain ⟨es, clock, he⟩ := h.2.isMap
  rw [h.1] at he
  cases he
theorem WinAt.only {K : Nat → Prop} (h : WinAt W p b nx sz m n) (hk : Only K W W') (h1 : ¬ K p) (h2 : ¬ K b) : WinAt W' p b nx sz m n :=
  ⟨(hk.block p h.lt h1).trans h.1, h.2.block (hk.block b h.2.lt h2)⟩
theorem WinAt.below (h : WinAt W p b nx sz m n) (hk : Below W.heap.size W W') : WinAt W' p b nx sz m n := h.only (K := fun _ => False) (Only.of_below hk) (fun h => h) (fun h => h)
theorem WinAt.mono (h : WinAt W p b nx sz m n) {n' : Nat} (hn : n ≤ n') : WinAt W p b nx sz m n' := ⟨h.1, h.2.mono hn⟩
theorem WinAt.turn {m' : Int → Option Int} {n' : Nat} (h : WinAt W p b nx sz m n) (ht : W.mapTurned W' b) (hm : MapIs Try.prog EI W' b m' n') : WinAt W' p b nx sz m' n' :=
  ⟨((Only.turned (K := fun k => k = b) ht rfl).block p h.lt h.ne).trans h.1, hm⟩
theorem WinAt.set (h : WinAt W p b nx sz m n) (y : Int) : WinAt (W.setCell ⟨p, 0, none⟩ (.int .i64 y)) p b y sz m n := by
  refine ⟨?_, h.2.block (Below.heap_setCell _ _ _ _ h.ne.symm)⟩
  have hp := h.1
  have hlt := h.lt
  simp only [World.setCell]
  rw [Array.getElem?_modify, if_pos rfl, hp]
  rfl
end
abbrev Fits (x : Int) : Prop := (Lit.int .i64 x).wf = true
theorem wf64 {x : Int} (h : Fits x) : -9223372036854775808 ≤ x ∧ x ≤ 9223372036854775807 := by
  have h' : (Lit.int .i64 x).wf = true := h
  simp [Lit.wf, IntKind.min, IntKind.max, IntKind.signed, IntKind.bits] at h'
  omega
set_option maxRecDepth 100000 in
set_option maxHeartbeats 4000000 in
theorem New_calls (nx sz : Int) (w : World) : Calls Try.prog 12 #[.int .i64 nx, .int .i64 sz] w fun e w' =>
    if nx < 0 ∨ nx > 1048576 ∨ sz < 1 ∨ sz > 1048576 then e = .returned (.tuple #[.pointer none, .int .i64 2]) ∧ Below w.heap.size w w'
    else e = .returned (.tuple #[.pointer (some ⟨w.heap.size + 1, 0, none⟩), .int .i64 0]) ∧ WinAt w' (w.heap.size + 1) w.heap.size nx sz (fun _ => none) 0 ∧ Below w.heap.size w w' := by
  have hmm := @run_makeMap Try.prog
  by_cases c1 : nx < 0
  · simp only [if_pos (Or.inl c1 : nx < 0 ∨ nx > 1048576 ∨ sz < 1 ∨ sz > 1048576)]
    go_enter Try.func12, Try.ntmps12
    go_wp2
    go_ret2
    exact ⟨rfl, Below.refl _ _⟩
  by_cases c2 : nx > 1048576
  · simp only [if_pos (Or.inr (Or.inl c2) : nx < 0 ∨ nx > 1048576 ∨ sz < 1 ∨ sz > 1048576)]
    go_enter Try.func12, Try.ntmps12
    go_wp2
    go_ret2
    exact ⟨rfl, Below.refl _ _⟩
  by_cases c3 : sz < 1
  · simp only [if_pos (Or.inr (Or.inr (Or.inl c3)) : nx < 0 ∨ nx > 1048576 ∨ sz < 1 ∨ sz > 1048576)]
    go_enter Try.func12, Try.ntmps12
    go_wp2
    go_ret2
    exact ⟨rfl, Below.refl _ _⟩
  by_cases c4 : sz > 1048576
  · simp only [if_pos (Or.inr (Or.inr (Or.inr c4)) : nx < 0 ∨ nx > 1048576 ∨ sz < 1 ∨ sz > 1048576)]
    go_enter Try.func12, Try.ntmps12
    go_wp2
    go_ret2
    exact ⟨rfl, Below.refl _ _⟩
  simp only [if_neg (fun h => by omega : ¬ (nx < 0 ∨ nx > 1048576 ∨ sz < 1 ∨ sz > 1048576))]
  have hM := MapIs.made (P := Try.prog) (E := EI) w
  have hb := ((Below.refl w.heap.size w).alloc (Nat.le_refl _) (.map #[] 0)).alloc (by simp) (.cells #[.int .i64 nx, .int .i64 sz, .map (some w.heap.size)] 73)
  have h1 := World.alloc_heap_new (w.alloc (.map #[] 0)) (.cells #[.int .i64 nx, .int .i64 sz, .map (some w.heap.size)] 73)
  rw [World.size_alloc] at h1
  go_enter Try.func12, Try.ntmps12
  go_wp2
  go_ret2
  exact ⟨rfl, ⟨h1, hM.block (Below.heap_alloc _ _ _ (by simp))⟩, hb⟩
set_option maxRecDepth 100000 in
set_option maxHeartbeats 4000000 in
theorem Next_calls {p b n : Nat} {nx sz : Int} {m : Int → Option Int} (w : World) (h : WinAt w p b nx sz m n) : Calls Try.prog 15 #[.pointer (some ⟨p, 0, none⟩)] w fun e w' => e = .returned (.int .i64 nx) ∧ Only (fun _ => False) w w' := by
  have c0 := h.c0
  go_enter Try.func15, Try.ntmps15
  go_wp2
  go_ret
  exact ⟨rfl, Only.refl _ _⟩
theorem look_some {W : World} {p b n : Nat} {nx sz : Int} {m : Int → Option Int} (h : WinAt W p b nx sz m n) {x a : Int} (hf : Fits x) (hm : m x = some a) :
    (Instr.lookup 71 (.map (some b)) (.int .i64 x) true).run Try.prog W = .ok (.tuple #[.agg #[.int .i64 a], .bool true]) W := by
  have := h.2.look Try.underlying3 Try.underlying71 (z := (0 : Int)) (Try.zeroValue75 W) hf
  rw [hm] at this
  exact this
theorem look_none {W : World} {p b n : Nat} {nx sz : Int} {m : Int → Option Int} (h : WinAt W p b nx sz m n) {x : Int} (hf : Fits x) (hm : m x = none) :
    (Instr.lookup 71 (.map (some b)) (.int .i64 x) true).run Try.prog W = .ok (.tuple #[.agg #[.int .i64 0], .bool false]) W := by
  have := h.2.look Try.underlying3 Try.underlying71 (z := (0 : Int)) (Try.zeroValue75 W) hf
  rw [hm] at this
  exact this
set_option maxRecDepth 100000 in
set_option maxHeartbeats 4000000 in
theorem Peek_calls {p b n : Nat} {nx sz : Int} {m : Int → Option Int} (w : World) (h : WinAt w p b nx sz m n) (hf : Fits nx) : Calls Try.prog 17 #[.pointer (some ⟨p, 0, none⟩)] w fun e w' =>
    e = .returned (.tuple #[.int .i64 ((m nx).getD 0), .int .i64 (if (m nx).isSome then 0 else 15)]) ∧ Only (fun _ => False) w w' := by
  have c0 := h.c0
  have c2 := h.c2
  cases hm : m nx with
  | none =>
    have h2 : WinAt (w.alloc (.cells #[.int .i64 0] 75)).drew p b nx sz m n := h.below (((Below.refl _ w).alloc (Nat.le_refl _) _).drew)
    have h3 : WinAt w.drew p b nx sz m n := h.below (Below.refl _ w).drew
    have d0 := h2.c0
    have d2 := h2.c2
    have e0 := h3.c0
    have e2 := h3.c2
    have hl := look_none h hf hm
    have hl2 := look_none h2 hf hm
    have hl3 := look_none h3 hf hm
    clear h h2 h3 hf hm
    simp only [Option.isSome_none, Option.isSome_some, Bool.false_eq_true, if_false, if_true, Option.getD_none, Option.getD_some]
    go_enter Try.func17, Try.ntmps17
    go_wp2
    go_region
    all_goals go_wp2
    all_goals go_ret2
    all_goals exact ⟨rfl, (Only.alloc _ _ _).drew⟩
  | some a =>
    have h2 : WinAt (w.alloc (.cells #[.int .i64 0] 75)).drew p b nx sz m n := h.below (((Below.refl _ w).alloc (Nat.le_refl _) _).drew)
    have h3 : WinAt w.drew p b nx sz m n := h.below (Below.refl _ w).drew
    have d0 := h2.c0
    have d2 := h2.c2
    have e0 := h3.c0
    have e2 := h3.c2
    have hl := look_some h hf hm
    have hl2 := look_some h2 hf hm
    have hl3 := look_some h3 hf hm
    clear h h2 h3 hf hm
    simp only [Option.isSome_none, Option.isSome_some, Bool.false_eq_true, if_false, if_true, Option.getD_none, Option.getD_some]
    go_enter Try.func17, Try.ntmps17
    go_wp2
    go_region
    all_goals go_wp2
    all_goals go_ret2
    all_goals exact ⟨rfl, (Only.alloc _ _ _).drew⟩
set_option maxRecDepth 100000 in
set_option maxHeartbeats 4000000 in
theorem Drop_calls {p b n : Nat} {nx sz : Int} {m : Int → Option Int} (w : World) (h : WinAt w p b nx sz m n) (x : Int) (hf : Fits x) : Calls Try.prog 30 #[.pointer (some ⟨p, 0, none⟩), .int .i64 x] w fun e w' =>
    e = .returned (.int .i64 (if (m x).isSome then 0 else 15)) ∧ WinAt w' p b nx sz (fun y => if y = x then none else m y) n ∧ Only (fun k => k = b) w w' := by
  have c2 := h.c2
  cases hm : m x with
  | none =>
    have hl := look_none h hf hm
    simp only [Option.isSome_none, Bool.false_eq_true, if_false]
    go_enter Try.func30, Try.ntmps30
    go_wp2
    go_ret
    have e1 : (fun y => if y = x then none else m y) = m := by
      funext y
      by_cases c : y = x
      · rw [if_pos c, c, hm]
      · rw [if_neg c]
    refine ⟨rfl, ?_, Only.alloc _ _ _⟩
    rw [e1]
    exact h.below ((Below.refl _ w).alloc (Nat.le_refl _) _)
  | some a =>
    have hl := look_some h hf hm
    simp only [Option.isSome_some, if_true]
    have h2 := h.below ((Below.refl _ w).alloc (Nat.le_refl _) (.cells #[.int .i64 a] 75))
    have c3 := h2.c2
    obtain ⟨W', hrun, hM, ht⟩ := h2.2.drop Try.underlying3 Try.underlying71 0 hf
    go_enter Try.func30, Try.ntmps30
    go_wp2
    go_ret
    exact ⟨rfl, h2.turn ht hM, (Only.alloc _ _ _).trans (Only.turned ht rfl)⟩
set_option maxRecDepth 100000 in
set_option maxHeartbeats 4000000 in
theorem Pass_calls {p b n : Nat} {nx sz : Int} {m : Int → Option Int} (w : World) (h : WinAt w p b nx sz m n) (hf : Fits nx) (hlt : nx < 9223372036854775807) : Calls Try.prog 33 #[.pointer (some ⟨p, 0, none⟩)] w fun e w' =>
    e = .returned (.int .i64 (if (m nx).isSome then 0 else 15)) ∧ WinAt w' p b (if (m nx).isSome then nx + 1 else nx) sz (fun y => if y = nx then none else m y) n ∧ Only (fun k => k = b ∨ k = p) w w' := by
  have c0 := h.c0
  cases hm : m nx with
  | none =>
    have hd := Drop_calls w h nx hf
    rw [hm] at hd
    simp only [Option.isSome_none, Bool.false_eq_true, if_false] at hd ⊢
    go_enter Try.func33, Try.ntmps33
    go_wp2_with (go_at_call 30; refine hd.mono ?_; rintro e w' ⟨rfl, h2, ho⟩)
    go_ret
    exact ⟨rfl, h2, ho.mono (fun i hi => Or.inl hi)⟩
  | some a =>
    have hd := Drop_calls w h nx hf
    rw [hm] at hd
    simp only [Option.isSome_some, if_true] at hd ⊢
    go_enter Try.func33, Try.ntmps33
    go_wp2_with (go_at_call 30; refine hd.mono ?_; rintro e w' ⟨rfl, h2, ho⟩; have d0 := h2.c0; have df := h2.f0)
    go_ret
    have hw : wrap64 (nx + 1) = nx + 1 := IntWalk.wrap64_in _ ⟨by have := (wf64 hf).1; omega, by omega⟩
    rw [hw]
    exact ⟨rfl, h2.set _, (ho.mono (fun i hi => Or.inl hi)).trans (Only.setCell _ _ _ _ (Or.inr rfl))⟩
def putE (nx sz : Int) (m : Int → Option Int) (x : Int) : Int := if x < nx then 130 else if x - nx ≥ sz then 132 else if (m x).isSome then 131 else 0
set_option maxRecDepth 100000 in
set_option maxHeartbeats 4000000 in
theorem Put_calls {p b n : Nat} {nx sz : Int} {m : Int → Option Int} (w : World) (h : WinAt w p b nx sz m n) (hn0 : 0 ≤ nx) (hn : n < maxLen) (x v : Int) (hf : Fits x) : Calls Try.prog 13 #[.pointer (some ⟨p, 0, none⟩), .int .i64 x, .int .i64 v] w fun e w' =>
    e = .returned (.int .i64 (putE nx sz m x)) ∧ WinAt w' p b nx sz (if putE nx sz m x = 0 then fun y => if y = x then some v else m y else m) (n + 1) ∧ Only (fun k => k = b) w w' := by
  have c0 := h.c0
  have c1 := h.c1
  have c2 := h.c2
  unfold putE
  by_cases q1 : x < nx
  · simp only [if_pos q1, show ¬ ((130 : Int) = 0) from by decide, if_false]
    go_enter Try.func13, Try.ntmps13
    go_wp2
    go_ret
    exact ⟨rfl, h.mono (Nat.le_succ _), Only.refl _ _⟩
  simp only [if_neg q1]
  have hx := wf64 hf
  have hw : wrap64 (x - nx) = x - nx := IntWalk.wrap64_in _ ⟨by omega, by omega⟩
  have h3 : WinAt w.drew p b nx sz m n := h.below (Below.refl _ w).drew
  have e0 := h3.c0
  have e1 := h3.c1
  have e2 := h3.c2
  by_cases q2 : x - nx ≥ sz
  · simp only [if_pos q2, show ¬ ((132 : Int) = 0) from by decide, if_false]
    go_enter Try.func13, Try.ntmps13
    go_wp2
    go_region
    all_goals go_wp2
    all_goals go_ret
    all_goals exact ⟨rfl, h3.mono (Nat.le_succ _), (Only.refl _ _).drew⟩
  simp only [if_neg q2]
  cases hm : m x with
  | some a =>
    have hl := look_some h3 hf hm
    simp only [Option.isSome_some, if_true, show ¬ ((131 : Int) = 0) from by decide, if_false]
    go_enter Try.func13, Try.ntmps13
    go_wp2
    go_region
    all_goals go_wp2
    all_goals go_ret
    all_goals exact ⟨rfl, (h.below ((Below.refl _ w).alloc (Nat.le_refl _) _).drew).mono (Nat.le_succ _), (Only.alloc _ _ _).drew⟩
  | none =>
    have hl := look_none h3 hf hm
    have h2 := h.below ((Below.refl _ w).alloc (Nat.le_refl _) (.cells #[.int .i64 0] 75)).drew
    have d2 := h2.c2
    obtain ⟨W', hrun, hM, ht⟩ := h2.2.store Try.underlying3 Try.underlying71 hn hf v
    rw [show EI.val v = .agg #[.int .i64 v] from rfl] at hrun
    simp only [Option.isSome_none, Bool.false_eq_true, if_false, if_true]
    go_enter Try.func13, Try.ntmps13
    go_wp2
    go_region
    all_goals go_wp2
    all_goals go_ret
    all_goals exact ⟨rfl, h2.turn ht hM, (Only.alloc _ _ _).drew.trans (Only.turned ht rfl)⟩
end Go.Proofs.YtmfabpkliogjlaaWin
end
section
namespace Go.Proofs.YtmfabpkliogjlaaWin
open Go.RowKit Go.Maps Go.Shelf
set_option linter.unusedSimpArgs false
set_option linter.unusedVariables false
attribute [local go_sem] Oper.semAt_some
structure WS where
  nx : Int
  m : Int → Option Int
  n : Nat
def WS.passed (s : WS) : WS := ⟨s.nx + 1, fun y => if y = s.nx then none else s.m y, s.n⟩
abbrev WinS (W : World) (p b : Nat) (sz : Int) (s : WS) : Prop := WinAt W p b s.nx sz s.m s.n
def ReadyStops (n p b : Nat) (sz B : Int) (lb : Array Value) : Prop :=
  ∀ (l : Nat) (J : WS → World → Prop) (Jx : World → Prop) (s0 : WS) (W0 : World),
    (∀ s W, J s W → WinS W p b sz s ∧ Fits s.nx ∧ B < 4611686018427387904 ∧ ((s.m s.nx).isSome → s.nx < B) ∧ ∀ v, lb = #[.pointer (some ⟨v, 0, none⟩)] → W.cell? ⟨v, 0, none⟩ = some (.pointer (some ⟨p, 0, none⟩))) →
    (∀ s W W', J s W → Only (fun _ => False) W W' → J s W') →
    (∀ s W a W', J s W → s.m s.nx = some a → Only (fun k => k = b ∨ k = p) W W' → WinS W' p b sz s.passed → YieldAt Fence.wide (n - 1) Try.prog l #[.int .i64 s.nx, .int .i64 a] W' fun e W'' =>
      (e = .returned (.bool true) ∧ ∃ s', s.nx < s'.nx ∧ J s' W'') ∨ (e = .returned (.bool false) ∧ Jx W'')) →
    J s0 W0 →
    CallsIn Fence.wide n Try.prog 32 (#[.func (.yield l) #[] #[]] ++ lb) W0 fun e W' => (∃ v, e = .returned v) ∧ ((∃ s, J s W' ∧ s.m s.nx = none) ∨ Jx W')
def leftTo (B : Int) (p : Nat) (W : World) : Nat := (B - intOf ((W.cell? ⟨p, 0, none⟩).getD undef)).toNat
theorem leftTo_eq {B : Int} {W : World} {p b : Nat} {sz : Int} {s : WS} (h : WinS W p b sz s) : leftTo B p W = (B - s.nx).toNat := by
  unfold leftTo
  rw [h.c0]
  rfl
theorem cell_lt {W : World} {v j : Nat} {x : Value} (h : W.cell? ⟨v, j, none⟩ = some x) : v < W.heap.size := by
  by_cases c : v < W.heap.size
  · exact c
  · simp [World.cell?, Array.getElem?_eq_none (Nat.le_of_not_lt c)] at h
set_option maxRecDepth 100000 in
set_option maxHeartbeats 4000000 in
theorem ready1_stops (n p b v : Nat) (sz B : Int) (hn : 1 ≤ n) : ReadyStops n p b sz B #[.pointer (some ⟨v, 0, none⟩)] := by
  intro l J Jx s0 W0 hJ hJo hY h0
  refine callsIn_of_wp Try.func32 rfl trivial ?_ rfl
  simp only [Try.ntmps32, List.size_toArray, List.length_cons, List.length_nil, Nat.reduceAdd, Nat.reduceSub, Array.replicate_succ, Array.replicate_zero, List.push_toArray, List.append_toArray, List.nil_append, List.cons_append]
  gi_wp2
  gi_loopw [3] (fun x wr => ∃ s, J s wr) (fun x wr => leftTo B p wr)
  case atStart => exact ⟨s0, h0⟩
  case round =>
    obtain ⟨s, hs⟩ := hrel
    obtain ⟨w1, rfl⟩ : ∃ w1, w1 = wr := ⟨wr, rfl⟩
    obtain ⟨hW, hf, hB, hlt, hv⟩ := hJ s w1 hs
    have hv := hv v rfl
    have c0 := hW.c0
    cases hm : s.m s.nx with
    | none =>
      gi_wp2_with (refine ⟨trivial, ?_⟩; gi_at_call 17; refine (callsIn_wide.2 (Peek_calls _ hW hf)).mono ?_; rintro e w2 ⟨rfl, ho⟩; rw [hm])
      refine bodyPost_ret (results_none rfl _ _ _) rfl ?_
      exact ⟨⟨_, rfl⟩, .inl ⟨s, hJo s _ _ hs ho, hm⟩⟩
    | some a =>
      have hlt' := hlt (by rw [hm]; rfl)
      gi_wp2_with (first | (refine ⟨trivial, ?_⟩; gi_at_call 17; refine (callsIn_wide.2 (Peek_calls _ hW hf)).mono ?_; rintro e w2 ⟨rfl, ho⟩; rw [hm]; have hW2 := hW.only ho (fun h => h) (fun h => h); have hv2 := (ho.below (n := w1.heap.size) (Nat.le_refl _) (fun _ h => h.elim)).cell (p := ⟨v, 0, none⟩) (cell_lt hv); rw [hv] at hv2) | (refine ⟨trivial, ?_⟩; gi_at_call 33; refine (callsIn_wide.2 (Pass_calls _ hW2 hf (by omega))).mono ?_; rintro e w3 ⟨rfl, hW3, ho3⟩; rw [hm] at hW3; obtain ⟨fn, tmps, assign, body, hy, hR⟩ := hY s w1 a w3 hs hm ((ho.mono (fun _ h => h.elim)).trans ho3) hW3))
      refine hR.mono ?_
      rintro e w4 (⟨rfl, s', hlt4, hJ4⟩ | ⟨rfl, hx4⟩)
      · gi_wp2
        refine ⟨⟨s', hJ4⟩, ?_⟩
        rw [leftTo_eq (hJ s' w4 hJ4).1, leftTo_eq hW]
        omega
      · gi_wp2
        refine bodyPost_ret (results_none rfl _ _ _) rfl ?_
        exact ⟨⟨_, rfl⟩, .inr hx4⟩
end Go.Proofs.YtmfabpkliogjlaaWin
end
section
namespace Go.Proofs.YtmfabpkliogjlaaWin
open Go.RowKit Go.Maps Go.Shelf
set_option linter.unusedSimpArgs false
set_option linter.unusedVariables false
def winPost (B : Nat) (I : WS → World → Prop) (Ix : Code → World → Prop) (s : WS) (W : World) : Exit → Act → World → Prop
  | .normal, _, W' => KeepsFrom B W W' ∧ ∃ s', s.nx < s'.nx ∧ I s' W'
  | .ret, _, W' => KeepsFrom B W W' ∧ Ix .ret W'
  | .exit id, _, W' => KeepsFrom B W W' ∧ Ix (.exit id) W'
  | .goto t, _, W' => KeepsFrom B W W' ∧ Ix (.goto t) W'
  | _, _, _ => False
def WinI (p b : Nat) (sz B : Int) (lb : Array Value) (I : WS → World → Prop) : Prop :=
  ∀ s W, I s W → WinS W p b sz s ∧ Fits s.nx ∧ B < 4611686018427387904 ∧ ((s.m s.nx).isSome → s.nx < B) ∧ ∀ v, lb = #[.pointer (some ⟨v, 0, none⟩)] → W.cell? ⟨v, 0, none⟩ = some (.pointer (some ⟨p, 0, none⟩))
theorem own_only {n : Nat} {I : WS → World → Prop} (h : OwnFrom n I) {s : WS} {W W' : World} (hs : I s W) (ho : Only (fun _ => False) W W') : I s W' :=
  h s W W' none hs ⟨ho.os, ho.tape, ho.output, ho.size, fun k hk _ => ho.block k hk (fun h => h)⟩ (fun r e => by cases e)
section
variable {n p b : Nat} {sz B : Int} {w : World}
theorem wpIn_rangeReady {g : Operand} {ps : Array Tmp} {assign body : Code} {Q : Exit → Act → World → Prop} {a : Act}
    (h1 : 1 ≤ n) {lb : Array Value} (hg : a.eval g = .func (.func 32) #[] lb) (hseq : ReadyStops (n - 1) p b sz B lb) (hps : ps.size = 2) (hp : p < w.heap.size) (hb : b < w.heap.size)
    (I : WS → World → Prop) (Ia : WS → Int → World → Prop) (Ix : Code → World → Prop) (hI : OwnFrom w.heap.size I) (hIa : ∀ x, OwnFrom w.heap.size (fun s W => Ia s x W)) (hIx : OwnFrom w.heap.size Ix)
    (hW : WinI p b sz B lb I)
    (hstep : ∀ s W x W', I s W → s.m s.nx = some x → Only (fun k => k = b ∨ k = p) W W' → WinS W' p b sz s.passed → Ia s x W')
    {s0 : WS} (h0 : I s0 w) (a₁ : Int → Int → Act)
    (hassign : ∀ (l : Nat) (x y : Int) (W : World) (K : Act → World → Prop), K (a₁ x y) W →
      assign.wpIn (Fence.wide.inRound l) (n - 1 - 1) Try.prog (Exit.then K (fun _ _ _ => False)) { tmps := (ps.zip #[Value.int .i64 x, Value.int .i64 y]).foldl (fun t (p, v) => t.setIfInBounds p v) a.tmps, defers := [] } W)
    (hbody : ∀ (l : Nat) (s : WS) (x : Int) (W : World), w.heap.size ≤ l → (∃ r, W.heap[l]? = some (.loop r)) → Ia s x W → body.wpIn (Fence.wide.inRound l) (n - 1 - 1) Try.prog (winPost w.heap.size I Ix s W) (a₁ s.nx x) W)
    (hdone : ∀ (D : Nat) (s : WS) (W : World), w.heap.size ≤ D → I s W → s.m s.nx = none → W.heap[D]? = some (.deferred (some [])) → Q .normal { a with defers := { target := .collected D, args := #[] } :: a.defers } W)
    (hstop : ∀ (D : Nat) (c : Code) (W : World), w.heap.size ≤ D → Ix c W → W.heap[D]? = some (.deferred (some [])) → c.wpIn Fence.wide n Try.prog Q { a with defers := { target := .collected D, args := #[] } :: a.defers } W) :
    (Code.rangeFunc g ps assign body).wpIn Fence.wide n Try.prog Q a w := by
  have eg := enters_of Try.func32 (by kernel_rfl) rfl
  refine wpIn_rangeFunc ?_
  intro fn hfn
  rw [show Fence.wide.round = none from rfl]
  obtain ⟨rec, hrec⟩ : ∃ rec : LoopState → Option Code → Loop, rec = fun st pe => { state := st, pending := pe, fn, tmps := a.tmps, params := ps, assign, body, defers := w.heap.size } := ⟨_, rfl⟩
  obtain ⟨W1, hW1⟩ : ∃ W1, (w.alloc (.deferred (some []))).alloc (.loop (rec .ready none)) = W1 := ⟨_, rfl⟩
  have hL1 : W1.heap[w.heap.size + 1]? = some (.loop (rec .ready none)) := by
    rw [← hW1]; have := World.alloc_heap_new (w.alloc (.deferred (some []))) (.loop (rec .ready none)); rwa [World.size_alloc] at this
  have hK1 : W1.heap[w.heap.size]? = some (.deferred (some [])) := by
    rw [← hW1]; exact (Below.heap_alloc _ _ _ (by simp)).trans (World.alloc_heap_new w _)
  have hI1 : I s0 W1 := by rw [← hW1]; exact hI.alloc _ (hI.alloc _ h0)
  refine ⟨w.heap.size + 1, [{ target := .collected w.heap.size, args := #[] }], W1, { target := .fn (.func 32) lb, args := #[.func (.yield (w.heap.size + 1)) #[] #[]] }, W1, 32,
    #[.func (.yield (w.heap.size + 1)) #[] #[]] ++ lb, W1, ?_, ?_, ?_, ?_, fun _ => h1, ?_⟩
  · rw [← hW1, hrec]; exact run_enterLoop_outer _ _ _ _ _
  · simp only [resolve, hg]
    simp [go_sem]
  · intro f' hf'; exact trivial
  · simp [invoke, go_sem, eg]
  · refine (hseq (w.heap.size + 1)
      (fun s W => I s W ∧ W.heap[w.heap.size + 1]? = some (.loop (rec .ready none)) ∧ W.heap[w.heap.size]? = some (.deferred (some [])))
      (fun W => ∃ c, Ix c W ∧ W.heap[w.heap.size + 1]? = some (.loop (rec .done (some c))) ∧ W.heap[w.heap.size]? = some (.deferred (some [])))
      s0 W1 (fun s W hs => hW s W hs.1)
      (fun s W W' hs ho => ⟨own_only hI hs.1 ho, (ho.block _ (Array.getElem?_eq_some_iff.1 hs.2.1).1 (fun h => h)).trans hs.2.1, (ho.block _ (Array.getElem?_eq_some_iff.1 hs.2.2).1 (fun h => h)).trans hs.2.2⟩)
      ?_ ⟨hI1, hL1, hK1⟩).mono ?_
    ·
      rintro s W0 x W ⟨hi0, hl0, hk0⟩ hm ho hWs
      have hl := (ho.block _ (Array.getElem?_eq_some_iff.1 hl0).1 (by omega)).trans hl0
      have hk := (ho.block _ (Array.getElem?_eq_some_iff.1 hk0).1 (by omega)).trans hk0
      have hi := hstep s W0 x W hi0 hm ho hWs
      clear hi0 hl0 hk0 ho
      have hlt : w.heap.size + 1 < W.heap.size := (Array.getElem?_eq_some_iff.1 hl).1
      have hy := run_yield (P := Try.prog) (args := #[Value.int .i64 s.nx, Value.int .i64 x]) hl (by rw [hrec]; exact hps.symm)
      rw [hrec] at hy
      refine ⟨fn, _, assign, body, hy, roundIn_of_wpIn hfn (hassign _ s.nx x W _ ⟨_, run_beginRound hl (by rw [hrec]), ?_⟩)⟩
      have hl2 : (W.putObj (w.heap.size + 1) (.loop { rec .ready none with state := .busy })).heap[w.heap.size + 1]? = some (.loop { rec .ready none with state := .busy }) := World.putObj_heap_same hlt
      have hk2 : (W.putObj (w.heap.size + 1) (.loop { rec .ready none with state := .busy })).heap[w.heap.size]? = some (.deferred (some [])) := (World.putObj_heap_other (by omega)).trans hk
      refine wpIn_mono (hbody _ s x _ (by omega) ⟨_, hl2⟩ ((hIa x).putObj _ hi (by omega) hl rfl)) ?_
      have fin : ∀ (jump : Option Code) (W3 : World), KeepsFrom w.heap.size (W.putObj (w.heap.size + 1) (.loop { rec .ready none with state := .busy })) W3 →
          (Instr.endRound (w.heap.size + 1) jump).run Try.prog W3 = .ok (.bool jump.isNone) (W3.putObj (w.heap.size + 1) (.loop (rec (if jump.isNone then .ready else .done) jump))) ∧
          W3.heap[w.heap.size + 1]? = some (.loop { rec .ready none with state := .busy }) ∧
          (W3.putObj (w.heap.size + 1) (.loop (rec (if jump.isNone then .ready else .done) jump))).heap[w.heap.size + 1]? = some (.loop (rec (if jump.isNone then .ready else .done) jump)) ∧
          (W3.putObj (w.heap.size + 1) (.loop (rec (if jump.isNone then .ready else .done) jump))).heap[w.heap.size]? = some (.deferred (some [])) := fun jump W3 hk3 => by
        have hl3 := hk3.same _ _ (by omega) hl2 rfl
        have := run_endRound (P := Try.prog) jump hl3
        rw [hrec] at this ⊢
        exact ⟨this, by rw [hrec] at hl3; exact hl3, World.putObj_heap_same (Array.getElem?_eq_some_iff.1 hl3).1, (World.putObj_heap_other (by omega)).trans (hk3.same _ _ (Nat.le_refl _) hk2 rfl)⟩
      rintro e a3 W3 hp
      cases e with
      | normal =>
        obtain ⟨hk3, s', hs', hi3⟩ := hp
        obtain ⟨hr, hl3, hl4, hk4⟩ := fin none W3 hk3
        exact ⟨_, _, hr, .inl ⟨rfl, s', hs', hI.putObj _ hi3 (by omega) hl3 rfl, hl4, hk4⟩⟩
      | ret =>
        obtain ⟨hk3, hi3⟩ := hp
        obtain ⟨hr, hl3, hl4, hk4⟩ := fin (some .ret) W3 hk3
        exact ⟨_, _, hr, .inr ⟨rfl, .ret, hIx.putObj _ hi3 (by omega) hl3 rfl, hl4, hk4⟩⟩
      | exit id =>
        obtain ⟨hk3, hi3⟩ := hp
        obtain ⟨hr, hl3, hl4, hk4⟩ := fin (some (.exit id)) W3 hk3
        exact ⟨_, _, hr, .inr ⟨rfl, .exit id, hIx.putObj _ hi3 (by omega) hl3 rfl, hl4, hk4⟩⟩
      | goto t =>
        obtain ⟨hk3, hi3⟩ := hp
        obtain ⟨hr, hl3, hl4, hk4⟩ := fin (some (.goto t)) W3 hk3
        exact ⟨_, _, hr, .inr ⟨rfl, .goto t, hIx.putObj _ hi3 (by omega) hl3 rfl, hl4, hk4⟩⟩
      | panic ch => exact hp.elim
      | outgrown => exact hp.elim
    ·
      rintro e W2 ⟨⟨v, rfl⟩, (⟨s, ⟨hi, hl, hk⟩, hm⟩ | ⟨c, hi, hl, hk⟩)⟩
      · exact ⟨none, _, by have := run_endLoop (P := Try.prog) hl (by rw [hrec]; simp); rw [hrec] at this; exact this, hdone _ s _ (Nat.le_refl _) (hI.putObj _ hi (by omega) hl rfl) hm ((World.putObj_heap_other (by omega)).trans hk)⟩
      · exact ⟨some c, _, by have := run_endLoop (P := Try.prog) hl (by rw [hrec]; simp); rw [hrec] at this; exact this, hstop _ c _ (Nat.le_refl _) (hIx.putObj _ hi (by omega) hl rfl) ((World.putObj_heap_other (by omega)).trans hk)⟩
theorem wpIn_rangeReadyN {g : Operand} {ps : Array Tmp} {assign body : Code} {Q : Exit → Act → World → Prop} {a : Act} {l₀ : Nat} {r₀ : Loop} (hl₀ : w.heap[l₀]? = some (.loop r₀))
    (h1 : 1 ≤ n) {lb : Array Value} (hg : a.eval g = .func (.func 32) #[] lb) (hseq : ReadyStops (n - 1) p b sz B lb) (hps : ps.size = 2) (hp : p < w.heap.size) (hb : b < w.heap.size)
    (I : WS → World → Prop) (Ia : WS → Int → World → Prop) (Ix : Code → World → Prop) (hI : OwnFrom w.heap.size I) (hIa : ∀ x, OwnFrom w.heap.size (fun s W => Ia s x W)) (hIx : OwnFrom w.heap.size Ix)
    (hW : WinI p b sz B lb I)
    (hstep : ∀ s W x W', I s W → s.m s.nx = some x → Only (fun k => k = b ∨ k = p) W W' → WinS W' p b sz s.passed → Ia s x W')
    {s0 : WS} (h0 : I s0 w) (a₁ : Int → Int → Act)
    (hassign : ∀ (l : Nat) (x y : Int) (W : World) (K : Act → World → Prop), K (a₁ x y) W →
      assign.wpIn ((Fence.wide.inRound l₀).inRound l) (n - 1 - 1) Try.prog (Exit.then K (fun _ _ _ => False)) { tmps := (ps.zip #[Value.int .i64 x, Value.int .i64 y]).foldl (fun t (p, v) => t.setIfInBounds p v) a.tmps, defers := [] } W)
    (hbody : ∀ (l : Nat) (s : WS) (x : Int) (W : World), w.heap.size ≤ l → (∃ r, W.heap[l]? = some (.loop r)) → Ia s x W → body.wpIn ((Fence.wide.inRound l₀).inRound l) (n - 1 - 1) Try.prog (winPost w.heap.size I Ix s W) (a₁ s.nx x) W)
    (hdone : ∀ (s : WS) (W : World), I s W → s.m s.nx = none → Q .normal a W)
    (hstop : ∀ (c : Code) (W : World), Ix c W → c.wpIn (Fence.wide.inRound l₀) n Try.prog Q a W) :
    (Code.rangeFunc g ps assign body).wpIn (Fence.wide.inRound l₀) n Try.prog Q a w := by
  have eg := enters_of Try.func32 (by kernel_rfl) rfl
  refine wpIn_rangeFunc ?_
  intro fn hfn
  rw [show (Fence.wide.inRound l₀).round = some l₀ from rfl]
  obtain ⟨rec, hrec⟩ : ∃ rec : LoopState → Option Code → Loop, rec = fun st pe => { state := st, pending := pe, fn, tmps := a.tmps, params := ps, assign, body, defers := r₀.defers } := ⟨_, rfl⟩
  obtain ⟨W1, hW1⟩ : ∃ W1, w.alloc (.loop (rec .ready none)) = W1 := ⟨_, rfl⟩
  have hL1 : W1.heap[w.heap.size]? = some (.loop (rec .ready none)) := by rw [← hW1]; exact World.alloc_heap_new w _
  have hI1 : I s0 W1 := by rw [← hW1]; exact hI.alloc _ h0
  refine ⟨w.heap.size, [], W1, { target := .fn (.func 32) lb, args := #[.func (.yield w.heap.size) #[] #[]] }, W1, 32,
    #[.func (.yield w.heap.size) #[] #[]] ++ lb, W1, ?_, ?_, ?_, ?_, fun _ => h1, ?_⟩
  · rw [← hW1, hrec]; exact run_enterLoop_inner hl₀ _ _ _ _ _
  · simp only [resolve, hg]
    simp [go_sem]
  · intro f' hf'; exact trivial
  · simp [invoke, go_sem, eg]
  · refine (CallsIn.inRound l₀ (hseq w.heap.size
      (fun s W => I s W ∧ W.heap[w.heap.size]? = some (.loop (rec .ready none)))
      (fun W => ∃ c, Ix c W ∧ W.heap[w.heap.size]? = some (.loop (rec .done (some c))))
      s0 W1 (fun s W hs => hW s W hs.1)
      (fun s W W' hs ho => ⟨own_only hI hs.1 ho, (ho.block _ (Array.getElem?_eq_some_iff.1 hs.2).1 (fun h => h)).trans hs.2⟩)
      ?_ ⟨hI1, hL1⟩)).mono ?_
    ·
      rintro s W0 x W ⟨hi0, hl0⟩ hm ho hWs
      have hl := (ho.block _ (Array.getElem?_eq_some_iff.1 hl0).1 (by omega)).trans hl0
      have hi := hstep s W0 x W hi0 hm ho hWs
      clear hi0 hl0 ho
      have hlt : w.heap.size < W.heap.size := (Array.getElem?_eq_some_iff.1 hl).1
      have hy := run_yield (P := Try.prog) (args := #[Value.int .i64 s.nx, Value.int .i64 x]) hl (by rw [hrec]; exact hps.symm)
      rw [hrec] at hy
      refine ⟨fn, _, assign, body, hy, roundIn_of_wpIn hfn (hassign _ s.nx x W _ ⟨_, run_beginRound hl (by rw [hrec]), ?_⟩)⟩
      have hl2 : (W.putObj w.heap.size (.loop { rec .ready none with state := .busy })).heap[w.heap.size]? = some (.loop { rec .ready none with state := .busy }) := World.putObj_heap_same hlt
      refine wpIn_mono (hbody _ s x _ (Nat.le_refl _) ⟨_, hl2⟩ ((hIa x).putObj _ hi (Nat.le_refl _) hl rfl)) ?_
      have fin : ∀ (jump : Option Code) (W3 : World), KeepsFrom w.heap.size (W.putObj w.heap.size (.loop { rec .ready none with state := .busy })) W3 →
          (Instr.endRound w.heap.size jump).run Try.prog W3 = .ok (.bool jump.isNone) (W3.putObj w.heap.size (.loop (rec (if jump.isNone then .ready else .done) jump))) ∧
          W3.heap[w.heap.size]? = some (.loop { rec .ready none with state := .busy }) ∧
          (W3.putObj w.heap.size (.loop (rec (if jump.isNone then .ready else .done) jump))).heap[w.heap.size]? = some (.loop (rec (if jump.isNone then .ready else .done) jump)) := fun jump W3 hk3 => by
        have hl3 := hk3.same _ _ (Nat.le_refl _) hl2 rfl
        have := run_endRound (P := Try.prog) jump hl3
        rw [hrec] at this ⊢
        exact ⟨this, by rw [hrec] at hl3; exact hl3, World.putObj_heap_same (Array.getElem?_eq_some_iff.1 hl3).1⟩
      rintro e a3 W3 hp
      cases e with
      | normal =>
        obtain ⟨hk3, s', hs', hi3⟩ := hp
        obtain ⟨hr, hl3, hl4⟩ := fin none W3 hk3
        exact ⟨_, _, hr, .inl ⟨rfl, s', hs', hI.putObj _ hi3 (Nat.le_refl _) hl3 rfl, hl4⟩⟩
      | ret =>
        obtain ⟨hk3, hi3⟩ := hp
        obtain ⟨hr, hl3, hl4⟩ := fin (some .ret) W3 hk3
        exact ⟨_, _, hr, .inr ⟨rfl, .ret, hIx.putObj _ hi3 (Nat.le_refl _) hl3 rfl, hl4⟩⟩
      | exit id =>
        obtain ⟨hk3, hi3⟩ := hp
        obtain ⟨hr, hl3, hl4⟩ := fin (some (.exit id)) W3 hk3
        exact ⟨_, _, hr, .inr ⟨rfl, .exit id, hIx.putObj _ hi3 (Nat.le_refl _) hl3 rfl, hl4⟩⟩
      | goto t =>
        obtain ⟨hk3, hi3⟩ := hp
        obtain ⟨hr, hl3, hl4⟩ := fin (some (.goto t)) W3 hk3
        exact ⟨_, _, hr, .inr ⟨rfl, .goto t, hIx.putObj _ hi3 (Nat.le_refl _) hl3 rfl, hl4⟩⟩
      | panic ch => exact hp.elim
      | outgrown => exact hp.elim
    ·
      rintro e W2 ⟨⟨v, rfl⟩, (⟨s, ⟨hi, hl⟩, hm⟩ | ⟨c, hi, hl⟩)⟩
      · exact ⟨none, _, by have := run_endLoop (P := Try.prog) hl (by rw [hrec]; simp); rw [hrec] at this; exact this, hdone s _ (hI.putObj _ hi (Nat.le_refl _) hl rfl) hm⟩
      · exact ⟨some c, _, by have := run_endLoop (P := Try.prog) hl (by rw [hrec]; simp); rw [hrec] at this; exact this, hstop c _ (hIx.putObj _ hi (Nat.le_refl _) hl rfl)⟩
end
end Go.Proofs.YtmfabpkliogjlaaWin
end
section
namespace Go.Proofs.YtmfabpkliogjlaaWin
open Go.RowKit Go.Maps Go.Shelf
set_option linter.unusedSimpArgs false
set_option linter.unusedVariables false
theorem fits_of {x : Int} (h : -9223372036854775808 ≤ x ∧ x ≤ 9223372036854775807) : Fits x := by
  show (Lit.int .i64 x).wf = true
  simp [Lit.wf, IntKind.min, IntKind.max, IntKind.signed, IntKind.bits]
  omega
def pickv (k n : Int) : Int := if k.tmod n < 0 then k.tmod n + n else k.tmod n
theorem pickv_bd (k : Int) {n : Int} (hn : 1 ≤ n) : 0 ≤ pickv k n ∧ pickv k n < n := by
  have h1 := Int.tmod_lt_of_pos k (b := n) (by omega)
  have h2 := Int.lt_tmod_of_pos k (b := n) (by omega)
  unfold pickv
  split <;> omega
set_option maxRecDepth 100000 in
set_option maxHeartbeats 4000000 in
theorem pick_calls (k n : Int) (hn : 1 ≤ n ∧ n ≤ 1000000) (w : World) : Calls Try.prog 11 #[.int .i64 k, .int .i64 n] w fun e w' => e = .returned (.int .i64 (pickv k n)) ∧ Only (fun _ => False) w w' := by
  have h1 := Int.tmod_lt_of_pos k (b := n) (by omega)
  have h2 := Int.lt_tmod_of_pos k (b := n) (by omega)
  have hw : wrap64 (k.tmod n) = k.tmod n := IntWalk.wrap64_in _ ⟨by omega, by omega⟩
  have hn0 : n ≠ 0 := by omega
  unfold pickv
  by_cases c : k.tmod n < 0
  · have hw2 : wrap64 (k.tmod n + n) = k.tmod n + n := IntWalk.wrap64_in _ ⟨by omega, by omega⟩
    simp only [if_pos c]
    go_enter Try.func11, Try.ntmps11
    go_wp2
    go_ret
    exact ⟨rfl, Only.refl _ _⟩
  · simp only [if_neg c]
    go_enter Try.func11, Try.ntmps11
    go_wp2
    go_ret
    exact ⟨rfl, Only.refl _ _⟩
theorem boxed_only {K : Nat → Prop} {W W' : World} {i : Nat} {t : TypeId} {v : Value} (h : Boxed W i t v) (ho : Only K W W') (hn : ¬ K i) : Boxed W' i t v := (ho.block i h.lt hn).trans h
theorem boxed_below {B : Nat} {W W' : World} {i : Nat} {t : TypeId} {v : Value} (h : Boxed W i t v) (ho : Below B W W') (hn : i < B) : Boxed W' i t v := (ho.block i hn).trans h
theorem WinAt.box_ne {W : World} {p b n i : Nat} {nx sz : Int} {m : Int → Option Int} {t : TypeId} {v : Value} (h : WinAt W p b nx sz m n) (hb : Boxed W i t v) (ht : t ≠ 73) : i ≠ b ∧ i ≠ p := by
  constructor
  · rintro rfl
    obtain ⟨es, clock, he⟩ := h.2.isMap
    rw [show W.heap[i]? = _ from hb] at he
    cases he
  · rintro rfl
    have := h.1
    rw [show W.heap[i]? = _ from hb] at this
    injection this with this
    injection this with _ this
    exact ht this
theorem WinAt.belowB {B : Nat} {W W' : World} {p b n : Nat} {nx sz : Int} {m : Int → Option Int} (h : WinAt W p b nx sz m n) (hk : Below B W W') (hp : p < B) (hb : b < B) : WinAt W' p b nx sz m n :=
  ⟨(hk.block p hp).trans h.1, h.2.block (hk.block b hb)⟩
theorem own_of_loc {β : Type} {B : Nat} {I : β → World → Prop} (h : ∀ s W W', I s W → Below B W W' → I s W') (hB : ∀ s W, I s W → B ≤ W.heap.size) : OwnFrom B I := fun s W W' row hs hg hr =>
  h s W W' hs ((Below.refl B W).grown hg (hB s W hs) (fun k e => (hr k e).1))
theorem keeps_below {B B' : Nat} {W0 W W' : World} (h : KeepsFrom B W0 W) (hb : Below B' W W') (hB : W0.heap.size ≤ B') : KeepsFrom B W0 W' :=
  ⟨Nat.le_trans h.size hb.size, fun k o hk h0 ho => (hb.block k (by have := (Array.getElem?_eq_some_iff.1 h0).1; omega)).trans (h.same k o hk h0 ho)⟩
theorem keeps_only {B : Nat} {K : Nat → Prop} {W W' : World} (h : Only K W W') (hK : ∀ k, K k → k < B ∨ ∃ c t f, W.heap[k]? = some (.cells c t f)) : KeepsFrom B W W' :=
  ⟨h.size, fun k o hk h0 ho => (h.block k (Array.getElem?_eq_some_iff.1 h0).1 (fun hkk => by
    rcases hK k hkk with h1 | ⟨c, t, f, h1⟩
    · omega
    · rw [h0] at h1; cases h1; cases ho)).trans h0⟩
end Go.Proofs.YtmfabpkliogjlaaWin
end
section
namespace Go.Proofs.YtmfabpkliogjlaaWin
open Go.RowKit Go.Maps Go.Shelf
set_option linter.unusedSimpArgs false
set_option linter.unusedVariables false
attribute [local go_sem] Oper.semAt_some
theorem eqlFunc (W : World) (f : Nat) (bl : Array Value) : (binOp .eql 38 (.func (.func f) #[] bl) .nilFunc).run Try.prog W = .ok (.bool false) W := by
  unfold binOp Op.equal
  obtain ⟨d, hd⟩ : ∃ d, Op.maxDepth = d + 1 := ⟨9999, rfl⟩
  rw [hd]
  simp [Op.equalIn, run_underlying Try.underlying38, go_sem]
attribute [local go_sem] eqlFunc
theorem run_store_func {P : Program} {w : World} (a : Addr) (m : Mode) (f : Fn) {x1 : _} {x2 : _} : (store a (.func f x1 x2) m).run P w = stored P w a (.func f x1 x2) m := run_store P w a _ m rfl
attribute [local go_sem] run_store_func
set_option maxRecDepth 100000 in
set_option maxHeartbeats 4000000 in
theorem Ready_calls (p : Option Addr) (w : World) : Calls Try.prog 14 #[.pointer p] w fun e w' => e = .returned (.func (.func 32) #[] #[.pointer (some ⟨w.heap.size, 0, none⟩)]) ∧ w' = w.alloc (.cells #[.pointer p] 22) := by
  go_enter Try.func14, Try.ntmps14
  go_wp2
  go_ret
  exact ⟨rfl, rfl⟩
set_option maxRecDepth 100000 in
set_option maxHeartbeats 4000000 in
theorem Next_exact {p b n : Nat} {nx sz : Int} {m : Int → Option Int} (w : World) (h : WinAt w p b nx sz m n) : Calls Try.prog 15 #[.pointer (some ⟨p, 0, none⟩)] w fun e w' => e = .returned (.int .i64 nx) ∧ w' = w := by
  have c0 := h.c0
  go_enter Try.func15, Try.ntmps15
  go_wp2
  go_ret
  exact ⟨rfl, rfl⟩
theorem New_good {nx sz : Int} (h : 0 ≤ nx ∧ nx ≤ 1048576 ∧ 1 ≤ sz ∧ sz ≤ 1048576) (w : World) : Calls Try.prog 12 #[.int .i64 nx, .int .i64 sz] w fun e w' =>
    ∃ p b, e = .returned (.tuple #[.pointer (some ⟨p, 0, none⟩), .int .i64 0]) ∧ w.heap.size ≤ p ∧ w.heap.size ≤ b ∧ WinAt w' p b nx sz (fun _ => none) 0 ∧ Below w.heap.size w w' := by
  refine (New_calls nx sz w).mono ?_
  intro e w' hh
  rw [if_neg (by omega)] at hh
  exact ⟨_, _, hh.1, Nat.le_succ _, Nat.le_refl _, hh.2⟩
theorem Put_old {p b n : Nat} {nx sz : Int} {m : Int → Option Int} (w : World) (h : WinAt w p b nx sz m n) (hn0 : 0 ≤ nx) (hn : n < maxLen) (x v : Int) (hf : Fits x) (hlt : x < nx) : Calls Try.prog 13 #[.pointer (some ⟨p, 0, none⟩), .int .i64 x, .int .i64 v] w fun e w' =>
    e = .returned (.int .i64 130) ∧ WinAt w' p b nx sz m (n + 1) ∧ Only (fun k => k = b) w w' := by
  refine (Put_calls w h hn0 hn x v hf).mono ?_
  rintro e w' ⟨rfl, h1, h2⟩
  rw [show putE nx sz m x = 130 from by unfold putE; rw [if_pos hlt]] at h1 ⊢
  exact ⟨rfl, h1, h2⟩
theorem Put_new {p b n : Nat} {nx sz : Int} {m : Int → Option Int} (w : World) (h : WinAt w p b nx sz m n) (hn0 : 0 ≤ nx) (hn : n < maxLen) (x v : Int) (hf : Fits x) (h1 : nx ≤ x) (h2 : x - nx < sz) (h3 : m x = none) : Calls Try.prog 13 #[.pointer (some ⟨p, 0, none⟩), .int .i64 x, .int .i64 v] w fun e w' =>
    e = .returned (.int .i64 0) ∧ WinAt w' p b nx sz (fun y => if y = x then some v else m y) (n + 1) ∧ Only (fun k => k = b) w w' := by
  refine (Put_calls w h hn0 hn x v hf).mono ?_
  have e0 : putE nx sz m x = 0 := by unfold putE; rw [if_neg (by omega), if_neg (by omega), h3]; rfl
  rintro e w' ⟨rfl, h1, h2⟩
  rw [e0] at h1 ⊢
  exact ⟨rfl, h1, h2⟩
structure Mem (P R M V O I C D p : Nat) (q : Array Value) (m1 : Int) (W : World) (o i : Int) : Prop where
  hP : W.heap[P]? = some (.cells q 31 (0, 0))
  hR : Boxed W R 4 (.bool false)
  hM : Boxed W M 3 (.int .i64 m1)
  hV : Boxed W V 22 (.pointer (some ⟨p, 0, none⟩))
  hO : Boxed W O 3 (.int .i64 o)
  hI : Boxed W I 3 (.int .i64 i)
  hC : Boxed W C 22 (.pointer (some ⟨p, 0, none⟩))
  hD : Boxed W D 38 (.func (.func 32) #[] #[.pointer (some ⟨C, 0, none⟩)])
structure St (w W0 : World) (B P R M V O I C D p b : Nat) (q : Array Value) (m1 : Int) (W : World) (o i nx : Int) (m : Int → Option Int) (n : Nat) : Prop where
  mem : Mem P R M V O I C D p q m1 W o i
  win : WinAt W p b nx 3 m n
  bel : Below w.heap.size w W
  keep : KeepsFrom B W0 W
section
variable {w W0 W W' : World} {B P R M V O I C D p b : Nat} {q : Array Value} {m1 o i nx nx' : Int} {m m' : Int → Option Int} {n n' : Nat}
theorem box_ne2 {W : World} {j i : Nat} {c : Array Value} {t u : TypeId} {v : Value} (h : W.heap[j]? = some (.cells c t (0, 0))) (hb : Boxed W i u v) (ht : u ≠ t) : i ≠ j := by
  rintro rfl
  rw [show W.heap[i]? = _ from hb] at h
  injection h with h
  injection h with _ h
  exact ht h
theorem St.only (h : St w W0 B P R M V O I C D p b q m1 W o i nx m n) (ho : Only (fun k => k = b ∨ k = p) W W') (hw : WinAt W' p b nx' 3 m' n') (hb : w.heap.size ≤ b ∧ w.heap.size ≤ p) (hB : b < B) : St w W0 B P R M V O I C D p b q m1 W' o i nx' m' n' := by
  have ne : ∀ {i : Nat} {t : TypeId} {v : Value}, Boxed W i t v → t ≠ 73 → ¬ (i = b ∨ i = p) := fun hx ht hk => by
    have := h.win.box_ne hx ht
    omega
  have neP : ¬ (P = b ∨ P = p) := by
    rintro (rfl | rfl)
    · obtain ⟨es, clock, he⟩ := h.win.2.isMap
      rw [h.mem.hP] at he; cases he
    · have h1 := h.mem.hP
      rw [h.win.1] at h1
      injection h1 with h1
      injection h1 with _ h1
      exact absurd h1 (by decide)
  refine ⟨⟨(ho.block P (Array.getElem?_eq_some_iff.1 h.mem.hP).1 neP).trans h.mem.hP, boxed_only h.mem.hR ho (ne h.mem.hR (by decide)), boxed_only h.mem.hM ho (ne h.mem.hM (by decide)), boxed_only h.mem.hV ho (ne h.mem.hV (by decide)), boxed_only h.mem.hO ho (ne h.mem.hO (by decide)), boxed_only h.mem.hI ho (ne h.mem.hI (by decide)), boxed_only h.mem.hC ho (ne h.mem.hC (by decide)), boxed_only h.mem.hD ho (ne h.mem.hD (by decide))⟩, hw, h.bel.trans (ho.below h.bel.size (fun k hk => by omega)), h.keep.trans (keeps_only ho (fun k hk => ?_))⟩
  rcases hk with rfl | rfl
  · exact .inl hB
  · exact .inr ⟨_, _, _, h.win.1⟩
theorem St.idle (h : St w W0 B P R M V O I C D p b q m1 W o i nx m n) (ho : Only (fun _ => False) W W') (hb : w.heap.size ≤ b ∧ w.heap.size ≤ p) (hB : b < B) : St w W0 B P R M V O I C D p b q m1 W' o i nx m n :=
  h.only (ho.mono (fun _ h => h.elim)) (h.win.only ho (fun h => h) (fun h => h)) hb hB
theorem St.mapped (h : St w W0 B P R M V O I C D p b q m1 W o i nx m n) (ho : Only (fun k => k = b) W W') (hw : WinAt W' p b nx' 3 m' n') (hb : w.heap.size ≤ b ∧ w.heap.size ≤ p) (hB : b < B) : St w W0 B P R M V O I C D p b q m1 W' o i nx' m' n' :=
  h.only (ho.mono (fun _ h => .inl h)) hw hb hB
theorem St.setO (h : St w W0 B P R M V O I C D p b q m1 W o i nx m n) (o' : Int) (hd : O ≠ I ∧ O ≠ M) (hl : w.heap.size ≤ O) : St w W0 B P R M V O I C D p b q m1 (W.setCell ⟨O, 0, none⟩ (.int .i64 o')) o' i nx m n := by
  have hne := h.win.box_ne h.mem.hO (by decide)
  refine ⟨⟨(Below.heap_setCell _ _ _ _ (box_ne2 h.mem.hP h.mem.hO (by decide)).symm).trans h.mem.hP, h.mem.hR.other (box_ne2 h.mem.hO h.mem.hR (by decide)) _, h.mem.hM.other hd.2.symm _, h.mem.hV.other (box_ne2 h.mem.hO h.mem.hV (by decide)) _, h.mem.hO.set _, h.mem.hI.other hd.1.symm _, h.mem.hC.other (box_ne2 h.mem.hO h.mem.hC (by decide)) _, h.mem.hD.other (box_ne2 h.mem.hO h.mem.hD (by decide)) _⟩,
    h.win.only (K := fun k => k = O) (Only.setCell _ _ _ _ rfl) hne.2.symm hne.1.symm, h.bel.setCell hl _, h.keep.trans ((KeepsOthers.setCell _ _ _).from _)⟩
theorem St.setI (h : St w W0 B P R M V O I C D p b q m1 W o i nx m n) (i' : Int) (hd : I ≠ O ∧ I ≠ M) (hl : w.heap.size ≤ I) : St w W0 B P R M V O I C D p b q m1 (W.setCell ⟨I, 0, none⟩ (.int .i64 i')) o i' nx m n := by
  have hne := h.win.box_ne h.mem.hI (by decide)
  refine ⟨⟨(Below.heap_setCell _ _ _ _ (box_ne2 h.mem.hP h.mem.hI (by decide)).symm).trans h.mem.hP, h.mem.hR.other (box_ne2 h.mem.hI h.mem.hR (by decide)) _, h.mem.hM.other hd.2.symm _, h.mem.hV.other (box_ne2 h.mem.hI h.mem.hV (by decide)) _, h.mem.hO.other hd.1.symm _, h.mem.hI.set _, h.mem.hC.other (box_ne2 h.mem.hI h.mem.hC (by decide)) _, h.mem.hD.other (box_ne2 h.mem.hI h.mem.hD (by decide)) _⟩,
    h.win.only (K := fun k => k = I) (Only.setCell _ _ _ _ rfl) hne.2.symm hne.1.symm, h.bel.setCell hl _, h.keep.trans ((KeepsOthers.setCell _ _ _).from _)⟩
theorem St.below {X : Nat} (h : St w W0 B P R M V O I C D p b q m1 W o i nx m n) (hb : Below X W W') (hX : P < X ∧ R < X ∧ M < X ∧ V < X ∧ O < X ∧ I < X ∧ C < X ∧ D < X ∧ p < X ∧ b < X ∧ w.heap.size ≤ X ∧ W0.heap.size ≤ X) : St w W0 B P R M V O I C D p b q m1 W' o i nx m n := by
  obtain ⟨x1, x2, x3, x4, x5, x6, x7, x8, x9, x10, x11, x12⟩ := hX
  exact ⟨⟨(hb.block P x1).trans h.mem.hP, boxed_below h.mem.hR hb x2, boxed_below h.mem.hM hb x3, boxed_below h.mem.hV hb x4, boxed_below h.mem.hO hb x5, boxed_below h.mem.hI hb x6, boxed_below h.mem.hC hb x7, boxed_below h.mem.hD hb x8⟩, h.win.belowB hb x9 x10, h.bel.trans (hb.mono x11), keeps_below h.keep hb x12⟩
end
def Facts (m0 : Int) (s : WS) (ins : Int) : Prop := 5 ≤ s.nx ∧ s.nx ≤ 7 + m0 ∧ 0 ≤ ins ∧ ins ≤ s.nx - 5 ∧ (∀ y, s.m y = if y = s.nx ∧ s.nx < 7 + m0 then some (10 * s.nx) else none) ∧ (s.n : Int) ≤ 1 + 3 * (s.nx - 5)
set_option maxRecDepth 100000 in
set_option maxHeartbeats 16000000 in
theorem Within_go (q0 q1 q3 : Int) (A : Option Addr) (len cap : Nat) (w : World) : Calls Try.prog 4 #[.agg #[.int .i64 q0, .int .i64 q1, .slice A len cap, .int .i64 q3]] w fun e w' => e = .returned (.bool true) ∧ Below w.heap.size w w' := by
  have hpk := fun W => pick_calls q1 30 ⟨by omega, by omega⟩ W
  obtain ⟨hm0, hm1⟩ := pickv_bd q1 (n := 30) (by omega)
  generalize pickv q1 30 = m0 at hpk hm0 hm1
  refine (callsIn_wide (n := 8)).1 ?_
  refine callsIn_of_wp_marks Try.func4 rfl trivial ?_ rfl
  simp only [Try.ntmps4, List.size_toArray, List.length_cons, List.length_nil, Nat.reduceAdd, Nat.reduceSub, Array.replicate_succ, Array.replicate_zero, List.push_toArray, List.append_toArray, List.nil_append, List.cons_append]
  gi_wp2_with (first | (refine ⟨trivial, ?_⟩; gi_at_call 11; refine (callsIn_wide.2 (hpk _)).mono ?_; rintro e w1 ⟨rfl, ho1⟩) | (refine ⟨trivial, ?_⟩; gi_at_call 12; refine (callsIn_wide.2 (New_good ⟨by omega, by omega, by omega, by omega⟩ _)).mono ?_; rintro e w2 ⟨p, b, rfl, hp, hb, hW2, hb2⟩) | (refine ⟨trivial, ?_⟩; gi_at_call 13; refine (callsIn_wide.2 (Put_new _ (hW2.below ((Below.refl _ w2).alloc (Nat.le_refl _) _)) (by omega) (by simp [maxLen]) _ _ (fits_of ⟨by omega, by omega⟩) (by omega) (by omega) rfl)).mono ?_; rintro e w3 ⟨rfl, hW3, ho3⟩; have bw3 : Boxed w3 w2.heap.size 22 (.pointer (some ⟨p, 0, none⟩)) := boxed_only (Boxed.new w2 22 (.pointer (some ⟨p, 0, none⟩))) ho3 (fun e => by have := hW2.2.lt; omega); have cw3 := bw3.cell; have cw5 := ((bw3.alloc (.cells #[.int .i64 5] 3)).alloc (.cells #[.int .i64 0] 3)).cell) | (refine ⟨trivial, ?_⟩; gi_at_call 14; refine (callsIn_wide.2 (Ready_calls _ _)).mono ?_; rintro e w6 ⟨rfl, rfl⟩))
  clear hpk cw3 cw5
  have ha : ∀ {W : World} {k : Nat} {o : Obj} (o' : Obj), W.heap[k]? = some o → (W.alloc o').heap[k]? = some o := fun o' h => (Below.heap_alloc _ o' _ (Array.getElem?_eq_some_iff.1 h).1).trans h
  simp only [World.size_alloc] at hp hb
  have s1 : w.heap.size + 2 ≤ w1.heap.size := by have := ho1.size; simpa using this
  have s2 : w1.heap.size + 1 ≤ w2.heap.size := by have := hb2.size; simpa using this
  have s3 : w2.heap.size + 1 ≤ w3.heap.size := by have := ho3.size; simpa using this
  have hpl := hW2.lt
  have hbl := hW2.2.lt
  have zP1 : w1.heap[w.heap.size]? = some (.cells #[.int .i64 q0, .int .i64 q1, .slice A len cap, .int .i64 q3] 31 (0, 0)) := (ho1.block _ (by simp; omega) (fun h => h)).trans (ha _ (World.alloc_heap_new w _))
  have zR1 : Boxed w1 (w.heap.size + 1) 4 (.bool false) := boxed_only (by have := Boxed.new (w.alloc (.cells #[.int .i64 q0, .int .i64 q1, .slice A len cap, .int .i64 q3] 31)) 4 (.bool false); rwa [World.size_alloc] at this) ho1 (fun h => h)
  have zP2 : w2.heap[w.heap.size]? = some (.cells #[.int .i64 q0, .int .i64 q1, .slice A len cap, .int .i64 q3] 31 (0, 0)) := (hb2.block _ (by simp; omega)).trans (ha _ zP1)
  have zR2 := boxed_below (zR1.alloc _) hb2 (by simp; omega)
  have zM2 := boxed_below (Boxed.new w1 3 (.int .i64 (2 + m0))) hb2 (by simp)
  have zP3 := (ho3.block _ (by simp; omega) (by omega)).trans (ha _ zP2)
  have zR3 := boxed_only (zR2.alloc _) ho3 (by omega)
  have zM3 := boxed_only (zM2.alloc _) ho3 (by omega)
  have hb3 : Below w.heap.size w w3 := by
    have x1 := ((Below.refl w.heap.size w).alloc (Nat.le_refl _) (.cells #[.int .i64 q0, .int .i64 q1, .slice A len cap, .int .i64 q3] 31)).alloc (by simp) (.cells #[.bool false] 4)
    have x2 := x1.trans (ho1.below x1.size (fun _ h => h.elim))
    have x3 := (x2.alloc (by omega) (.cells #[.int .i64 (2 + m0)] 3)).trans (hb2.mono (by simp; omega))
    have x4 := x3.alloc (by omega) (.cells #[.pointer (some ⟨p, 0, none⟩)] 22)
    exact x4.trans (ho3.below (by simp; omega) (fun k hk => by omega))
  obtain ⟨W5, hW5⟩ : ∃ W5, ((((w3.alloc (.cells #[.int .i64 5] 3)).alloc (.cells #[.int .i64 0] 3)).alloc (.cells #[.pointer (some ⟨p, 0, none⟩)] 22)).alloc (.cells #[.func (.func 32) #[] #[.pointer (some ⟨w3.heap.size + 1 + 1, 0, none⟩)]] 38)) = W5 := ⟨_, rfl⟩
  have s5 : W5.heap.size = w3.heap.size + 1 + 1 + 1 + 1 := by rw [← hW5]; simp
  have st5 : St w W5 W5.heap.size w.heap.size (w.heap.size + 1) w1.heap.size w2.heap.size w3.heap.size (w3.heap.size + 1) (w3.heap.size + 1 + 1) (w3.heap.size + 1 + 1 + 1) p b #[.int .i64 q0, .int .i64 q1, .slice A len cap, .int .i64 q3] (2 + m0) W5 5 0 5 (fun y => if y = 5 then some 50 else none) 1 := by
    refine ⟨?_, ?_, ?_, KeepsFrom.refl _ _⟩
    · rw [← hW5]
      refine ⟨ha _ (ha _ (ha _ (ha _ zP3))), (((zR3.alloc _).alloc _).alloc _).alloc _, (((zM3.alloc _).alloc _).alloc _).alloc _, (((bw3.alloc _).alloc _).alloc _).alloc _, (((Boxed.new w3 3 _).alloc _).alloc _).alloc _, ?_, ?_, ?_⟩
      · have := ((Boxed.new (w3.alloc (.cells #[.int .i64 5] 3)) 3 (.int .i64 0)).alloc (.cells #[.pointer (some ⟨p, 0, none⟩)] 22)).alloc (.cells #[.func (.func 32) #[] #[.pointer (some ⟨w3.heap.size + 1 + 1, 0, none⟩)]] 38)
        rwa [World.size_alloc] at this
      · have := (Boxed.new ((w3.alloc (.cells #[.int .i64 5] 3)).alloc (.cells #[.int .i64 0] 3)) 22 (.pointer (some ⟨p, 0, none⟩))).alloc (.cells #[.func (.func 32) #[] #[.pointer (some ⟨w3.heap.size + 1 + 1, 0, none⟩)]] 38)
        rwa [World.size_alloc, World.size_alloc] at this
      · have := Boxed.new (((w3.alloc (.cells #[.int .i64 5] 3)).alloc (.cells #[.int .i64 0] 3)).alloc (.cells #[.pointer (some ⟨p, 0, none⟩)] 22)) 38 (.func (.func 32) #[] #[.pointer (some ⟨w3.heap.size + 1 + 1, 0, none⟩)])
        rwa [World.size_alloc, World.size_alloc, World.size_alloc] at this
    · rw [← hW5]
      exact hW3.below ((((Below.refl w3.heap.size w3).alloc (by simp) _).alloc (by simp) _).alloc (by simp; omega) _ |>.alloc (by simp; omega) _)
    · rw [← hW5]
      exact (((hb3.alloc (by omega) _).alloc (by simp; omega) _).alloc (by simp; omega) _).alloc (by simp; omega) _
  rw [hW5]
  clear hW5 zP1 zP2 zP3 zR1 zR2 zR3 zM2 zM3 bw3 hb3 hW3 ho3 hb2 hW2 ho1
  refine wpIn_rangeReady (p := p) (b := b) (sz := 3) (B := 7 + m0) (by omega) (lb := #[.pointer (some ⟨w3.heap.size + 1 + 1, 0, none⟩)]) rfl (ready1_stops _ p b _ 3 _ (by omega)) rfl (by omega) (by omega)
    (fun s W => ∃ ins, St w W5 W5.heap.size w.heap.size (w.heap.size + 1) w1.heap.size w2.heap.size w3.heap.size (w3.heap.size + 1) (w3.heap.size + 1 + 1) (w3.heap.size + 1 + 1 + 1) p b #[.int .i64 q0, .int .i64 q1, .slice A len cap, .int .i64 q3] (2 + m0) W s.nx ins s.nx s.m s.n ∧ Facts m0 s ins)
    (fun s x W => ∃ ins, St w W5 W5.heap.size w.heap.size (w.heap.size + 1) w1.heap.size w2.heap.size w3.heap.size (w3.heap.size + 1) (w3.heap.size + 1 + 1) (w3.heap.size + 1 + 1 + 1) p b #[.int .i64 q0, .int .i64 q1, .slice A len cap, .int .i64 q3] (2 + m0) W s.nx ins (s.nx + 1) (fun y => if y = s.nx then none else s.m y) s.n ∧ Facts m0 s ins ∧ s.m s.nx = some x)
    (fun _ _ => False)
    (own_of_loc (fun s W W' ⟨ins, h, f⟩ hb => ⟨ins, h.below hb (by omega), f⟩) (fun s W ⟨_, h, _⟩ => h.keep.size))
    (fun x => own_of_loc (fun s W W' ⟨ins, h, f⟩ hb => ⟨ins, h.below hb (by omega), f⟩) (fun s W ⟨_, h, _⟩ => h.keep.size))
    (fun _ _ _ _ h _ _ => h)
    (fun s W ⟨ins, h, f⟩ => ⟨h.win, fits_of (by have := f.1; have := f.2.1; omega), by omega, (fun hs => by
      have := f.2.2.2.2.1 s.nx
      by_cases c : s.nx < 7 + m0
      · exact c
      · rw [this, if_neg (by omega)] at hs; cases hs), (fun v hv => by cases hv; exact h.mem.hC.cell)⟩)
    (fun s W x W' ⟨ins, h, f⟩ hm ho hw => ⟨ins, h.only ho hw (by omega) (by omega), f, hm⟩)
    (s0 := ⟨5, fun y => if y = 5 then some 50 else none, 1⟩)
    ⟨0, st5, by show (5 : Int) ≤ 5; omega, by show (5 : Int) ≤ 7 + m0; omega, Int.le_refl _, by show (0 : Int) ≤ 5 - 5; omega, fun y => by show (if y = 5 then some (50 : Int) else none) = if y = 5 ∧ (5 : Int) < 7 + m0 then some (10 * 5) else none; by_cases c : y = 5 <;> simp [c]; omega, by show ((1 : Nat) : Int) ≤ 1 + 3 * (5 - 5); omega⟩
    (fun x y => { tmps := #[.agg #[.int .i64 q0, .int .i64 q1, .slice A len cap, .int .i64 q3], .pointer (some ⟨w.heap.size, 0, none⟩), .pointer (some ⟨w.heap.size + 1, 0, none⟩), .pointer (some ⟨w1.heap.size, 0, none⟩), .pointer (some ⟨w2.heap.size, 0, none⟩), .int .i64 0, .int .i64 0, .pointer (some ⟨w3.heap.size, 0, none⟩), .pointer (some ⟨w3.heap.size + 1, 0, none⟩), .pointer (some ⟨w3.heap.size + 1 + 1 + 1, 0, none⟩), .int .i64 x, .int .i64 y, undef, undef, undef, undef, undef, .pointer (some ⟨w.heap.size, 1, none⟩), .int .i64 q1, .int .i64 m0, .int .i64 (2 + m0), .tuple #[.pointer (some ⟨p, 0, none⟩), .int .i64 0], .tuple #[.pointer (some ⟨p, 0, none⟩), .int .i64 0], .pointer (some ⟨p, 0, none⟩), .int .i64 0, .int .i64 0, .bool false, .bool false, .pointer (some ⟨p, 0, none⟩), .bool false, .bool false, .pointer (some ⟨p, 0, none⟩), .int .i64 0, .int .i64 0, .bool false, .pointer (some ⟨p, 0, none⟩), .func (.func 32) #[] #[.pointer (some ⟨w3.heap.size + 1 + 1, 0, none⟩)], .func (.func 32) #[] #[.pointer (some ⟨w3.heap.size + 1 + 1, 0, none⟩)], .bool false, .func (.func 32) #[] #[.pointer (some ⟨w3.heap.size + 1 + 1, 0, none⟩)], .int .i64 x, .int .i64 y, undef, undef, undef, undef, undef, undef, undef, undef, undef, undef, undef, undef, undef, undef, undef, undef, undef, undef, undef, undef, undef, undef, undef, undef, undef, undef, undef, undef, undef, undef, undef, undef, undef, undef, undef, undef, undef, undef, undef, undef, undef, undef, undef, undef, undef, undef, undef, undef, undef, undef, undef, undef, undef, undef, undef, undef, undef, undef, undef, undef, undef, undef, undef, undef, undef, undef, undef, undef, undef, undef, undef, undef, undef, undef, undef, undef, undef, undef, undef, undef, undef, undef, undef, undef, undef, undef, undef, undef, undef, undef, undef, undef, undef, undef], defers := [] }) ?assign ?body ?done ?stop
  case assign =>
    intro l x y W K hK
    gi_wp2
    exact hK
  case body =>
    rintro l ⟨N, sm, sn⟩ x W hl ⟨r, hr⟩ ⟨ins, hS, ⟨f1, f2, f3, f4, f5, f6⟩, hx⟩
    dsimp only at hS f1 f2 f3 f4 f5 f6 hx ⊢
    obtain ⟨rfl, hlt⟩ : x = 10 * N ∧ N < 7 + m0 := by
      rw [f5 N] at hx
      by_cases c : N < 7 + m0
      · rw [if_pos ⟨rfl, c⟩] at hx; injection hx with hx; exact ⟨hx.symm, c⟩
      · rw [if_neg (by omega)] at hx; cases hx
    have hR : St w W W5.heap.size w.heap.size (w.heap.size + 1) w1.heap.size w2.heap.size w3.heap.size (w3.heap.size + 1) (w3.heap.size + 1 + 1) (w3.heap.size + 1 + 1 + 1) p b #[.int .i64 q0, .int .i64 q1, .slice A len cap, .int .i64 q3] (2 + m0) W N ins (N + 1) (fun y => if y = N then none else sm y) sn := ⟨hS.mem, hS.win, hS.bel, KeepsFrom.refl _ _⟩
    have hk5 := hS.keep
    clear hS
    have cO := hR.mem.hO.cell
    have cV := hR.mem.hV.cell
    have w10 : wrap64 (10 * N) = 10 * N := IntWalk.wrap64_in _ ⟨by omega, by omega⟩
    have wN1 : wrap64 (N + 1) = N + 1 := IntWalk.wrap64_in _ ⟨by omega, by omega⟩
    have w5m : wrap64 (5 + (2 + m0)) = 5 + (2 + m0) := IntWalk.wrap64_in _ ⟨by omega, by omega⟩
    have hfr1 : (if N + 1 = N then none else sm (N + 1)) = none := by rw [if_neg (by omega), f5, if_neg (by omega)]
    have hm1' : ∀ y, N + 1 < 7 + m0 → (if y = N + 1 then some (10 * N + 10) else if y = N then none else sm y) = if y = N + 1 ∧ N + 1 < 7 + m0 then some (10 * (N + 1)) else none := fun y hy => by
      by_cases c : y = N + 1
      · rw [if_pos c, if_pos ⟨c, hy⟩]; congr 1; omega
      · have h' : ¬ (y = N + 1 ∧ N + 1 < 7 + m0) := fun h => c h.1
        rw [if_neg c, if_neg h']
        by_cases c2 : y = N
        · rw [if_pos c2]
        · rw [if_neg c2, f5, if_neg (by omega)]
    have hm0' : ¬ N + 1 < 7 + m0 → ∀ y, (if y = N then none else sm y) = if y = N + 1 ∧ N + 1 < 7 + m0 then some (10 * (N + 1)) else none := fun hy y => by
      have h' : ¬ (y = N + 1 ∧ N + 1 < 7 + m0) := fun h => hy h.2
      rw [if_neg h']
      by_cases c2 : y = N
      · rw [if_pos c2]
      · rw [if_neg c2, f5, if_neg (by omega)]
    by_cases hE : N + 1 < 5 + (2 + m0)
    · have w1010 : wrap64 (10 * N + 10) = 10 * N + 10 := IntWalk.wrap64_in _ ⟨by omega, by omega⟩
      have w1020 : wrap64 (10 * N + 20) = 10 * N + 20 := IntWalk.wrap64_in _ ⟨by omega, by omega⟩
      have wN2 : wrap64 (N + 2) = N + 2 := IntWalk.wrap64_in _ ⟨by omega, by omega⟩
      have wN11 : wrap64 (N + 1 + 1) = N + 1 + 1 := IntWalk.wrap64_in _ ⟨by omega, by omega⟩
      by_cases hq : pickv (wrap64 (q3 + N)) 3 = 0
      · by_cases hE2 : N + 1 + 1 < 5 + (2 + m0)
        · have hfr2 : (fun y => if y = N + 1 then some (10 * N + 10) else if y = N then none else sm y) (N + 2) = none := by
            show (if N + 2 = N + 1 then some (10 * N + 10) else if N + 2 = N then none else sm (N + 2)) = none
            rw [if_neg (by omega), if_neg (by omega), f5, if_neg (by omega)]
          gi_wp2_with (first | (refine ⟨trivial, ?_⟩; gi_at_call 15; refine (CallsIn.inRound l (callsIn_wide.2 (Next_calls _ hR.win))).mono ?_; rintro e w4 ⟨rfl, ho4⟩; have hS4 := hR.idle ho4 (by omega) (by omega); clear hR; have cO4 := hS4.mem.hO.cell; have fO4 := hS4.mem.hO.frozen; have hS5 := hS4.setO (N + 1) (by omega) (by omega); have cO5 := hS5.mem.hO.cell; have cM5 := hS5.mem.hM.cell; have cV5 := hS5.mem.hV.cell) | (refine ⟨trivial, ?_⟩; gi_at_call 13; refine (CallsIn.inRound l (callsIn_wide.2 (Put_old _ hS5.win (by omega) (by simp [maxLen]; omega) _ _ (fits_of ⟨by omega, by omega⟩) (by omega)))).mono ?_; rintro e w6 ⟨rfl, hW6, ho6⟩; have hS6 := hS5.mapped ho6 hW6 (by omega) (by omega); clear hS5; have cV6 := hS6.mem.hV.cell) | (refine ⟨trivial, ?_⟩; gi_at_call 13; refine (CallsIn.inRound l (callsIn_wide.2 (Put_new _ hS6.win (by omega) (by simp [maxLen]; omega) _ _ (fits_of ⟨by omega, by omega⟩) (by omega) (by omega) hfr1))).mono ?_; rintro e w7 ⟨rfl, hW7, ho7⟩; have hS7 := hS6.mapped ho7 hW7 (by omega) (by omega); clear hS6; have cP7 : w7.cell? ⟨w.heap.size, 3, none⟩ = some (.int .i64 q3) := (by simp [World.cell?, hS7.mem.hP]); have cO7 := hS7.mem.hO.cell; have cM7 := hS7.mem.hM.cell) | (refine ⟨trivial, ?_⟩; gi_at_call 11; refine (CallsIn.inRound l (callsIn_wide.2 (pick_calls (wrap64 (q3 + N)) 3 ⟨by omega, by omega⟩ _))).mono ?_; rintro e w8 ⟨rfl, ho8⟩; have hS8 := hS7.idle ho8 (by omega) (by omega); clear hS7; have cO8 := hS8.mem.hO.cell; have cM8 := hS8.mem.hM.cell; have cV8 := hS8.mem.hV.cell) | (refine ⟨trivial, ?_⟩; gi_at_call 13; refine (CallsIn.inRound l (callsIn_wide.2 (Put_new _ hS8.win (by omega) (by simp [maxLen]; omega) _ _ (fits_of ⟨by omega, by omega⟩) (by omega) (by omega) hfr2))).mono ?_; rintro e w9 ⟨rfl, hW9, ho9⟩; have hS9 := hS8.mapped ho9 hW9 (by omega) (by omega); clear hS8; have cD9 := (hS9.mem.hD.alloc (.cells #[.int .i64 0] 33)).cell))
          have hN3 : (sn : Int) < 200 := by omega
          have hl9 : (w9.alloc (.cells #[.int .i64 0] 33)).heap[l]? = some (.loop r) := ha _ (hS9.keep.same l _ hl hr rfl)
          have z1 := hS9.keep.size
          have z2 := hk5.size
          have hst9 := hS9.below ((Below.refl w9.heap.size w9).alloc (Nat.le_refl _) (.cells #[.int .i64 0] 33)) (by omega)
          have hbx9 := Boxed.new w9 33 (.int .i64 0)
          clear hS9
          have wI : wrap64 (ins + 1) = ins + 1 := IntWalk.wrap64_in _ ⟨by omega, by omega⟩
          have w10b : wrap64 (10 * (N + 1)) = 10 * N + 10 := by rw [IntWalk.wrap64_in _ ⟨by omega, by omega⟩]; omega
          obtain ⟨W8, hW8⟩ : ∃ W8, w9.alloc (.cells #[.int .i64 0] 33) = W8 := ⟨_, rfl⟩
          have s8 : W8.heap.size = w9.heap.size + 1 := by rw [← hW8]; simp
          rw [hW8] at hl9 hst9 hbx9 ⊢
          clear hW8 cD9
          refine wpIn_rangeReadyN (p := p) (b := b) (sz := 3) (B := 7 + m0) hl9 (by omega) (lb := #[.pointer (some ⟨w3.heap.size + 1 + 1, 0, none⟩)]) rfl (ready1_stops _ p b _ 3 _ (by omega)) rfl (by omega) (by omega)
            (fun s W' => (St w W W5.heap.size w.heap.size (w.heap.size + 1) w1.heap.size w2.heap.size w3.heap.size (w3.heap.size + 1) (w3.heap.size + 1 + 1) (w3.heap.size + 1 + 1 + 1) p b #[.int .i64 q0, .int .i64 q1, .slice A len cap, .int .i64 q3] (2 + m0) W' (N + 1) ins s.nx s.m s.n ∧ Boxed W' w9.heap.size 33 (.int .i64 0)) ∧ s.nx = N + 1 ∧ s.m (N + 1) = some (10 * N + 10) ∧ (∀ y, (if y = N + 1 then none else s.m y) = if y = N + 1 + 1 ∧ N + 1 + 1 < 7 + m0 then some (10 * (N + 1 + 1)) else none) ∧ s.n = sn + 1 + 1 + 1)
            (fun s x W' => (St w W W5.heap.size w.heap.size (w.heap.size + 1) w1.heap.size w2.heap.size w3.heap.size (w3.heap.size + 1) (w3.heap.size + 1 + 1) (w3.heap.size + 1 + 1 + 1) p b #[.int .i64 q0, .int .i64 q1, .slice A len cap, .int .i64 q3] (2 + m0) W' (N + 1) ins (s.nx + 1) (fun y => if y = s.nx then none else s.m y) s.n ∧ Boxed W' w9.heap.size 33 (.int .i64 0)) ∧ (s.nx = N + 1 ∧ s.m (N + 1) = some (10 * N + 10) ∧ (∀ y, (if y = N + 1 then none else s.m y) = if y = N + 1 + 1 ∧ N + 1 + 1 < 7 + m0 then some (10 * (N + 1 + 1)) else none) ∧ s.n = sn + 1 + 1 + 1) ∧ s.m s.nx = some x)
            (fun c W' => (W8.heap.size ≤ W'.heap.size ∧ ∃ m' n', St w W W5.heap.size w.heap.size (w.heap.size + 1) w1.heap.size w2.heap.size w3.heap.size (w3.heap.size + 1) (w3.heap.size + 1 + 1) (w3.heap.size + 1 + 1 + 1) p b #[.int .i64 q0, .int .i64 q1, .slice A len cap, .int .i64 q3] (2 + m0) W' (N + 1 + 1) (ins + 1) (N + 1 + 1) m' n' ∧ (∀ y, m' y = if y = N + 1 + 1 ∧ N + 1 + 1 < 7 + m0 then some (10 * (N + 1 + 1)) else none) ∧ n' = sn + 1 + 1 + 1) ∧ c = .exit 2)
            (own_of_loc (fun s W' W'' ⟨⟨h, hbx⟩, f⟩ hb => ⟨⟨h.below hb (by omega), boxed_below hbx hb (by omega)⟩, f⟩) (fun s W' ⟨⟨h, hbx⟩, _⟩ => by have := hbx.lt; omega))
            (fun x => own_of_loc (fun s W' W'' ⟨⟨h, hbx⟩, f⟩ hb => ⟨⟨h.below hb (by omega), boxed_below hbx hb (by omega)⟩, f⟩) (fun s W' ⟨⟨h, hbx⟩, _⟩ => by have := hbx.lt; omega))
            (own_of_loc (fun c W' W'' ⟨⟨hsz, m', n', h, f⟩, e⟩ hb => ⟨⟨Nat.le_trans hsz hb.size, m', n', h.below hb (by omega), f⟩, e⟩) (fun s W' h => h.1.1))
            (fun s W' ⟨⟨h, hbx⟩, e1, e2, _⟩ => ⟨h.win, by rw [e1]; exact fits_of (by omega), by omega, (fun _ => by rw [e1]; omega), (fun v hv => by cases hv; exact h.mem.hC.cell)⟩)
            (fun s W' x W'' ⟨⟨h, hbx⟩, f⟩ hm ho hw => ⟨⟨h.only ho hw (by omega) (by omega), boxed_only hbx ho (by have := h.win.box_ne hbx (by decide); omega)⟩, f, hm⟩)
            (s0 := ⟨N + 1, _, _⟩) ⟨⟨hst9, hbx9⟩, rfl, ?m1, ?m2, rfl⟩
            (fun x y => { tmps := #[.agg #[.int .i64 q0, .int .i64 q1, .slice A len cap, .int .i64 q3], .pointer (some ⟨w.heap.size, 0, none⟩), .pointer (some ⟨w.heap.size + 1, 0, none⟩), .pointer (some ⟨w1.heap.size, 0, none⟩), .pointer (some ⟨w2.heap.size, 0, none⟩), .int .i64 0, .int .i64 0, .pointer (some ⟨w3.heap.size, 0, none⟩), .pointer (some ⟨w3.heap.size + 1, 0, none⟩), .pointer (some ⟨w3.heap.size + 1 + 1 + 1, 0, none⟩), .int .i64 N, .int .i64 (10 * N), .int .i64 130, .int .i64 0, .pointer (some ⟨w9.heap.size, 0, none⟩), .int .i64 x, .int .i64 y, .pointer (some ⟨w.heap.size, 1, none⟩), .int .i64 q1, .int .i64 m0, .int .i64 (2 + m0), .tuple #[.pointer (some ⟨p, 0, none⟩), .int .i64 0], .tuple #[.pointer (some ⟨p, 0, none⟩), .int .i64 0], .pointer (some ⟨p, 0, none⟩), .int .i64 0, .int .i64 0, .bool false, .bool false, .pointer (some ⟨p, 0, none⟩), .bool false, .bool false, .pointer (some ⟨p, 0, none⟩), .int .i64 0, .int .i64 0, .bool false, .pointer (some ⟨p, 0, none⟩), .func (.func 32) #[] #[.pointer (some ⟨w3.heap.size + 1 + 1, 0, none⟩)], .func (.func 32) #[] #[.pointer (some ⟨w3.heap.size + 1 + 1, 0, none⟩)], .bool false, .func (.func 32) #[] #[.pointer (some ⟨w3.heap.size + 1 + 1, 0, none⟩)], .int .i64 N, .int .i64 (10 * N), .int .i64 N, .int .i64 N, .bool false, .bool false, .int .i64 (10 * N), .int .i64 N, .int .i64 (10 * N), .bool false, .bool false, .bool false, .pointer (some ⟨p, 0, none⟩), .int .i64 (N + 1), .int .i64 N, .int .i64 (N + 1), .bool false, .bool false, .int .i64 N, .int .i64 (N + 1), .int .i64 (N + 1), .int .i64 (2 + m0), .int .i64 (5 + (2 + m0)), .bool true, .pointer (some ⟨p, 0, none⟩), .int .i64 N, .int .i64 130, .pointer (some ⟨p, 0, none⟩), .int .i64 N, .int .i64 (N + 1), .int .i64 N, .int .i64 (10 * N), .int .i64 (10 * N + 10), .int .i64 0, .int .i64 130, .bool false, .bool false, .int .i64 0, .bool false, .bool false, .pointer (some ⟨w.heap.size, 3, none⟩), .int .i64 q3, .int .i64 N, .int .i64 (wrap64 (q3 + N)), .int .i64 0, .bool true, .bool true, .int .i64 (N + 1), .int .i64 (N + 1 + 1), .int .i64 (2 + m0), .int .i64 (5 + (2 + m0)), .bool true, .bool true, .pointer (some ⟨p, 0, none⟩), .int .i64 N, .int .i64 (N + 2), .int .i64 N, .int .i64 (10 * N), .int .i64 (10 * N + 20), .int .i64 0, .func (.func 32) #[] #[.pointer (some ⟨w3.heap.size + 1 + 1, 0, none⟩)], .int .i64 x, .int .i64 y, undef, undef, undef, undef, undef, undef, undef, undef, undef, undef, undef, undef, undef, undef, undef, undef, undef, undef, undef, undef, undef, undef, undef, undef, undef, undef, undef, undef, undef, undef, undef, undef, undef], defers := [] }) ?assign2 ?body2 ?done2 ?stop2
          case m1 =>
            show (if N + 1 = N + 2 then some (10 * N + 20) else if N + 1 = N + 1 then some (10 * N + 10) else if N + 1 = N then none else sm (N + 1)) = some (10 * N + 10)
            rw [if_neg (by omega), if_pos rfl]
          case m2 =>
            intro y
            show (if y = N + 1 then none else if y = N + 2 then some (10 * N + 20) else if y = N + 1 then some (10 * N + 10) else if y = N then none else sm y) = _
            have hy2 := f5 y
            by_cases c1 : y = N + 1 + 1
            · rw [if_neg (by omega), if_pos (by omega), if_pos ⟨c1, by omega⟩]
              congr 1
              omega
            · have h' : ¬ (y = N + 1 + 1 ∧ N + 1 + 1 < 7 + m0) := fun h => c1 h.1
              rw [if_neg h']
              by_cases c2 : y = N + 1
              · rw [if_pos c2]
              · rw [if_neg c2, if_neg (by omega), if_neg c2]
                by_cases c3 : y = N
                · rw [if_pos c3]
                · rw [if_neg c3, hy2, if_neg (fun h => c3 h.1)]
          case assign2 =>
            intro l2 x y W' K hK
            gi_wp2
            exact hK
          case body2 =>
            rintro l2 ⟨N2, sm2, sn2⟩ x W' hl2 _ ⟨⟨hT, hbx⟩, ⟨rfl, g2, g3, rfl⟩, hx2⟩
            dsimp only at hT g2 g3 hx2 ⊢
            obtain rfl : x = 10 * N + 10 := by rw [g2] at hx2; injection hx2 with hx2; exact hx2.symm
            have dO := hT.mem.hO.cell
            have eO := hT.mem.hO.frozen
            have dB := hbx.cell
            have hT2 := hT.setO (N + 1 + 1) (by omega) (by omega)
            have dI := hT2.mem.hI.cell
            have eI := hT2.mem.hI.frozen
            have hT3 := hT2.setI (ins + 1) (by omega) (by omega)
            gi_wp2
            exact ⟨((KeepsOthers.setCell _ _ _).trans (KeepsOthers.setCell _ _ _)).from _, ⟨by have := hbx.lt; simp [World.setCell]; omega, _, _, hT3, g3, rfl⟩, rfl⟩
          case done2 =>
            rintro s W' ⟨_, e1, e2, _⟩ hm
            rw [e1, e2] at hm
            cases hm
          case stop2 =>
            rintro c W' ⟨⟨_, m', n', hT, g1, rfl⟩, rfl⟩
            gi_wp2
            exact ⟨hT.keep, ⟨N + 1 + 1, _, _⟩, (by show N < N + 1 + 1; omega), ins + 1, ⟨hT.mem, hT.win, hT.bel, hk5.trans hT.keep⟩, by show (5 : Int) ≤ N + 1 + 1; omega, by show N + 1 + 1 ≤ 7 + m0; omega, by omega, by show ins + 1 ≤ N + 1 + 1 - 5; omega, g1, by show ((sn + 1 + 1 + 1 : Nat) : Int) ≤ 1 + 3 * (N + 1 + 1 - 5); omega⟩
        · gi_wp2_with (first | (refine ⟨trivial, ?_⟩; gi_at_call 15; refine (CallsIn.inRound l (callsIn_wide.2 (Next_calls _ hR.win))).mono ?_; rintro e w4 ⟨rfl, ho4⟩; have hS4 := hR.idle ho4 (by omega) (by omega); clear hR; have cO4 := hS4.mem.hO.cell; have fO4 := hS4.mem.hO.frozen; have hS5 := hS4.setO (N + 1) (by omega) (by omega); have cO5 := hS5.mem.hO.cell; have cM5 := hS5.mem.hM.cell; have cV5 := hS5.mem.hV.cell) | (refine ⟨trivial, ?_⟩; gi_at_call 13; refine (CallsIn.inRound l (callsIn_wide.2 (Put_old _ hS5.win (by omega) (by simp [maxLen]; omega) _ _ (fits_of ⟨by omega, by omega⟩) (by omega)))).mono ?_; rintro e w6 ⟨rfl, hW6, ho6⟩; have hS6 := hS5.mapped ho6 hW6 (by omega) (by omega); clear hS5; have cV6 := hS6.mem.hV.cell) | (refine ⟨trivial, ?_⟩; gi_at_call 13; refine (CallsIn.inRound l (callsIn_wide.2 (Put_new _ hS6.win (by omega) (by simp [maxLen]; omega) _ _ (fits_of ⟨by omega, by omega⟩) (by omega) (by omega) hfr1))).mono ?_; rintro e w7 ⟨rfl, hW7, ho7⟩; have hS7 := hS6.mapped ho7 hW7 (by omega) (by omega); clear hS6; have cP7 : w7.cell? ⟨w.heap.size, 3, none⟩ = some (.int .i64 q3) := (by simp [World.cell?, hS7.mem.hP]); have cO7 := hS7.mem.hO.cell; have cM7 := hS7.mem.hM.cell) | (refine ⟨trivial, ?_⟩; gi_at_call 11; refine (CallsIn.inRound l (callsIn_wide.2 (pick_calls (wrap64 (q3 + N)) 3 ⟨by omega, by omega⟩ _))).mono ?_; rintro e w8 ⟨rfl, ho8⟩; have hS8 := hS7.idle ho8 (by omega) (by omega); clear hS7; have cO8 := hS8.mem.hO.cell; have cM8 := hS8.mem.hM.cell; have cV8 := hS8.mem.hV.cell))
          exact ⟨hS8.keep, ⟨N + 1, _, _⟩, (by show N < N + 1; omega), ins, ⟨hS8.mem, hS8.win, hS8.bel, hk5.trans hS8.keep⟩, by show (5 : Int) ≤ N + 1; omega, by show N + 1 ≤ 7 + m0; omega, f3, by show ins ≤ N + 1 - 5; omega, (fun y => hm1' y (by omega)), by show ((sn + 1 + 1 : Nat) : Int) ≤ 1 + 3 * (N + 1 - 5); omega⟩
      · gi_wp2_with (first | (refine ⟨trivial, ?_⟩; gi_at_call 15; refine (CallsIn.inRound l (callsIn_wide.2 (Next_calls _ hR.win))).mono ?_; rintro e w4 ⟨rfl, ho4⟩; have hS4 := hR.idle ho4 (by omega) (by omega); clear hR; have cO4 := hS4.mem.hO.cell; have fO4 := hS4.mem.hO.frozen; have hS5 := hS4.setO (N + 1) (by omega) (by omega); have cO5 := hS5.mem.hO.cell; have cM5 := hS5.mem.hM.cell; have cV5 := hS5.mem.hV.cell) | (refine ⟨trivial, ?_⟩; gi_at_call 13; refine (CallsIn.inRound l (callsIn_wide.2 (Put_old _ hS5.win (by omega) (by simp [maxLen]; omega) _ _ (fits_of ⟨by omega, by omega⟩) (by omega)))).mono ?_; rintro e w6 ⟨rfl, hW6, ho6⟩; have hS6 := hS5.mapped ho6 hW6 (by omega) (by omega); clear hS5; have cV6 := hS6.mem.hV.cell) | (refine ⟨trivial, ?_⟩; gi_at_call 13; refine (CallsIn.inRound l (callsIn_wide.2 (Put_new _ hS6.win (by omega) (by simp [maxLen]; omega) _ _ (fits_of ⟨by omega, by omega⟩) (by omega) (by omega) hfr1))).mono ?_; rintro e w7 ⟨rfl, hW7, ho7⟩; have hS7 := hS6.mapped ho7 hW7 (by omega) (by omega); clear hS6; have cP7 : w7.cell? ⟨w.heap.size, 3, none⟩ = some (.int .i64 q3) := (by simp [World.cell?, hS7.mem.hP]); have cO7 := hS7.mem.hO.cell; have cM7 := hS7.mem.hM.cell) | (refine ⟨trivial, ?_⟩; gi_at_call 11; refine (CallsIn.inRound l (callsIn_wide.2 (pick_calls (wrap64 (q3 + N)) 3 ⟨by omega, by omega⟩ _))).mono ?_; rintro e w8 ⟨rfl, ho8⟩; have hS8 := hS7.idle ho8 (by omega) (by omega); clear hS7; have cO8 := hS8.mem.hO.cell; have cM8 := hS8.mem.hM.cell; have cV8 := hS8.mem.hV.cell))
        exact ⟨hS8.keep, ⟨N + 1, _, _⟩, (by show N < N + 1; omega), ins, ⟨hS8.mem, hS8.win, hS8.bel, hk5.trans hS8.keep⟩, by show (5 : Int) ≤ N + 1; omega, by show N + 1 ≤ 7 + m0; omega, f3, by show ins ≤ N + 1 - 5; omega, (fun y => hm1' y (by omega)), by show ((sn + 1 + 1 : Nat) : Int) ≤ 1 + 3 * (N + 1 - 5); omega⟩
    · gi_wp2_with (first | (refine ⟨trivial, ?_⟩; gi_at_call 15; refine (CallsIn.inRound l (callsIn_wide.2 (Next_calls _ hR.win))).mono ?_; rintro e w4 ⟨rfl, ho4⟩; have hS4 := hR.idle ho4 (by omega) (by omega); clear hR; have cO4 := hS4.mem.hO.cell; have fO4 := hS4.mem.hO.frozen; have hS5 := hS4.setO (N + 1) (by omega) (by omega); have cO5 := hS5.mem.hO.cell; have cM5 := hS5.mem.hM.cell; have cV5 := hS5.mem.hV.cell))
      exact ⟨hS5.keep, ⟨N + 1, _, _⟩, (by show N < N + 1; omega), ins, ⟨hS5.mem, hS5.win, hS5.bel, hk5.trans hS5.keep⟩, by show (5 : Int) ≤ N + 1; omega, by show N + 1 ≤ 7 + m0; omega, f3, by show ins ≤ N + 1 - 5; omega, hm0' (by omega), by show (sn : Int) ≤ 1 + 3 * (N + 1 - 5); omega⟩
  case done =>
    rintro D ⟨N, sm, sn⟩ W hD ⟨ins, hS, ⟨f1, f2, f3, f4, f5, f6⟩⟩ hm hK
    dsimp only at hS f1 f2 f3 f4 f5 f6 hm ⊢
    obtain rfl : N = 5 + (2 + m0) := by
      by_cases c : N < 7 + m0
      · rw [f5, if_pos ⟨rfl, c⟩] at hm; cases hm
      · omega
    have w5m : wrap64 (5 + (2 + m0)) = 5 + (2 + m0) := IntWalk.wrap64_in _ ⟨by omega, by omega⟩
    have cO := hS.mem.hO.cell
    have cI := hS.mem.hI.cell
    have cM := hS.mem.hM.cell
    have cV := hS.mem.hV.cell
    have hSd := hS.idle (Only.refl _ _).drew (by omega) (by omega)
    have dO := hSd.mem.hO.cell
    have dI := hSd.mem.hI.cell
    have dM := hSd.mem.hM.cell
    have dV := hSd.mem.hV.cell
    have hins : ins ≤ 2 + m0 := by omega
    have fR := hSd.mem.hR.frozen
    have cR := hSd.mem.hR.cell
    have hmx : Try.prog.follows Departure.mixedOrders = true := by kernel_rfl
    gi_wp2
    rename_i K hKK
    refine wpIn_mono (Q := Exit.then K (fun _ _ _ => False)) ?_ (fun e a' w' h => by cases e <;> first | exact h | exact h.elim)
    have hnx := Next_exact _ hSd.win
    have hK' : ((W.setCell ⟨w.heap.size + 1, 0, none⟩ (.bool true)).drew).heap[D]? = some (.deferred (some [])) := (KeepsOthers.setCell W ⟨w.heap.size + 1, 0, none⟩ (.bool true)).same D _ hK rfl
    have hbel2 : Below w.heap.size w (((W.setCell ⟨w.heap.size + 1, 0, none⟩ (.bool true)).drew).putObj D (.deferred none)) := ((hS.bel.setCell (p := ⟨w.heap.size + 1, 0, none⟩) (by simp) _).drew).trans (belowK_b (w := w) (Nat.le_refl _) _ D _ _ (by omega) hK' rfl rfl)
    have hc4 : ((W.setCell ⟨w.heap.size + 1, 0, none⟩ (.bool true)).drew).cell? ⟨w.heap.size + 1, 0, none⟩ = some (.bool true) := World.cell?_setCell_same' W _ _ (by rw [hS.mem.hR.cell]; rfl)
    have hc5 := cell_kept hc4 (grownBy_putObj' _ D (.deferred none)) (fun r e => by cases e; exact ⟨_, hK', rfl⟩)
    clear hS hSd st5 ha hm f5 f1 f2 f4 f6 hp hb s1 s2 s3 hpl hbl cO cI cM cV
    refine wpIn_wide.2 ?_
    have w5k : IntKind.i64.wrap (5 + (2 + m0)) = 5 + (2 + m0) := (IntWalk.i64_left _).trans w5m
    generalize hE : 5 + (2 + m0) = E at w5m w5k hnx dO
    go_region_with (go_at_call 15; refine hnx.mono ?_; rintro e w9 ⟨rfl, rfl⟩)
    all_goals refine hKK _ _ ?_
    all_goals gi_wp2
    all_goals refine ⟨by simp, .inl ⟨_, _, rfl, run_takeDeferred hK', ?_⟩⟩
    all_goals refine ⟨.bool true, ?_, rfl, hbel2⟩
    all_goals simp [results, Try.f4, go_sem, hc5]
  case stop =>
    rintro D c W _ h
    exact h.elim
end Go.Proofs.YtmfabpkliogjlaaWin
end
section
namespace Go.Proofs.YtmfabpkliogjlaaR
open Go.RowKit Go.Proofs.YtmfabpkliogjlaaW.PrintWords
theorem list_of {α : Type} {p : Nat → α → Prop} : ∀ (n : Nat), (∀ i, i < n → ∃ y, p i y) → ∃ ys : List α, ys.length = n ∧ ∀ i y, ys[i]? = some y → p i y
  | 0, _ => ⟨[], rfl, fun i y h => by simp at h⟩
  | n + 1, h => by
    obtain ⟨ys, hl, hp⟩ := list_of n (fun i hi => h i (by omega))
    obtain ⟨y, hy⟩ := h n (by omega)
    refine ⟨ys ++ [y], by simp [hl], fun i z hz => ?_⟩
    by_cases hi : i < n
    · rw [List.getElem?_append_left (by omega)] at hz
      exact hp i z hz
    · have : i = n := by
        have := (List.getElem?_eq_some_iff.1 hz).1
        simp [hl] at this
        omega
      subst this
      rw [List.getElem?_append_right (by omega)] at hz
      simp [hl] at hz
      subst hz
      exact hy
theorem weightsAll_mem {H : Type} {P : Program} {e : TypeId} : ∀ {ds : List (DataW H)} {d : DataW H}, d ∈ ds → ∀ n ∈ d.weights P e, n ∈ DataW.weightsAll P e ds
  | d0 :: ds, d, hd, n, hn => by
    simp only [DataW.weightsAll, List.mem_append]
    rcases List.mem_cons.1 hd with rfl | hd
    · exact Or.inl hn
    · exact Or.inr (weightsAll_mem hd n hn)
  | [], d, hd, _, _ => by simp at hd
def Reads {α : Type} (P : Program) (t : TypeId) (d : Kd α) (Q : α → Prop) : Prop :=
  ∀ (H : Type) (enc : TypeId × Value → H) (w : World) (base : Nat) (spare : Nat → Bool) (held : Bool) (fuel : Nat) (cs : List Value) (x : DataW H × List MemPlace),
    DataW.trod enc P w base spare held fuel t cs = some x → (∀ n ∈ x.1.weights P t, n ≤ reachBytes) → ∃ y, d.K w y cs ∧ Q y
theorem reads_int {P : Program} {t : TypeId} {k : IntKind} (ht : P.underlying t = some (.int k)) : Reads P t (Kd.int k) (fun n => (Lit.int k n).wf = true) := by
  intro H enc w base spare held fuel cs x h _
  obtain ⟨n, rfl, _, hw⟩ := DataW.trod_int ht h
  exact ⟨n, rfl, hw⟩
theorem reads_slice {α : Type} {P : Program} {t e : TypeId} {d : Kd α} {Q : α → Prop} (ht : P.underlying t = some (.slice e)) (hc : P.cellsOf e = d.sz) {B : Nat} (hB : P.bytesOf e = B) (he : Reads P e d Q) :
    Reads P t (Kd.slice e d) (fun xs => xs.length * B ≤ 140737488351232 ∧ ∀ x ∈ xs, Q x) := by
  intro H enc w base spare held fuel cs x h hb
  rcases Deep.open_slice ht h with ⟨rfl, rfl⟩ | ⟨a, len, cap, m, n, D, Pl, rfl, _, hl, hm, hmm, rfl, hx⟩
  · exact ⟨[], ⟨none, 0, rfl, Nat.le_refl _, ⟨rfl, by simp, fun h0 => absurd h0 (by simp)⟩⟩, by simp, by simp⟩
  · have hlm : len ≤ m := by rw [hmm]; split <;> omega
    have hex : ∀ i, i < len → ∃ y, (∃ cs', w.cells? base (a.add (i * P.cellsOf e)) (P.cellsOf e) = some cs' ∧ d.K w y cs') ∧ Q y := by
      intro i hi
      obtain ⟨cs', h1, h2⟩ := hx i (by omega)
      obtain ⟨y, hy, hq⟩ := he H enc w base spare held n cs' _ h2 (fun k hk => hb k (by
        simp only [DataW.weights, ht, List.mem_cons, List.mem_append]
        refine Or.inr (Or.inl (weightsAll_mem (d := D i) ?_ k hk))
        exact List.mem_map.2 ⟨i, List.mem_range.2 hi, rfl⟩))
      exact ⟨y, ⟨cs', h1, hy⟩, hq⟩
    obtain ⟨ys, hlen, hp⟩ := list_of len hex
    subst hlen
    have hcap : ys.length ≤ 9223372036854775807 := by unfold maxLen at hm; omega
    refine ⟨ys, ⟨some a, cap, rfl, hl, rfl, hcap, fun _ => ⟨a, rfl, fun j p hj => ?_⟩⟩, ?_, fun x hx' => ?_⟩
    · obtain ⟨⟨cs', h1, hK⟩, _⟩ := hp j p hj
      obtain ⟨_, hl2, hcell⟩ := World.cells?_some h1
      rw [hc] at hl2
      refine ⟨cs', hl2, hK, fun i u hu => ?_⟩
      have hi : i < P.cellsOf e := by rw [hc, ← hl2]; exact (List.getElem?_eq_some_iff.1 hu).1
      rw [← add_add, ← hc]
      exact (hcell i hi).trans hu
    · have := hb _ (by simp only [DataW.weights, ht]; exact List.mem_cons_self)
      simp only [List.length_map, List.length_range] at this
      rw [hB] at this
      have e1 : reachBytes = 140737488351232 := rfl
      rw [e1] at this
      refine Nat.le_trans (Nat.mul_le_mul_right _ ?_) this
      omega
    · obtain ⟨i, hi⟩ := List.getElem?_of_mem hx'
      exact (hp i x hi).2
def ReadsL {α : Type} (P : Program) (o : Nat) (fs : List Field) (d : Kd α) (Q : α → Prop) : Prop :=
  ∀ (H : Type) (enc : TypeId × Value → H) (w : World) (base : Nat) (spare : Nat → Bool) (held : Bool) (fuel : Nat) (cs : List Value) (xs : List (DataW H × List MemPlace)),
    xs.length = fs.length → (∀ (i : Nat) (f : Field), fs[i]? = some f → DataW.trod enc P w base spare held fuel f.type ((cs.drop f.offset).take (P.cellsOf f.type)) = xs[i]?) →
    (∀ n ∈ DataW.weightsEach P (fs.map (·.type)) (xs.map (·.1)), n ≤ reachBytes) → o + d.sz ≤ cs.length → ∃ y, d.K w y ((cs.drop o).take d.sz) ∧ Q y
theorem readsL_one {α : Type} {P : Program} {o : Nat} {f : Field} {d : Kd α} {Q : α → Prop} (h : Reads P f.type d Q) (ho : f.offset = o) (hc : P.cellsOf f.type = d.sz) : ReadsL P o [f] d Q := by
  intro H enc w base spare held fuel cs xs hl hx hb _
  match xs, hl with
  | [x], _ =>
    have h0 := hx 0 f rfl
    rw [ho, hc] at h0
    exact h H enc w base spare held fuel _ x h0 (fun n hn => hb n (by simpa [DataW.weightsEach] using hn))
theorem readsL_cons {α β : Type} {P : Program} {o : Nat} {f : Field} {fs : List Field} {a : Kd α} {b : Kd β} {Qa : α → Prop} {Qb : β → Prop} (h : Reads P f.type a Qa) (ho : f.offset = o) (hc : P.cellsOf f.type = a.sz) (ht : ReadsL P (o + a.sz) fs b Qb) :
    ReadsL P o (f :: fs) (Kd.pair a b) (fun y => Qa y.1 ∧ Qb y.2) := by
  intro H enc w base spare held fuel cs xs hl hx hb hlen
  match xs, hl with
  | x :: xs, hl =>
    have h0 := hx 0 f rfl
    rw [ho, hc] at h0
    obtain ⟨y, hy, hq⟩ := h H enc w base spare held fuel _ x h0 (fun n hn => hb n (by simp only [List.map_cons, DataW.weightsEach, List.mem_append]; exact Or.inl hn))
    have hsz : (Kd.pair a b).sz = a.sz + b.sz := rfl
    obtain ⟨z, hz, hr⟩ := ht H enc w base spare held fuel cs xs (by simpa using hl) (fun i g hg => hx (i + 1) g hg) (fun n hn => hb n (by simp only [List.map_cons, DataW.weightsEach, List.mem_append]; exact Or.inr hn)) (by rw [hsz] at hlen; omega)
    refine ⟨(y, z), ⟨_, _, ?_, hy, hz⟩, hq, hr⟩
    rw [hsz, List.take_add, List.drop_drop]
theorem reads_struct {α β : Type} {P : Program} {t : TypeId} {fs : Array Field} {d : Kd α} {Q : α → Prop} {f : β → α} (g : α → β) (hg : ∀ y, f (g y) = y) (ht : P.underlying t = some (.struct fs)) (hc : P.cellsOf t = d.sz) (h : ReadsL P 0 fs.toList d Q) :
    Reads P t (Kd.iso d f) (fun x => Q (f x)) := by
  intro H enc w base spare held fuel cs x hx hb
  obtain ⟨xs, n, rfl, rfl, hl, hlen, hall⟩ := DataW.trod_struct ht hx
  obtain ⟨y, hy, hq⟩ := h H enc w base spare held n cs xs (by simpa using hlen) (fun i f hf => hall i f (by simpa using hf)) (fun k hk => hb k (by simp only [DataW.weights, ht]; exact hk)) (by omega)
  rw [List.drop_zero, List.take_of_length_le (by omega)] at hy
  refine ⟨g y, ?_, ?_⟩
  · show d.K w (f (g y)) cs
    rw [hg]; exact hy
  · show Q (f (g y))
    rw [hg]; exact hq
theorem agg_arg {α : Type} {H : Type} {enc : TypeId × Value → H} {P : Program} {W : World} {base : Nat} {spare : Nat → Bool} {held : Bool} {t : TypeId} {d : Kd α} {Q : α → Prop} {v : Value} {D : DataW H} {ps : List MemPlace}
    (h : DataW.Trod enc P W base spare held t v D ps) {ts : List TypeId} {ds : List (DataW H)} {j : Nat}
    (hsz : (DataW.weightsEach P ts ds).all (· ≤ reachBytes) = true) (ht : ts[j]? = some t) (hd : ds[j]? = some D) (hR : Reads P t d Q) :
    ∃ x : α, d.K W x v.cells.toList ∧ Q x := by
  obtain ⟨fuel, hf⟩ := h
  exact hR H enc W base spare held fuel _ _ hf (fun n hn => by
    have := List.all_eq_true.1 hsz n (DataW.weights_mem_each ht hd n hn)
    simpa using this)
end Go.Proofs.YtmfabpkliogjlaaR
end
section
namespace Go.Proofs.YtmfabpkliogjlaaWin
open Go.RowKit Go.Proofs.YtmfabpkliogjlaaR Go.Proofs.YtmfabpkliogjlaaW.PrintWords
abbrev SOrd : Type := Int × Int × List Int × Int
abbrev kOrd : Kd SOrd := Kd.pair (Kd.int .i64) (Kd.pair (Kd.int .i64) (Kd.pair (Kd.slice 3 (Kd.int .i64)) (Kd.int .i64)))
theorem reads3 : Reads Try.prog 3 (Kd.int .i64) (fun n => (Lit.int .i64 n).wf = true) := reads_int (by kernel_rfl)
theorem reads29 : Reads Try.prog 29 (Kd.slice 3 (Kd.int .i64)) (fun l => l.length * 8 ≤ 140737488351232 ∧ ∀ x ∈ l, (Lit.int .i64 x).wf = true) := reads_slice (by kernel_rfl) (by kernel_rfl) (by kernel_rfl) reads3
abbrev WfOrd (x : SOrd) : Prop := (Lit.int .i64 x.1).wf = true ∧ (Lit.int .i64 x.2.1).wf = true ∧ (x.2.2.1.length * 8 ≤ 140737488351232 ∧ ∀ y ∈ x.2.2.1, (Lit.int .i64 y).wf = true) ∧ (Lit.int .i64 x.2.2.2).wf = true
theorem reads31 : Reads Try.prog 31 (Kd.iso kOrd (fun x : SOrd => x)) WfOrd := by
  have h3 : ReadsL Try.prog 3 [{ name := "Stop", type := 3, offset := 3, embedded := false, tag := "", pkgPath := "", byteOffset := 40 }] (Kd.int .i64) _ := readsL_one reads3 rfl (by kernel_rfl)
  have h2 : ReadsL Try.prog 2 [{ name := "Turns", type := 29, offset := 2, embedded := false, tag := "", pkgPath := "", byteOffset := 16 }, _] (Kd.pair (Kd.slice 3 (Kd.int .i64)) (Kd.int .i64)) _ := readsL_cons reads29 rfl (by kernel_rfl) h3
  have h1 : ReadsL Try.prog 1 [{ name := "Size", type := 3, offset := 1, embedded := false, tag := "", pkgPath := "", byteOffset := 8 }, _, _] (Kd.pair (Kd.int .i64) (Kd.pair (Kd.slice 3 (Kd.int .i64)) (Kd.int .i64))) _ := readsL_cons reads3 rfl (by kernel_rfl) h2
  have h0 : ReadsL Try.prog 0 [{ name := "Next", type := 3, offset := 0, embedded := false, tag := "", pkgPath := "", byteOffset := 0 }, _, _, _] kOrd _ := readsL_cons reads3 rfl (by kernel_rfl) h1
  exact reads_struct (fun y => y) (fun _ => rfl) Try.underlying31 (by kernel_rfl) h0
theorem agg_of_cells4 {v a b c d : Value} (h : v.cells.toList = [a, b, c, d]) : v = .agg #[a, b, c, d] := by
  cases v <;> simp [Value.cells] at h
  rename_i arr
  cases arr
  simp_all
theorem open31 {w : World} {x : SOrd} {v : Value} (h : (Kd.iso kOrd (fun x : SOrd => x)).K w x v.cells.toList) : ∃ A c, v = .agg #[.int .i64 x.1, .int .i64 x.2.1, .slice A x.2.2.1.length c, .int .i64 x.2.2.2] ∧
    Kd.C (Kd.int .i64) w A x.2.2.1.length x.2.2.1 ∧ x.2.2.1.length ≤ c := by
  obtain ⟨_, _, hv, rfl, _, _, rfl, rfl, _, _, rfl, ⟨A, c, rfl, h1, h2⟩, rfl⟩ := h
  exact ⟨A, c, agg_of_cells4 hv, h2, h1⟩
end Go.Proofs.YtmfabpkliogjlaaWin
end
section
namespace Go.Proofs.YtmfabpkliogjlaaWin
open Go.RowKit
set_option linter.unusedVariables false
theorem Within.calls (k : Nat) (q0 q1 : Int) (A : Option Addr) (len cap : Nat) (q3 : Int) (r : Bool) (w : World) (h : k = k) : Calls Try.prog 4 #[.agg #[.int .i64 q0, .int .i64 q1, .slice A len cap, .int .i64 q3]] w fun e w' => e = .returned (.bool true) ∧ Below w.heap.size w w' := Within_go q0 q1 q3 A len cap w
theorem Within_pure (x : SOrd) (h : WfOrd x) : ∃ k : Nat, k = k := ⟨0, rfl⟩
end Go.Proofs.YtmfabpkliogjlaaWin
end
