/- WindowStreams: for every input the law of a stream out of order by less than the width answers true. -/
import Derived.Maps.OwnSet
import Derived.Below
import Derived.WalkKit
import Derived.KernelRfl
import Derived.Test.YtmfabpkliogjlaaProg
import Derived.Tactics
import Derived.IntWalk
import Derived.RangeFuncBox
import Derived.RangeFuncNested
import Derived.RangeFuncBound
import Derived.RangeFuncCalls
import Derived.RangeFuncLeaves
import Derived.Shelf.Abstract
import Derived.Shelf.RegionOpen
import Derived.OwnWalkIn
import Derived.TacticsInMore
import Derived.LoopNIn
import Derived.LoopIn
import Derived.Deep.RegionWith
import Derived.Deep.Draws
import Derived.Deep.AppendLies
import Derived.Maps.AppendAt
import Derived.OwnWalk
import Derived.Laws.BytesArg
import Derived.Laws.MakeOwn
import Derived.Laws.OwnMore
import Derived.Deep.OwnRows
import Derived.Lib.ConvBytes
import Derived.Laws.Slices
import Derived.RowKit3
import Derived.Deep.LoopGhost
import Derived.Deep.QuietTactic
import Derived.BigQuiet
import Derived.WideLaws
import Derived.Deep.DeepCutAuto
import Derived.Deep.CutBlock
import Derived.Deep.RegionHeld3
import Derived.Laws.Rows
import Derived.Lib.AppendStr
import Derived.ArgAppend
import Derived.Laws.IdiomCopy
import Derived.OrdersHeld
import Derived.Laws.BitsLemmas
import Derived.RowKit
import Derived.Shelf.SlIterI.Nil
import Derived.Shelf.SortM.Plain
import Derived.Shelf.SortM.SortNone
import Derived.Shelf.SlGeneric
import Derived.Ground.GgzProg
import Derived.Ground.SlgmProg
import Derived.SizedLaws
import Derived.Deep.Slices
import Derived.ChangeArms
import Derived.DataReads
import Derived.Lib.Hide
import Derived.Test.YtmfabpkliogjlaaClaimStreamsW0
section
namespace Go.Proofs.YtmfabpkliogjlaaWin
open Go.RowKit Go.Maps
structure ElemK (α : Type) where
  R : Value → Option (DataW Unit × List MemPlace)
  val : α → Value
  dat : α → DataW Unit
  put : ∀ a, R (val a) = some (dat a, [])
  inv : ∀ {v a ps}, R v = some (dat a, ps) → v = val a
structure Only (K : Nat → Prop) (W W' : World) : Prop where
  os : W'.os = W.os
  tape : W'.tape = W.tape
  output : W'.output = W.output
  size : W.heap.size ≤ W'.heap.size
  block : ∀ k, k < W.heap.size → ¬ K k → W'.heap[k]? = W.heap[k]?
theorem Only.refl (K : Nat → Prop) (W : World) : Only K W W := ⟨rfl, rfl, rfl, Nat.le_refl _, fun _ _ _ => rfl⟩
theorem Only.trans {K : Nat → Prop} {A B C : World} (h : Only K A B) (k : Only K B C) : Only K A C :=
  ⟨k.os.trans h.os, k.tape.trans h.tape, k.output.trans h.output, Nat.le_trans h.size k.size, fun i hi hn => (k.block i (Nat.lt_of_lt_of_le hi h.size) hn).trans (h.block i hi hn)⟩
theorem Only.mono {K K' : Nat → Prop} {A B : World} (h : Only K A B) (hk : ∀ i, K i → K' i) : Only K' A B := ⟨h.os, h.tape, h.output, h.size, fun i hi hn => h.block i hi (fun hki => hn (hk i hki))⟩
theorem Only.below {K : Nat → Prop} {A B : World} (h : Only K A B) {n : Nat} (hn : n ≤ A.heap.size) (hk : ∀ i, K i → n ≤ i) : Below n A B :=
  ⟨h.os, h.tape, h.output, h.size, fun i hi => h.block i (Nat.lt_of_lt_of_le hi hn) (fun hki => by have := hk i hki; omega)⟩
theorem Only.of_below {K : Nat → Prop} {A B : World} (h : Below A.heap.size A B) : Only K A B := ⟨h.os, h.tape, h.output, h.size, fun i hi _ => h.block i hi⟩
theorem Only.alloc (K : Nat → Prop) (W : World) (o : Obj) : Only K W (W.alloc o) := Only.of_below ((Below.refl _ W).alloc (Nat.le_refl _) o)
theorem Only.drew {K : Nat → Prop} {A B : World} (h : Only K A B) : Only K A B.drew := ⟨h.os, h.tape, h.output, h.size, h.block⟩
theorem Only.setCell (K : Nat → Prop) (W : World) (p : Addr) (v : Value) (hk : K p.block) : Only K W (W.setCell p v) :=
  ⟨rfl, rfl, rfl, by simp [World.setCell], fun i _ hn => Below.heap_setCell _ _ _ _ (fun e => hn (e ▸ hk))⟩
theorem Only.turned {K : Nat → Prop} {A B : World} {b : Nat} (h : A.mapTurned B b) (hk : K b) : Only K A B := by
  obtain ⟨es, clock, es', clock', hb, rfl⟩ := h
  exact ⟨rfl, rfl, rfl, by simp [ChangeMaps.setBlock], fun i _ hn => ChangeMaps.heap_setBlock_other hb _ (fun e => hn (e ▸ hk))⟩
section
variable {α : Type} {P : Program}
def MapIs (P : Program) (E : ElemK α) (W : World) (b : Nat) (m : Int → Option α) (n : Nat) : Prop :=
  ∃ D : DataW Unit, W.ownsMap P 3 E.R b n D ∧ ∀ x, (Lit.int .i64 x).wf = true → match m x with
    | some a => ∀ z, D.atKey (.int .i64 x) z = E.dat a
    | none => ∀ z, D.atKey (.int .i64 x) z = z
variable {E : ElemK α} {W W' : World} {b n : Nat} {m : Int → Option α}
theorem MapIs.mono (h : MapIs P E W b m n) {n' : Nat} (hn : n ≤ n') : MapIs P E W b m n' := by
  obtain ⟨D, h1, h2⟩ := h
  exact ⟨D, h1.mono hn, h2⟩
theorem MapIs.lt (h : MapIs P E W b m n) : b < W.heap.size := by
  obtain ⟨D, h1, _⟩ := h
  exact h1.lt
theorem MapIs.block (h : MapIs P E W b m n) (hb : W'.heap[b]? = W.heap[b]?) : MapIs P E W' b m n := by
  obtain ⟨D, ⟨es, clock, h0, h1⟩, h2⟩ := h
  exact ⟨D, ⟨es, clock, hb.trans h0, h1⟩, h2⟩
theorem MapIs.isMap (h : MapIs P E W b m n) : ∃ es clock, W.heap[b]? = some (.map es clock) := by
  obtain ⟨D, ⟨es, clock, h0, _⟩, _⟩ := h
  exact ⟨es, clock, h0⟩
theorem MapIs.made (W : World) : MapIs P E (W.alloc (.map #[] 0)) W.heap.size (fun _ => none) 0 :=
  ⟨_, World.ownsMap_made W P 3 E.R, fun _ _ => fun _ => rfl⟩
theorem litKey (x : Int) : WideAt.IsKeyLit (.int .i64 x) := trivial
theorem litNe {x y : Int} (h : x ≠ y) : (Lit.int .i64 x) ≠ Lit.int .i64 y := fun e => h (by cases e; rfl)
variable {t e : TypeId} (K : Keyed P 3) (h3 : P.underlying 3 = some (.int .i64)) (ht : P.underlying t = some (.map 3 e))
theorem MapIs.look (h : MapIs P E W b m n) (h3 : P.underlying 3 = some (.int .i64)) (ht : P.underlying t = some (.map 3 e)) {z : α} (hz : (zeroValue e).run P W = .ok (E.val z) W) {x : Int} (hx : (Lit.int .i64 x).wf = true) :
    (Instr.lookup t (.map (some b)) (.int .i64 x) true).run P W = .ok (.tuple #[E.val ((m x).getD z), .bool (m x).isSome]) W := by
  obtain ⟨D, h1, h2⟩ := h
  obtain ⟨v, ps, hrun, hv⟩ := h1.look_ok (int_keyed h3) ht hz (E.put z) (keyOf_int_mk h3 hx)
  have h2 := h2 x hx
  rw [hrun]
  cases hm : m x with
  | none =>
    rw [hm] at h2
    simp only at h2
    rw [h2] at hv
    rw [E.inv hv, has_false_of_atKey h2]
    rfl
  | some a =>
    rw [hm] at h2
    simp only at h2
    rw [h2] at hv
    rw [E.inv hv, has_true_of_atKey h2]
    rfl
theorem MapIs.store (h : MapIs P E W b m n) (h3 : P.underlying 3 = some (.int .i64)) (ht : P.underlying t = some (.map 3 e)) (hn : n < maxLen) {x : Int} (hx : (Lit.int .i64 x).wf = true) (a : α) :
    ∃ W', (Instr.mapUpdate t (.map (some b)) (.int .i64 x) (E.val a)).run P W = .ok () W' ∧ MapIs P E W' b (fun y => if y = x then some a else m y) (n + 1) ∧ W.mapTurned W' b := by
  obtain ⟨D, h1, h2⟩ := h
  have hD := h1.isMap
  obtain ⟨W', hrun, hown, hturn⟩ := h1.store (int_keyed h3) ht hn (keyOf_int_mk h3 hx) (E.put a)
  refine ⟨W', hrun, ⟨_, hown, fun y hy => ?_⟩, hturn⟩
  by_cases c : y = x
  · subst c
    simp only [if_true]
    exact fun z => atKey_put_same hD (litKey _) _ _
  · simp only [if_neg c]
    have := h2 y hy
    cases hm : m y with
    | none => rw [hm] at this; exact fun z => (atKey_put_other (litNe c) _ _).trans (this z)
    | some a' => rw [hm] at this; exact fun z => (atKey_put_other (litNe c) _ _).trans (this z)
theorem MapIs.drop (h : MapIs P E W b m n) (h3 : P.underlying 3 = some (.int .i64)) (ht : P.underlying t = some (.map 3 e)) (ty : TypeId) {x : Int} (hx : (Lit.int .i64 x).wf = true) :
    ∃ W', (Builtin.delete_ #[t, 3] ty #[.map (some b), .int .i64 x]).run P W = .ok (.tuple #[]) W' ∧ MapIs P E W' b (fun y => if y = x then none else m y) n ∧ W.mapTurned W' b := by
  obtain ⟨D, h1, h2⟩ := h
  obtain ⟨W', hrun, hown, hturn⟩ := h1.drop (int_keyed h3) ht (keyOf_int_mk h3 hx) ty
  refine ⟨W', hrun, ⟨_, hown, fun y hy => ?_⟩, hturn⟩
  by_cases c : y = x
  · subst c
    simp only [if_true]
    exact fun z => atKey_del_same _
  · simp only [if_neg c]
    have := h2 y hy
    cases hm : m y with
    | none => rw [hm] at this; exact fun z => (atKey_del_other (litNe c) _).trans (this z)
    | some a' => rw [hm] at this; exact fun z => (atKey_del_other (litNe c) _).trans (this z)
end
end Go.Proofs.YtmfabpkliogjlaaWin
end
section
namespace Go.Proofs.YtmfabpkliogjlaaWin
open Go.RowKit Go.Maps
set_option linter.unusedSimpArgs false
set_option linter.unusedVariables false
def EI : ElemK Int where
  R v := match v with
    | .agg cs => match cs.toList with
      | [.int .i64 a] => some (.lit (.int .i64 a), [])
      | _ => none
    | _ => none
  val a := .agg #[.int .i64 a]
  dat a := .lit (.int .i64 a)
  put a := rfl
  inv {v a ps} h := by
    cases v <;> simp at h
    rename_i cs
    cases cs with | mk l =>
    split at h
    · rename_i h'
      simp at h h'
      subst h'
      rw [h.1]
    · cases h
def WinAt (W : World) (p b : Nat) (nx sz : Int) (m : Int → Option Int) (n : Nat) : Prop :=
  W.heap[p]? = some (.cells #[.int .i64 nx, .int .i64 sz, .map (some b)] 73 (0, 0)) ∧ MapIs Try.prog EI W b m n
section
variable {W W' : World} {p b : Nat} {nx sz : Int} {m : Int → Option Int} {n : Nat}
theorem WinAt.c0 (h : WinAt W p b nx sz m n) : W.cell? ⟨p, 0, none⟩ = some (.int .i64 nx) := by simp [World.cell?, h.1]
theorem WinAt.c1 (h : WinAt W p b nx sz m n) : W.cell? ⟨p, 1, none⟩ = some (.int .i64 sz) := by simp [World.cell?, h.1]
theorem WinAt.c2 (h : WinAt W p b nx sz m n) : W.cell? ⟨p, 2, none⟩ = some (.map (some b)) := by simp [World.cell?, h.1]
theorem WinAt.f0 (h : WinAt W p b nx sz m n) : W.frozen? ⟨p, 0, none⟩ = false := by simp [World.frozen?, h.1]
theorem WinAt.lt (h : WinAt W p b nx sz m n) : p < W.heap.size := (Array.getElem?_eq_some_iff.1 h.1).1
theorem WinAt.ne (h : WinAt W p b nx sz m n) : p ≠ b := by
  rintro rfl
  obtain ⟨es, clock, he⟩ := h.2.isMap
  rw [h.1] at he
  cases he
theorem WinAt.only {K : Nat → Prop} (h : WinAt W p b nx sz m n) (hk : Only K W W') (h1 : ¬ K p) (h2 : ¬ K b) : WinAt W' p b nx sz m n :=
  ⟨(hk.block p h.lt h1).trans h.1, h.2.block (hk.block b h.2.lt h2)⟩
theorem WinAt.below (h : WinAt W p b nx sz m n) (hk : Below W.heap.size W W') : WinAt W' p b nx sz m n := h.only (K := fun _ => False) (Only.of_below hk) (fun h => h) (fun h => h)
theorem WinAt.mono (h : WinAt W p b nx sz m n) {n' : Nat} (hn : n ≤ n') : WinAt W p b nx sz m n' := ⟨h.1, h.2.mono hn⟩
theorem WinAt.turn {m' : Int → Option Int} {n' : Nat} (h : WinAt W p b nx sz m n) (ht : W.mapTurned W' b) (hm : MapIs Try.prog EI W' b m' n') : WinAt W' p b nx sz m' n' :=
  ⟨((Only.turned (K := fun k => k = b) ht rfl).block p h.lt h.ne).trans h.1, hm⟩
theorem WinAt.set (h : WinAt W p b nx sz m n) (y : Int) : WinAt (W.setCell ⟨p, 0, none⟩ (.int .i64 y)) p b y sz m n := by
  refine ⟨?_, h.2.block (Below.heap_setCell _ _ _ _ h.ne.symm)⟩
  have hp := h.1
  have hlt := h.lt
  simp only [World.setCell]
  rw [Array.getElem?_modify, if_pos rfl, hp]
  rfl
end
abbrev Fits (x : Int) : Prop := (Lit.int .i64 x).wf = true
theorem wf64 {x : Int} (h : Fits x) : -9223372036854775808 ≤ x ∧ x ≤ 9223372036854775807 := by
  have h' : (Lit.int .i64 x).wf = true := h
  simp [Lit.wf, IntKind.min, IntKind.max, IntKind.signed, IntKind.bits] at h'
  omega
set_option maxRecDepth 100000 in
set_option maxHeartbeats 4000000 in
theorem New_calls (nx sz : Int) (w : World) : Calls Try.prog 12 #[.int .i64 nx, .int .i64 sz] w fun e w' =>
    if nx < 0 ∨ nx > 1048576 ∨ sz < 1 ∨ sz > 1048576 then e = .returned (.tuple #[.pointer none, .int .i64 2]) ∧ Below w.heap.size w w'
    else e = .returned (.tuple #[.pointer (some ⟨w.heap.size + 1, 0, none⟩), .int .i64 0]) ∧ WinAt w' (w.heap.size + 1) w.heap.size nx sz (fun _ => none) 0 ∧ Below w.heap.size w w' := by
  have hmm := @run_makeMap Try.prog
  by_cases c1 : nx < 0
  · simp only [if_pos (Or.inl c1 : nx < 0 ∨ nx > 1048576 ∨ sz < 1 ∨ sz > 1048576)]
    go_enter Try.func12, Try.ntmps12
    go_wp2
    go_ret2
    exact ⟨rfl, Below.refl _ _⟩
  by_cases c2 : nx > 1048576
  · simp only [if_pos (Or.inr (Or.inl c2) : nx < 0 ∨ nx > 1048576 ∨ sz < 1 ∨ sz > 1048576)]
    go_enter Try.func12, Try.ntmps12
    go_wp2
    go_ret2
    exact ⟨rfl, Below.refl _ _⟩
  by_cases c3 : sz < 1
  · simp only [if_pos (Or.inr (Or.inr (Or.inl c3)) : nx < 0 ∨ nx > 1048576 ∨ sz < 1 ∨ sz > 1048576)]
    go_enter Try.func12, Try.ntmps12
    go_wp2
    go_ret2
    exact ⟨rfl, Below.refl _ _⟩
  by_cases c4 : sz > 1048576
  · simp only [if_pos (Or.inr (Or.inr (Or.inr c4)) : nx < 0 ∨ nx > 1048576 ∨ sz < 1 ∨ sz > 1048576)]
    go_enter Try.func12, Try.ntmps12
    go_wp2
    go_ret2
    exact ⟨rfl, Below.refl _ _⟩
  simp only [if_neg (fun h => by omega : ¬ (nx < 0 ∨ nx > 1048576 ∨ sz < 1 ∨ sz > 1048576))]
  have hM := MapIs.made (P := Try.prog) (E := EI) w
  have hb := ((Below.refl w.heap.size w).alloc (Nat.le_refl _) (.map #[] 0)).alloc (by simp) (.cells #[.int .i64 nx, .int .i64 sz, .map (some w.heap.size)] 73)
  have h1 := World.alloc_heap_new (w.alloc (.map #[] 0)) (.cells #[.int .i64 nx, .int .i64 sz, .map (some w.heap.size)] 73)
  rw [World.size_alloc] at h1
  go_enter Try.func12, Try.ntmps12
  go_wp2
  go_ret2
  exact ⟨rfl, ⟨h1, hM.block (Below.heap_alloc _ _ _ (by simp))⟩, hb⟩
theorem look_some {W : World} {p b n : Nat} {nx sz : Int} {m : Int → Option Int} (h : WinAt W p b nx sz m n) {x a : Int} (hf : Fits x) (hm : m x = some a) :
    (Instr.lookup 71 (.map (some b)) (.int .i64 x) true).run Try.prog W = .ok (.tuple #[.agg #[.int .i64 a], .bool true]) W := by
  have := h.2.look Try.underlying3 Try.underlying71 (z := (0 : Int)) (Try.zeroValue75 W) hf
  rw [hm] at this
  exact this
theorem look_none {W : World} {p b n : Nat} {nx sz : Int} {m : Int → Option Int} (h : WinAt W p b nx sz m n) {x : Int} (hf : Fits x) (hm : m x = none) :
    (Instr.lookup 71 (.map (some b)) (.int .i64 x) true).run Try.prog W = .ok (.tuple #[.agg #[.int .i64 0], .bool false]) W := by
  have := h.2.look Try.underlying3 Try.underlying71 (z := (0 : Int)) (Try.zeroValue75 W) hf
  rw [hm] at this
  exact this
set_option maxRecDepth 100000 in
set_option maxHeartbeats 4000000 in
theorem Peek_calls {p b n : Nat} {nx sz : Int} {m : Int → Option Int} (w : World) (h : WinAt w p b nx sz m n) (hf : Fits nx) : Calls Try.prog 17 #[.pointer (some ⟨p, 0, none⟩)] w fun e w' =>
    e = .returned (.tuple #[.int .i64 ((m nx).getD 0), .int .i64 (if (m nx).isSome then 0 else 15)]) ∧ Only (fun _ => False) w w' := by
  have c0 := h.c0
  have c2 := h.c2
  cases hm : m nx with
  | none =>
    have h2 : WinAt (w.alloc (.cells #[.int .i64 0] 75)).drew p b nx sz m n := h.below (((Below.refl _ w).alloc (Nat.le_refl _) _).drew)
    have h3 : WinAt w.drew p b nx sz m n := h.below (Below.refl _ w).drew
    have d0 := h2.c0
    have d2 := h2.c2
    have e0 := h3.c0
    have e2 := h3.c2
    have hl := look_none h hf hm
    have hl2 := look_none h2 hf hm
    have hl3 := look_none h3 hf hm
    clear h h2 h3 hf hm
    simp only [Option.isSome_none, Option.isSome_some, Bool.false_eq_true, if_false, if_true, Option.getD_none, Option.getD_some]
    go_enter Try.func17, Try.ntmps17
    go_wp2
    go_region
    all_goals go_wp2
    all_goals go_ret2
    all_goals exact ⟨rfl, (Only.alloc _ _ _).drew⟩
  | some a =>
    have h2 : WinAt (w.alloc (.cells #[.int .i64 0] 75)).drew p b nx sz m n := h.below (((Below.refl _ w).alloc (Nat.le_refl _) _).drew)
    have h3 : WinAt w.drew p b nx sz m n := h.below (Below.refl _ w).drew
    have d0 := h2.c0
    have d2 := h2.c2
    have e0 := h3.c0
    have e2 := h3.c2
    have hl := look_some h hf hm
    have hl2 := look_some h2 hf hm
    have hl3 := look_some h3 hf hm
    clear h h2 h3 hf hm
    simp only [Option.isSome_none, Option.isSome_some, Bool.false_eq_true, if_false, if_true, Option.getD_none, Option.getD_some]
    go_enter Try.func17, Try.ntmps17
    go_wp2
    go_region
    all_goals go_wp2
    all_goals go_ret2
    all_goals exact ⟨rfl, (Only.alloc _ _ _).drew⟩
set_option maxRecDepth 100000 in
set_option maxHeartbeats 4000000 in
theorem Drop_calls {p b n : Nat} {nx sz : Int} {m : Int → Option Int} (w : World) (h : WinAt w p b nx sz m n) (x : Int) (hf : Fits x) : Calls Try.prog 30 #[.pointer (some ⟨p, 0, none⟩), .int .i64 x] w fun e w' =>
    e = .returned (.int .i64 (if (m x).isSome then 0 else 15)) ∧ WinAt w' p b nx sz (fun y => if y = x then none else m y) n ∧ Only (fun k => k = b) w w' := by
  have c2 := h.c2
  cases hm : m x with
  | none =>
    have hl := look_none h hf hm
    simp only [Option.isSome_none, Bool.false_eq_true, if_false]
    go_enter Try.func30, Try.ntmps30
    go_wp2
    go_ret
    have e1 : (fun y => if y = x then none else m y) = m := by
      funext y
      by_cases c : y = x
      · rw [if_pos c, c, hm]
      · rw [if_neg c]
    refine ⟨rfl, ?_, Only.alloc _ _ _⟩
    rw [e1]
    exact h.below ((Below.refl _ w).alloc (Nat.le_refl _) _)
  | some a =>
    have hl := look_some h hf hm
    simp only [Option.isSome_some, if_true]
    have h2 := h.below ((Below.refl _ w).alloc (Nat.le_refl _) (.cells #[.int .i64 a] 75))
    have c3 := h2.c2
    obtain ⟨W', hrun, hM, ht⟩ := h2.2.drop Try.underlying3 Try.underlying71 0 hf
    go_enter Try.func30, Try.ntmps30
    go_wp2
    go_ret
    exact ⟨rfl, h2.turn ht hM, (Only.alloc _ _ _).trans (Only.turned ht rfl)⟩
set_option maxRecDepth 100000 in
set_option maxHeartbeats 4000000 in
theorem Pass_calls {p b n : Nat} {nx sz : Int} {m : Int → Option Int} (w : World) (h : WinAt w p b nx sz m n) (hf : Fits nx) (hlt : nx < 9223372036854775807) : Calls Try.prog 33 #[.pointer (some ⟨p, 0, none⟩)] w fun e w' =>
    e = .returned (.int .i64 (if (m nx).isSome then 0 else 15)) ∧ WinAt w' p b (if (m nx).isSome then nx + 1 else nx) sz (fun y => if y = nx then none else m y) n ∧ Only (fun k => k = b ∨ k = p) w w' := by
  have c0 := h.c0
  cases hm : m nx with
  | none =>
    have hd := Drop_calls w h nx hf
    rw [hm] at hd
    simp only [Option.isSome_none, Bool.false_eq_true, if_false] at hd ⊢
    go_enter Try.func33, Try.ntmps33
    go_wp2_with (go_at_call 30; refine hd.mono ?_; rintro e w' ⟨rfl, h2, ho⟩)
    go_ret
    exact ⟨rfl, h2, ho.mono (fun i hi => Or.inl hi)⟩
  | some a =>
    have hd := Drop_calls w h nx hf
    rw [hm] at hd
    simp only [Option.isSome_some, if_true] at hd ⊢
    go_enter Try.func33, Try.ntmps33
    go_wp2_with (go_at_call 30; refine hd.mono ?_; rintro e w' ⟨rfl, h2, ho⟩; have d0 := h2.c0; have df := h2.f0)
    go_ret
    have hw : wrap64 (nx + 1) = nx + 1 := IntWalk.wrap64_in _ ⟨by have := (wf64 hf).1; omega, by omega⟩
    rw [hw]
    exact ⟨rfl, h2.set _, (ho.mono (fun i hi => Or.inl hi)).trans (Only.setCell _ _ _ _ (Or.inr rfl))⟩
def putE (nx sz : Int) (m : Int → Option Int) (x : Int) : Int := if x < nx then 130 else if x - nx ≥ sz then 132 else if (m x).isSome then 131 else 0
set_option maxRecDepth 100000 in
set_option maxHeartbeats 4000000 in
theorem Put_calls {p b n : Nat} {nx sz : Int} {m : Int → Option Int} (w : World) (h : WinAt w p b nx sz m n) (hn0 : 0 ≤ nx) (hn : n < maxLen) (x v : Int) (hf : Fits x) : Calls Try.prog 13 #[.pointer (some ⟨p, 0, none⟩), .int .i64 x, .int .i64 v] w fun e w' =>
    e = .returned (.int .i64 (putE nx sz m x)) ∧ WinAt w' p b nx sz (if putE nx sz m x = 0 then fun y => if y = x then some v else m y else m) (n + 1) ∧ Only (fun k => k = b) w w' := by
  have c0 := h.c0
  have c1 := h.c1
  have c2 := h.c2
  unfold putE
  by_cases q1 : x < nx
  · simp only [if_pos q1, show ¬ ((130 : Int) = 0) from by decide, if_false]
    go_enter Try.func13, Try.ntmps13
    go_wp2
    go_ret
    exact ⟨rfl, h.mono (Nat.le_succ _), Only.refl _ _⟩
  simp only [if_neg q1]
  have hx := wf64 hf
  have hw : wrap64 (x - nx) = x - nx := IntWalk.wrap64_in _ ⟨by omega, by omega⟩
  have h3 : WinAt w.drew p b nx sz m n := h.below (Below.refl _ w).drew
  have e0 := h3.c0
  have e1 := h3.c1
  have e2 := h3.c2
  by_cases q2 : x - nx ≥ sz
  · simp only [if_pos q2, show ¬ ((132 : Int) = 0) from by decide, if_false]
    go_enter Try.func13, Try.ntmps13
    go_wp2
    go_region
    all_goals go_wp2
    all_goals go_ret
    all_goals exact ⟨rfl, h3.mono (Nat.le_succ _), (Only.refl _ _).drew⟩
  simp only [if_neg q2]
  cases hm : m x with
  | some a =>
    have hl := look_some h3 hf hm
    simp only [Option.isSome_some, if_true, show ¬ ((131 : Int) = 0) from by decide, if_false]
    go_enter Try.func13, Try.ntmps13
    go_wp2
    go_region
    all_goals go_wp2
    all_goals go_ret
    all_goals exact ⟨rfl, (h.below ((Below.refl _ w).alloc (Nat.le_refl _) _).drew).mono (Nat.le_succ _), (Only.alloc _ _ _).drew⟩
  | none =>
    have hl := look_none h3 hf hm
    have h2 := h.below ((Below.refl _ w).alloc (Nat.le_refl _) (.cells #[.int .i64 0] 75)).drew
    have d2 := h2.c2
    obtain ⟨W', hrun, hM, ht⟩ := h2.2.store Try.underlying3 Try.underlying71 hn hf v
    rw [show EI.val v = .agg #[.int .i64 v] from rfl] at hrun
    simp only [Option.isSome_none, Bool.false_eq_true, if_false, if_true]
    go_enter Try.func13, Try.ntmps13
    go_wp2
    go_region
    all_goals go_wp2
    all_goals go_ret
    all_goals exact ⟨rfl, h2.turn ht hM, (Only.alloc _ _ _).drew.trans (Only.turned ht rfl)⟩
end Go.Proofs.YtmfabpkliogjlaaWin
end
section
namespace Go.Proofs.YtmfabpkliogjlaaWin
open Go.RowKit Go.Maps Go.Shelf
set_option linter.unusedSimpArgs false
set_option linter.unusedVariables false
attribute [local go_sem] Oper.semAt_some
structure WS where
  nx : Int
  m : Int → Option Int
  n : Nat
def WS.passed (s : WS) : WS := ⟨s.nx + 1, fun y => if y = s.nx then none else s.m y, s.n⟩
abbrev WinS (W : World) (p b : Nat) (sz : Int) (s : WS) : Prop := WinAt W p b s.nx sz s.m s.n
def ReadyStops (n p b : Nat) (sz B : Int) (lb : Array Value) : Prop :=
  ∀ (l : Nat) (J : WS → World → Prop) (Jx : World → Prop) (s0 : WS) (W0 : World),
    (∀ s W, J s W → WinS W p b sz s ∧ Fits s.nx ∧ B < 4611686018427387904 ∧ ((s.m s.nx).isSome → s.nx < B) ∧ ∀ v, lb = #[.pointer (some ⟨v, 0, none⟩)] → W.cell? ⟨v, 0, none⟩ = some (.pointer (some ⟨p, 0, none⟩))) →
    (∀ s W W', J s W → Only (fun _ => False) W W' → J s W') →
    (∀ s W a W', J s W → s.m s.nx = some a → Only (fun k => k = b ∨ k = p) W W' → WinS W' p b sz s.passed → YieldAt Fence.wide (n - 1) Try.prog l #[.int .i64 s.nx, .int .i64 a] W' fun e W'' =>
      (e = .returned (.bool true) ∧ ∃ s', s.nx < s'.nx ∧ J s' W'') ∨ (e = .returned (.bool false) ∧ Jx W'')) →
    J s0 W0 →
    CallsIn Fence.wide n Try.prog 32 (#[.func (.yield l) #[] #[]] ++ lb) W0 fun e W' => (∃ v, e = .returned v) ∧ ((∃ s, J s W' ∧ s.m s.nx = none) ∨ Jx W')
def leftTo (B : Int) (p : Nat) (W : World) : Nat := (B - intOf ((W.cell? ⟨p, 0, none⟩).getD undef)).toNat
theorem leftTo_eq {B : Int} {W : World} {p b : Nat} {sz : Int} {s : WS} (h : WinS W p b sz s) : leftTo B p W = (B - s.nx).toNat := by
  unfold leftTo
  rw [h.c0]
  rfl
theorem cell_lt {W : World} {v j : Nat} {x : Value} (h : W.cell? ⟨v, j, none⟩ = some x) : v < W.heap.size := by
  by_cases c : v < W.heap.size
  · exact c
  · simp [World.cell?, Array.getElem?_eq_none (Nat.le_of_not_lt c)] at h
set_option maxRecDepth 100000 in
set_option maxHeartbeats 4000000 in
theorem ready1_stops (n p b v : Nat) (sz B : Int) (hn : 1 ≤ n) : ReadyStops n p b sz B #[.pointer (some ⟨v, 0, none⟩)] := by
  intro l J Jx s0 W0 hJ hJo hY h0
  refine callsIn_of_wp Try.func32 rfl trivial ?_ rfl
  simp only [Try.ntmps32, List.size_toArray, List.length_cons, List.length_nil, Nat.reduceAdd, Nat.reduceSub, Array.replicate_succ, Array.replicate_zero, List.push_toArray, List.append_toArray, List.nil_append, List.cons_append]
  gi_wp2
  gi_loopw [3] (fun x wr => ∃ s, J s wr) (fun x wr => leftTo B p wr)
  case atStart => exact ⟨s0, h0⟩
  case round =>
    obtain ⟨s, hs⟩ := hrel
    obtain ⟨w1, rfl⟩ : ∃ w1, w1 = wr := ⟨wr, rfl⟩
    obtain ⟨hW, hf, hB, hlt, hv⟩ := hJ s w1 hs
    have hv := hv v rfl
    have c0 := hW.c0
    cases hm : s.m s.nx with
    | none =>
      gi_wp2_with (refine ⟨trivial, ?_⟩; gi_at_call 17; refine (callsIn_wide.2 (Peek_calls _ hW hf)).mono ?_; rintro e w2 ⟨rfl, ho⟩; rw [hm])
      refine bodyPost_ret (results_none rfl _ _ _) rfl ?_
      exact ⟨⟨_, rfl⟩, .inl ⟨s, hJo s _ _ hs ho, hm⟩⟩
    | some a =>
      have hlt' := hlt (by rw [hm]; rfl)
      gi_wp2_with (first | (refine ⟨trivial, ?_⟩; gi_at_call 17; refine (callsIn_wide.2 (Peek_calls _ hW hf)).mono ?_; rintro e w2 ⟨rfl, ho⟩; rw [hm]; have hW2 := hW.only ho (fun h => h) (fun h => h); have hv2 := (ho.below (n := w1.heap.size) (Nat.le_refl _) (fun _ h => h.elim)).cell (p := ⟨v, 0, none⟩) (cell_lt hv); rw [hv] at hv2) | (refine ⟨trivial, ?_⟩; gi_at_call 33; refine (callsIn_wide.2 (Pass_calls _ hW2 hf (by omega))).mono ?_; rintro e w3 ⟨rfl, hW3, ho3⟩; rw [hm] at hW3; obtain ⟨fn, tmps, assign, body, hy, hR⟩ := hY s w1 a w3 hs hm ((ho.mono (fun _ h => h.elim)).trans ho3) hW3))
      refine hR.mono ?_
      rintro e w4 (⟨rfl, s', hlt4, hJ4⟩ | ⟨rfl, hx4⟩)
      · gi_wp2
        refine ⟨⟨s', hJ4⟩, ?_⟩
        rw [leftTo_eq (hJ s' w4 hJ4).1, leftTo_eq hW]
        omega
      · gi_wp2
        refine bodyPost_ret (results_none rfl _ _ _) rfl ?_
        exact ⟨⟨_, rfl⟩, .inr hx4⟩
end Go.Proofs.YtmfabpkliogjlaaWin
end
section
namespace Go.Proofs.YtmfabpkliogjlaaWin
open Go.RowKit Go.Maps Go.Shelf
set_option linter.unusedSimpArgs false
set_option linter.unusedVariables false
def winPost (B : Nat) (I : WS → World → Prop) (Ix : Code → World → Prop) (s : WS) (W : World) : Exit → Act → World → Prop
  | .normal, _, W' => KeepsFrom B W W' ∧ ∃ s', s.nx < s'.nx ∧ I s' W'
  | .ret, _, W' => KeepsFrom B W W' ∧ Ix .ret W'
  | .exit id, _, W' => KeepsFrom B W W' ∧ Ix (.exit id) W'
  | .goto t, _, W' => KeepsFrom B W W' ∧ Ix (.goto t) W'
  | _, _, _ => False
def WinI (p b : Nat) (sz B : Int) (lb : Array Value) (I : WS → World → Prop) : Prop :=
  ∀ s W, I s W → WinS W p b sz s ∧ Fits s.nx ∧ B < 4611686018427387904 ∧ ((s.m s.nx).isSome → s.nx < B) ∧ ∀ v, lb = #[.pointer (some ⟨v, 0, none⟩)] → W.cell? ⟨v, 0, none⟩ = some (.pointer (some ⟨p, 0, none⟩))
theorem own_only {n : Nat} {I : WS → World → Prop} (h : OwnFrom n I) {s : WS} {W W' : World} (hs : I s W) (ho : Only (fun _ => False) W W') : I s W' :=
  h s W W' none hs ⟨ho.os, ho.tape, ho.output, ho.size, fun k hk _ => ho.block k hk (fun h => h)⟩ (fun r e => by cases e)
section
variable {n p b : Nat} {sz B : Int} {w : World}
theorem wpIn_rangeReady {g : Operand} {ps : Array Tmp} {assign body : Code} {Q : Exit → Act → World → Prop} {a : Act}
    (h1 : 1 ≤ n) {lb : Array Value} (hg : a.eval g = .func (.func 32) #[] lb) (hseq : ReadyStops (n - 1) p b sz B lb) (hps : ps.size = 2) (hp : p < w.heap.size) (hb : b < w.heap.size)
    (I : WS → World → Prop) (Ia : WS → Int → World → Prop) (Ix : Code → World → Prop) (hI : OwnFrom w.heap.size I) (hIa : ∀ x, OwnFrom w.heap.size (fun s W => Ia s x W)) (hIx : OwnFrom w.heap.size Ix)
    (hW : WinI p b sz B lb I)
    (hstep : ∀ s W x W', I s W → s.m s.nx = some x → Only (fun k => k = b ∨ k = p) W W' → WinS W' p b sz s.passed → Ia s x W')
    {s0 : WS} (h0 : I s0 w) (a₁ : Int → Int → Act)
    (hassign : ∀ (l : Nat) (x y : Int) (W : World) (K : Act → World → Prop), K (a₁ x y) W →
      assign.wpIn (Fence.wide.inRound l) (n - 1 - 1) Try.prog (Exit.then K (fun _ _ _ => False)) { tmps := (ps.zip #[Value.int .i64 x, Value.int .i64 y]).foldl (fun t (p, v) => t.setIfInBounds p v) a.tmps, defers := [] } W)
    (hbody : ∀ (l : Nat) (s : WS) (x : Int) (W : World), w.heap.size ≤ l → (∃ r, W.heap[l]? = some (.loop r)) → Ia s x W → body.wpIn (Fence.wide.inRound l) (n - 1 - 1) Try.prog (winPost w.heap.size I Ix s W) (a₁ s.nx x) W)
    (hdone : ∀ (D : Nat) (s : WS) (W : World), w.heap.size ≤ D → I s W → s.m s.nx = none → W.heap[D]? = some (.deferred (some [])) → Q .normal { a with defers := { target := .collected D, args := #[] } :: a.defers } W)
    (hstop : ∀ (D : Nat) (c : Code) (W : World), w.heap.size ≤ D → Ix c W → W.heap[D]? = some (.deferred (some [])) → c.wpIn Fence.wide n Try.prog Q { a with defers := { target := .collected D, args := #[] } :: a.defers } W) :
    (Code.rangeFunc g ps assign body).wpIn Fence.wide n Try.prog Q a w := by
  have eg := enters_of Try.func32 (by kernel_rfl) rfl
  refine wpIn_rangeFunc ?_
  intro fn hfn
  rw [show Fence.wide.round = none from rfl]
  obtain ⟨rec, hrec⟩ : ∃ rec : LoopState → Option Code → Loop, rec = fun st pe => { state := st, pending := pe, fn, tmps := a.tmps, params := ps, assign, body, defers := w.heap.size } := ⟨_, rfl⟩
  obtain ⟨W1, hW1⟩ : ∃ W1, (w.alloc (.deferred (some []))).alloc (.loop (rec .ready none)) = W1 := ⟨_, rfl⟩
  have hL1 : W1.heap[w.heap.size + 1]? = some (.loop (rec .ready none)) := by
    rw [← hW1]; have := World.alloc_heap_new (w.alloc (.deferred (some []))) (.loop (rec .ready none)); rwa [World.size_alloc] at this
  have hK1 : W1.heap[w.heap.size]? = some (.deferred (some [])) := by
    rw [← hW1]; exact (Below.heap_alloc _ _ _ (by simp)).trans (World.alloc_heap_new w _)
  have hI1 : I s0 W1 := by rw [← hW1]; exact hI.alloc _ (hI.alloc _ h0)
  refine ⟨w.heap.size + 1, [{ target := .collected w.heap.size, args := #[] }], W1, { target := .fn (.func 32) lb, args := #[.func (.yield (w.heap.size + 1)) #[] #[]] }, W1, 32,
    #[.func (.yield (w.heap.size + 1)) #[] #[]] ++ lb, W1, ?_, ?_, ?_, ?_, fun _ => h1, ?_⟩
  · rw [← hW1, hrec]; exact run_enterLoop_outer _ _ _ _ _
  · simp only [resolve, hg]
    simp [go_sem]
  · intro f' hf'; exact trivial
  · simp [invoke, go_sem, eg]
  · refine (hseq (w.heap.size + 1)
      (fun s W => I s W ∧ W.heap[w.heap.size + 1]? = some (.loop (rec .ready none)) ∧ W.heap[w.heap.size]? = some (.deferred (some [])))
      (fun W => ∃ c, Ix c W ∧ W.heap[w.heap.size + 1]? = some (.loop (rec .done (some c))) ∧ W.heap[w.heap.size]? = some (.deferred (some [])))
      s0 W1 (fun s W hs => hW s W hs.1)
      (fun s W W' hs ho => ⟨own_only hI hs.1 ho, (ho.block _ (Array.getElem?_eq_some_iff.1 hs.2.1).1 (fun h => h)).trans hs.2.1, (ho.block _ (Array.getElem?_eq_some_iff.1 hs.2.2).1 (fun h => h)).trans hs.2.2⟩)
      ?_ ⟨hI1, hL1, hK1⟩).mono ?_
    ·
      rintro s W0 x W ⟨hi0, hl0, hk0⟩ hm ho hWs
      have hl := (ho.block _ (Array.getElem?_eq_some_iff.1 hl0).1 (by omega)).trans hl0
      have hk := (ho.block _ (Array.getElem?_eq_some_iff.1 hk0).1 (by omega)).trans hk0
      have hi := hstep s W0 x W hi0 hm ho hWs
      clear hi0 hl0 hk0 ho
      have hlt : w.heap.size + 1 < W.heap.size := (Array.getElem?_eq_some_iff.1 hl).1
      have hy := run_yield (P := Try.prog) (args := #[Value.int .i64 s.nx, Value.int .i64 x]) hl (by rw [hrec]; exact hps.symm)
      rw [hrec] at hy
      refine ⟨fn, _, assign, body, hy, roundIn_of_wpIn hfn (hassign _ s.nx x W _ ⟨_, run_beginRound hl (by rw [hrec]), ?_⟩)⟩
      have hl2 : (W.putObj (w.heap.size + 1) (.loop { rec .ready none with state := .busy })).heap[w.heap.size + 1]? = some (.loop { rec .ready none with state := .busy }) := World.putObj_heap_same hlt
      have hk2 : (W.putObj (w.heap.size + 1) (.loop { rec .ready none with state := .busy })).heap[w.heap.size]? = some (.deferred (some [])) := (World.putObj_heap_other (by omega)).trans hk
      refine wpIn_mono (hbody _ s x _ (by omega) ⟨_, hl2⟩ ((hIa x).putObj _ hi (by omega) hl rfl)) ?_
      have fin : ∀ (jump : Option Code) (W3 : World), KeepsFrom w.heap.size (W.putObj (w.heap.size + 1) (.loop { rec .ready none with state := .busy })) W3 →
          (Instr.endRound (w.heap.size + 1) jump).run Try.prog W3 = .ok (.bool jump.isNone) (W3.putObj (w.heap.size + 1) (.loop (rec (if jump.isNone then .ready else .done) jump))) ∧
          W3.heap[w.heap.size + 1]? = some (.loop { rec .ready none with state := .busy }) ∧
          (W3.putObj (w.heap.size + 1) (.loop (rec (if jump.isNone then .ready else .done) jump))).heap[w.heap.size + 1]? = some (.loop (rec (if jump.isNone then .ready else .done) jump)) ∧
          (W3.putObj (w.heap.size + 1) (.loop (rec (if jump.isNone then .ready else .done) jump))).heap[w.heap.size]? = some (.deferred (some [])) := fun jump W3 hk3 => by
        have hl3 := hk3.same _ _ (by omega) hl2 rfl
        have := run_endRound (P := Try.prog) jump hl3
        rw [hrec] at this ⊢
        exact ⟨this, by rw [hrec] at hl3; exact hl3, World.putObj_heap_same (Array.getElem?_eq_some_iff.1 hl3).1, (World.putObj_heap_other (by omega)).trans (hk3.same _ _ (Nat.le_refl _) hk2 rfl)⟩
      rintro e a3 W3 hp
      cases e with
      | normal =>
        obtain ⟨hk3, s', hs', hi3⟩ := hp
        obtain ⟨hr, hl3, hl4, hk4⟩ := fin none W3 hk3
        exact ⟨_, _, hr, .inl ⟨rfl, s', hs', hI.putObj _ hi3 (by omega) hl3 rfl, hl4, hk4⟩⟩
      | ret =>
        obtain ⟨hk3, hi3⟩ := hp
        obtain ⟨hr, hl3, hl4, hk4⟩ := fin (some .ret) W3 hk3
        exact ⟨_, _, hr, .inr ⟨rfl, .ret, hIx.putObj _ hi3 (by omega) hl3 rfl, hl4, hk4⟩⟩
      | exit id =>
        obtain ⟨hk3, hi3⟩ := hp
        obtain ⟨hr, hl3, hl4, hk4⟩ := fin (some (.exit id)) W3 hk3
        exact ⟨_, _, hr, .inr ⟨rfl, .exit id, hIx.putObj _ hi3 (by omega) hl3 rfl, hl4, hk4⟩⟩
      | goto t =>
        obtain ⟨hk3, hi3⟩ := hp
        obtain ⟨hr, hl3, hl4, hk4⟩ := fin (some (.goto t)) W3 hk3
        exact ⟨_, _, hr, .inr ⟨rfl, .goto t, hIx.putObj _ hi3 (by omega) hl3 rfl, hl4, hk4⟩⟩
      | panic ch => exact hp.elim
      | outgrown => exact hp.elim
    ·
      rintro e W2 ⟨⟨v, rfl⟩, (⟨s, ⟨hi, hl, hk⟩, hm⟩ | ⟨c, hi, hl, hk⟩)⟩
      · exact ⟨none, _, by have := run_endLoop (P := Try.prog) hl (by rw [hrec]; simp); rw [hrec] at this; exact this, hdone _ s _ (Nat.le_refl _) (hI.putObj _ hi (by omega) hl rfl) hm ((World.putObj_heap_other (by omega)).trans hk)⟩
      · exact ⟨some c, _, by have := run_endLoop (P := Try.prog) hl (by rw [hrec]; simp); rw [hrec] at this; exact this, hstop _ c _ (Nat.le_refl _) (hIx.putObj _ hi (by omega) hl rfl) ((World.putObj_heap_other (by omega)).trans hk)⟩
end
end Go.Proofs.YtmfabpkliogjlaaWin
end
section
namespace Go.Proofs.YtmfabpkliogjlaaWin
open Go.RowKit Go.Maps Go.Shelf
set_option linter.unusedSimpArgs false
set_option linter.unusedVariables false
theorem fits_of {x : Int} (h : -9223372036854775808 ≤ x ∧ x ≤ 9223372036854775807) : Fits x := by
  show (Lit.int .i64 x).wf = true
  simp [Lit.wf, IntKind.min, IntKind.max, IntKind.signed, IntKind.bits]
  omega
def pickv (k n : Int) : Int := if k.tmod n < 0 then k.tmod n + n else k.tmod n
theorem pickv_bd (k : Int) {n : Int} (hn : 1 ≤ n) : 0 ≤ pickv k n ∧ pickv k n < n := by
  have h1 := Int.tmod_lt_of_pos k (b := n) (by omega)
  have h2 := Int.lt_tmod_of_pos k (b := n) (by omega)
  unfold pickv
  split <;> omega
set_option maxRecDepth 100000 in
set_option maxHeartbeats 4000000 in
theorem pick_calls (k n : Int) (hn : 1 ≤ n ∧ n ≤ 1000000) (w : World) : Calls Try.prog 11 #[.int .i64 k, .int .i64 n] w fun e w' => e = .returned (.int .i64 (pickv k n)) ∧ Only (fun _ => False) w w' := by
  have h1 := Int.tmod_lt_of_pos k (b := n) (by omega)
  have h2 := Int.lt_tmod_of_pos k (b := n) (by omega)
  have hw : wrap64 (k.tmod n) = k.tmod n := IntWalk.wrap64_in _ ⟨by omega, by omega⟩
  have hn0 : n ≠ 0 := by omega
  unfold pickv
  by_cases c : k.tmod n < 0
  · have hw2 : wrap64 (k.tmod n + n) = k.tmod n + n := IntWalk.wrap64_in _ ⟨by omega, by omega⟩
    simp only [if_pos c]
    go_enter Try.func11, Try.ntmps11
    go_wp2
    go_ret
    exact ⟨rfl, Only.refl _ _⟩
  · simp only [if_neg c]
    go_enter Try.func11, Try.ntmps11
    go_wp2
    go_ret
    exact ⟨rfl, Only.refl _ _⟩
theorem boxed_only {K : Nat → Prop} {W W' : World} {i : Nat} {t : TypeId} {v : Value} (h : Boxed W i t v) (ho : Only K W W') (hn : ¬ K i) : Boxed W' i t v := (ho.block i h.lt hn).trans h
theorem WinAt.belowB {B : Nat} {W W' : World} {p b n : Nat} {nx sz : Int} {m : Int → Option Int} (h : WinAt W p b nx sz m n) (hk : Below B W W') (hp : p < B) (hb : b < B) : WinAt W' p b nx sz m n :=
  ⟨(hk.block p hp).trans h.1, h.2.block (hk.block b hb)⟩
theorem own_of_loc {β : Type} {B : Nat} {I : β → World → Prop} (h : ∀ s W W', I s W → Below B W W' → I s W') (hB : ∀ s W, I s W → B ≤ W.heap.size) : OwnFrom B I := fun s W W' row hs hg hr =>
  h s W W' hs ((Below.refl B W).grown hg (hB s W hs) (fun k e => (hr k e).1))
end Go.Proofs.YtmfabpkliogjlaaWin
end
section
namespace Go.Proofs.YtmfabpkliogjlaaWin
open Go.RowKit Go.Maps Go.Shelf
set_option linter.unusedSimpArgs false
set_option linter.unusedVariables false
attribute [local go_sem] Oper.semAt_some
theorem eqlFunc (W : World) (f : Nat) (bl : Array Value) : (binOp .eql 38 (.func (.func f) #[] bl) .nilFunc).run Try.prog W = .ok (.bool false) W := by
  unfold binOp Op.equal
  obtain ⟨d, hd⟩ : ∃ d, Op.maxDepth = d + 1 := ⟨9999, rfl⟩
  rw [hd]
  simp [Op.equalIn, run_underlying Try.underlying38, go_sem]
attribute [local go_sem] eqlFunc
theorem run_store_func {P : Program} {w : World} (a : Addr) (m : Mode) (f : Fn) {x1 : _} {x2 : _} : (store a (.func f x1 x2) m).run P w = stored P w a (.func f x1 x2) m := run_store P w a _ m rfl
attribute [local go_sem] run_store_func
set_option maxRecDepth 100000 in
set_option maxHeartbeats 4000000 in
theorem Ready_calls (p : Option Addr) (w : World) : Calls Try.prog 14 #[.pointer p] w fun e w' => e = .returned (.func (.func 32) #[] #[.pointer (some ⟨w.heap.size, 0, none⟩)]) ∧ w' = w.alloc (.cells #[.pointer p] 22) := by
  go_enter Try.func14, Try.ntmps14
  go_wp2
  go_ret
  exact ⟨rfl, rfl⟩
set_option maxRecDepth 100000 in
set_option maxHeartbeats 4000000 in
theorem Next_exact {p b n : Nat} {nx sz : Int} {m : Int → Option Int} (w : World) (h : WinAt w p b nx sz m n) : Calls Try.prog 15 #[.pointer (some ⟨p, 0, none⟩)] w fun e w' => e = .returned (.int .i64 nx) ∧ w' = w := by
  have c0 := h.c0
  go_enter Try.func15, Try.ntmps15
  go_wp2
  go_ret
  exact ⟨rfl, rfl⟩
theorem New_good {nx sz : Int} (h : 0 ≤ nx ∧ nx ≤ 1048576 ∧ 1 ≤ sz ∧ sz ≤ 1048576) (w : World) : Calls Try.prog 12 #[.int .i64 nx, .int .i64 sz] w fun e w' =>
    ∃ p b, e = .returned (.tuple #[.pointer (some ⟨p, 0, none⟩), .int .i64 0]) ∧ w.heap.size ≤ p ∧ w.heap.size ≤ b ∧ WinAt w' p b nx sz (fun _ => none) 0 ∧ Below w.heap.size w w' := by
  refine (New_calls nx sz w).mono ?_
  intro e w' hh
  rw [if_neg (by omega)] at hh
  exact ⟨_, _, hh.1, Nat.le_succ _, Nat.le_refl _, hh.2⟩
theorem Put_new {p b n : Nat} {nx sz : Int} {m : Int → Option Int} (w : World) (h : WinAt w p b nx sz m n) (hn0 : 0 ≤ nx) (hn : n < maxLen) (x v : Int) (hf : Fits x) (h1 : nx ≤ x) (h2 : x - nx < sz) (h3 : m x = none) : Calls Try.prog 13 #[.pointer (some ⟨p, 0, none⟩), .int .i64 x, .int .i64 v] w fun e w' =>
    e = .returned (.int .i64 0) ∧ WinAt w' p b nx sz (fun y => if y = x then some v else m y) (n + 1) ∧ Only (fun k => k = b) w w' := by
  refine (Put_calls w h hn0 hn x v hf).mono ?_
  have e0 : putE nx sz m x = 0 := by unfold putE; rw [if_neg (by omega), if_neg (by omega), h3]; rfl
  rintro e w' ⟨rfl, h1, h2⟩
  rw [e0] at h1 ⊢
  exact ⟨rfl, h1, h2⟩
section
variable {w W0 W W' : World} {B P R M V O I C D p b : Nat} {q : Array Value} {m1 o i nx nx' : Int} {m m' : Int → Option Int} {n n' : Nat}
end
end Go.Proofs.YtmfabpkliogjlaaWin
end
section
namespace Go.Proofs.YtmfabpkliogjlaaWin
open Go.RowKit Go.Maps Go.Shelf
set_option linter.unusedSimpArgs false
set_option linter.unusedVariables false
def Holds (W : World) (L : List (Nat × Obj)) : Prop := ∀ x ∈ L, W.heap[x.1]? = some x.2
def notWin : Obj → Prop
  | .cells _ t _ => t ≠ 73
  | .deferred _ => True
  | .loop _ => True
  | _ => False
structure Run (w W : World) (L : List (Nat × Obj)) (p b : Nat) (nx sz : Int) (m : Int → Option Int) (n : Nat) : Prop where
  win : WinAt W p b nx sz m n
  hL : Holds W L
  nw : ∀ x ∈ L, notWin x.2
  hi : ∀ x ∈ L, w.heap.size ≤ x.1
  bel : Below w.heap.size w W
  lo : w.heap.size ≤ p ∧ w.heap.size ≤ b
section
variable {w W W' : World} {L L' : List (Nat × Obj)} {p b n n' : Nat} {nx nx' sz : Int} {m m' : Int → Option Int}
theorem Run.ne (h : Run w W L p b nx sz m n) {x : Nat × Obj} (hx : x ∈ L) : x.1 ≠ p ∧ x.1 ≠ b := by
  have h1 := h.hL x hx
  have h2 := h.nw x hx
  constructor
  · intro e
    rw [e, h.win.1] at h1
    injection h1 with h1
    rw [← h1] at h2
    exact h2 rfl
  · intro e
    obtain ⟨es, clock, he⟩ := h.win.2.isMap
    rw [e, he] at h1
    injection h1 with h1
    rw [← h1] at h2
    exact h2
theorem Run.lt (h : Run w W L p b nx sz m n) {x : Nat × Obj} (hx : x ∈ L) : x.1 < W.heap.size := (Array.getElem?_eq_some_iff.1 (h.hL x hx)).1
theorem Run.sub (h : Run w W L p b nx sz m n) (hs : ∀ x ∈ L', x ∈ L) : Run w W L' p b nx sz m n :=
  ⟨h.win, fun x hx => h.hL x (hs x hx), fun x hx => h.nw x (hs x hx), fun x hx => h.hi x (hs x hx), h.bel, h.lo⟩
theorem Run.only (h : Run w W L p b nx sz m n) (ho : Only (fun k => k = b ∨ k = p) W W') (hw : WinAt W' p b nx' sz m' n') : Run w W' L p b nx' sz m' n' :=
  ⟨hw, fun x hx => (ho.block x.1 (h.lt hx) (by have := h.ne hx; omega)).trans (h.hL x hx), h.nw, h.hi, h.bel.trans (ho.below h.bel.size (fun k hk => by have := h.lo; omega)), h.lo⟩
theorem Run.mapped (h : Run w W L p b nx sz m n) (ho : Only (fun k => k = b) W W') (hw : WinAt W' p b nx' sz m' n') : Run w W' L p b nx' sz m' n' :=
  h.only (ho.mono (fun _ h => .inl h)) hw
theorem Run.below {X : Nat} (h : Run w W L p b nx sz m n) (hb : Below X W W') (hX : (∀ x ∈ L, x.1 < X) ∧ p < X ∧ b < X ∧ w.heap.size ≤ X) : Run w W' L p b nx sz m n :=
  ⟨h.win.belowB hb hX.2.1 hX.2.2.1, fun x hx => (hb.block x.1 (hX.1 x hx)).trans (h.hL x hx), h.nw, h.hi, h.bel.trans (hb.mono hX.2.2.2), h.lo⟩
theorem Run.idle (h : Run w W L p b nx sz m n) (hb : Below W.heap.size W W') : Run w W' L p b nx sz m n :=
  h.below hb ⟨fun x hx => h.lt hx, h.win.lt, h.win.2.lt, h.bel.size⟩
theorem Run.drew (h : Run w W L p b nx sz m n) : Run w W.drew L p b nx sz m n := h.idle (Below.refl _ W).drew
theorem Run.add (h : Run w W L p b nx sz m n) (o : Obj) (ho : notWin o) : Run w (W.alloc o) ((W.heap.size, o) :: L) p b nx sz m n := by
  have h' := h.idle ((Below.refl W.heap.size W).alloc (Nat.le_refl _) o)
  refine ⟨h'.win, fun x hx => ?_, fun x hx => ?_, fun x hx => ?_, h'.bel, h.lo⟩
  · rcases List.mem_cons.1 hx with rfl | hx
    · exact World.alloc_heap_new W o
    · exact h'.hL x hx
  · rcases List.mem_cons.1 hx with rfl | hx
    · exact ho
    · exact h.nw x hx
  · rcases List.mem_cons.1 hx with rfl | hx
    · exact h.bel.size
    · exact h.hi x hx
theorem Run.put (h : Run w W L p b nx sz m n) {i : Nat} {o : Obj} (hi : W.heap[i]? = some o) (ho : notWin o) (hl : w.heap.size ≤ i) : Run w W ((i, o) :: L) p b nx sz m n := by
  refine ⟨h.win, fun x hx => ?_, fun x hx => ?_, fun x hx => ?_, h.bel, h.lo⟩
  · rcases List.mem_cons.1 hx with rfl | hx
    · exact hi
    · exact h.hL x hx
  · rcases List.mem_cons.1 hx with rfl | hx
    · exact ho
    · exact h.nw x hx
  · rcases List.mem_cons.1 hx with rfl | hx
    · exact hl
    · exact h.hi x hx
theorem Run.set {O : Nat} {t : TypeId} {v : Value} (h : Run w W ((O, .cells #[v] t (0, 0)) :: L) p b nx sz m n) (hO : ∀ x ∈ L, x.1 ≠ O) (v' : Value) : Run w (W.setCell ⟨O, 0, none⟩ v') ((O, .cells #[v'] t (0, 0)) :: L) p b nx sz m n := by
  have hx0 : ((O, .cells #[v] t (0, 0)) : Nat × Obj) ∈ ((O, .cells #[v] t (0, 0)) :: L : List (Nat × Obj)) := List.mem_cons_self
  have hne := h.ne hx0
  have hbx : Boxed W O t v := h.hL _ hx0
  have a1 := h.nw _ hx0
  have a2 := h.hi _ hx0
  refine ⟨h.win.only (K := fun k => k = O) (Only.setCell _ _ _ _ rfl) (fun e => hne.1 e.symm) (fun e => hne.2 e.symm), fun x hx => ?_, fun x hx => ?_, fun x hx => ?_, h.bel.setCell (h.hi _ hx0) _, h.lo⟩
  · rcases List.mem_cons.1 hx with rfl | hx
    · exact hbx.set v'
    · exact (Below.heap_setCell _ _ _ _ (hO x hx)).trans (h.hL x (List.mem_cons_of_mem _ hx))
  · rcases List.mem_cons.1 hx with rfl | hx
    · exact a1
    · exact h.nw x (List.mem_cons_of_mem _ hx)
  · rcases List.mem_cons.1 hx with rfl | hx
    · exact a2
    · exact h.hi x (List.mem_cons_of_mem _ hx)
theorem Run.belowL {X O : Nat} {o : Obj} (h : Run w W ((O, o) :: L) p b nx sz m n) (hb : Below X W W') (hL : ∀ x ∈ L, x.1 < X) (hX : O < X ∧ p < X ∧ b < X ∧ w.heap.size ≤ X) : Run w W' ((O, o) :: L) p b nx sz m n :=
  h.below hb ⟨fun x hx => by
    rcases List.mem_cons.1 hx with rfl | hx
    · exact hX.1
    · exact hL x hx, hX.2⟩
theorem Run.cell (h : Run w W L p b nx sz m n) {O : Nat} {cur : Array Value} {t : TypeId} (hx : ((O, .cells cur t (0, 0)) : Nat × Obj) ∈ L) {j : Nat} {v : Value} (hv : cur[j]? = some v) : W.cell? ⟨O, j, none⟩ = some v := by
  have h1 := h.hL _ hx
  simp only [World.cell?, h1]
  exact hv
theorem Run.box (h : Run w W L p b nx sz m n) {O : Nat} {v : Value} {t : TypeId} (hx : ((O, .cells #[v] t (0, 0)) : Nat × Obj) ∈ L) : Boxed W O t v := h.hL _ hx
end
end Go.Proofs.YtmfabpkliogjlaaWin
end
section
namespace Go.Proofs.Ytmfabpkliogjlaa.Pr
open Go.RowKit Go.Proofs.YtmfabpkliogjlaaW.PrintWords Go.Proofs.YtmfabpkliogjlaaW.PrintLast Go.Proofs.YtmfabpkliogjlaaW.PrintMore
attribute [local go_sem] max2_int min2_int max_two min_two max_three min_three max_four min_four
set_option linter.unusedVariables false
set_option linter.unusedSimpArgs false
def errW : Option Int → Value
 | none => .nilIface
 | some c => .iface 0 (.int .i64 c)
theorem errW_none : errW none = .nilIface := rfl
theorem errW_some (c : Int) : errW (some c) = .iface 0 (.int .i64 c) := rfl
theorem info3 : (Try.prog.info? 3).map (fun i => (i.zero, i.size, i.bytes)) = some (some (.int .i64 0), 1, 8) := by kernel_rfl
theorem info4 : (Try.prog.info? 4).map (fun i => (i.zero, i.size, i.bytes)) = some (some (.bool false), 1, 1) := by kernel_rfl
theorem info5 : (Try.prog.info? 5).map (fun i => (i.zero, i.size, i.bytes)) = some (some (.int .u8 0), 1, 1) := by kernel_rfl
end Go.Proofs.Ytmfabpkliogjlaa.Pr
end
section
namespace Go.Proofs.Ytmfabpkliogjlaa.Pr
open Go.RowKit Go.Proofs.YtmfabpkliogjlaaW.PrintWords Go.Proofs.YtmfabpkliogjlaaW.PrintLast Go.Proofs.YtmfabpkliogjlaaW.PrintMore
attribute [local go_sem] max2_int min2_int max_two min_two max_three min_three max_four min_four
set_option linter.unusedVariables false
set_option linter.unusedSimpArgs false
def redraftlaw13_pick.f (a0 : Int) (a1 : Int) : Option (Int) := if a1 = 0 then (none) else (if (Int.tmod a0 a1) < 0 then (some (wrap64 ((Int.tmod a0 a1) + a1))) else (some (Int.tmod a0 a1)))
set_option maxHeartbeats 8000000 in
set_option maxRecDepth 100000 in
theorem redraftlaw13_pick.calls (a0 : Int) (a1 : Int) (r : Int) (w : World) (h : redraftlaw13_pick.f a0 a1 = some r) :
  Calls Try.prog 11 #[.int .i64 a0, .int .i64 a1] w fun e w' => e = .returned (.int .i64 r) ∧ Drawn0 w w' := by
 have H : (if a1 = 0 then (none) else (if (Int.tmod a0 a1) < 0 then (some (wrap64 ((Int.tmod a0 a1) + a1))) else (some (Int.tmod a0 a1)))) = some r := h
 clear h
 by_cases c3 : a1 = 0
 ·rw [if_pos c3] at H
  exact absurd H (by simp)
 ·rw [if_neg c3] at H
  have c3b0 : (a1 == 0) = false := beq_eq_false_iff_ne.mpr c3
  have c3b1 : (a1 != 0) = true := bne_iff_ne.mpr c3
  by_cases c4 : (Int.tmod a0 a1) < 0
  ·rw [if_pos c4] at H
   have c4b0 : decide ((Int.tmod a0 a1) < 0) = true := decide_eq_true c4
   clear c4
   obtain rfl := Option.some.inj H
   go_enter Try.func11, Try.ntmps11
   go_wp2
   go_ret
   exact ⟨by first | rfl | (simp; done) | (simp [*]; done), by repeat (first | exact Drawn0.refl _ | apply Drawn0.step)⟩
  ·rw [if_neg c4] at H
   have c4b0 : decide ((Int.tmod a0 a1) < 0) = false := decide_eq_false c4
   clear c4
   obtain rfl := Option.some.inj H
   go_enter Try.func11, Try.ntmps11
   go_wp2
   go_ret
   exact ⟨by first | rfl | (simp; done) | (simp [*]; done), by repeat (first | exact Drawn0.refl _ | apply Drawn0.step)⟩
end Go.Proofs.Ytmfabpkliogjlaa.Pr
end
section
namespace Go.Proofs.Ytmfabpkliogjlaa.Pr
open Go.RowKit Go.Proofs.YtmfabpkliogjlaaW.PrintWords Go.Proofs.YtmfabpkliogjlaaW.PrintLast Go.Proofs.YtmfabpkliogjlaaW.PrintMore
attribute [local go_sem] max2_int min2_int max_two min_two max_three min_three max_four min_four
set_option linter.unusedVariables false
set_option linter.unusedSimpArgs false
mutual
def redraftlaw13_come.l0 : Nat → Int → List Int → List Bool → List Int → Int → Option (List Int)
 | 0, _, _, _, _, _ => none
 | k + 1, x0, x1, x5, x6, x7 => if x7 < x0 then (if x7 < (x1.length : Int) then (if 0 ≤ x7 then ((redraftlaw13_pick.f (rd x1 x7) (wrap64 (x0 - x7))).bind fun t225 => (redraftlaw13_come.j1 k x0 x1 x5 x6 x7 t225)) else (none)) else (redraftlaw13_come.j1 k x0 x1 x5 x6 x7 0)) else (some x6)
def redraftlaw13_come.j1 : Nat → Int → List Int → List Bool → List Int → Int → Int → Option (List Int)
 | 0, _, _, _, _, _, _ => none
 | k + 1, x0, x1, x5, x6, x7, x8 => redraftlaw13_come.l1 k x0 x1 x5 x6 x7 x8 0
def redraftlaw13_come.l1 : Nat → Int → List Int → List Bool → List Int → Int → Int → Int → Option (List Int)
 | 0, _, _, _, _, _, _, _ => none
 | k + 1, x0, x1, x5, x6, x7, x8, x9 => if x9 < x0 then (if 0 ≤ x9 then (if x9 < (x5.length : Int) then (if rdOf false x5 x9 = true then (redraftlaw13_come.l1 k x0 x1 x5 x6 x7 x8 (wrap64 (x9 + 1))) else (if x8 = 0 then (if x6.length < 17592186044416 then (redraftlaw13_come.l0 k x0 x1 (x5.set (x9 : Int).toNat true) (x6 ++ [x9]) (wrap64 (x7 + 1))) else (none)) else (redraftlaw13_come.l1 k x0 x1 x5 x6 x7 (wrap64 (x8 - 1)) (wrap64 (x9 + 1))))) else (none)) else (none)) else (redraftlaw13_come.l0 k x0 x1 x5 x6 (wrap64 (x7 + 1)))
end
def redraftlaw13_come.f (k : Nat) (a0 : Int) (l1 : List Int) : Option (List Int) := if 0 ≤ a0 then (if (a0 : Int).toNat ≤ 281474976710656 then (redraftlaw13_come.l0 k a0 l1 (List.replicate (a0 : Int).toNat false) ([] : List Int) 0) else (none)) else (none)
theorem redraftlaw13_come.mono_l : ∀ k, (∀ y0 y1 y2 y3 y4, LeO (redraftlaw13_come.l0 k y0 y1 y2 y3 y4) (redraftlaw13_come.l0 (k + 1) y0 y1 y2 y3 y4)) ∧ (∀ y0 y1 y2 y3 y4 y5, LeO (redraftlaw13_come.j1 k y0 y1 y2 y3 y4 y5) (redraftlaw13_come.j1 (k + 1) y0 y1 y2 y3 y4 y5)) ∧ (∀ y0 y1 y2 y3 y4 y5 y6, LeO (redraftlaw13_come.l1 k y0 y1 y2 y3 y4 y5 y6) (redraftlaw13_come.l1 (k + 1) y0 y1 y2 y3 y4 y5 y6))
 | 0 => ⟨fun _ _ _ _ _ r h => by simp [redraftlaw13_come.l0] at h, fun _ _ _ _ _ _ r h => by simp [redraftlaw13_come.j1] at h, fun _ _ _ _ _ _ _ r h => by simp [redraftlaw13_come.l1] at h⟩
 | k + 1 => by
  obtain ⟨ih0, ih1, ih2⟩ := redraftlaw13_come.mono_l k
  refine ⟨?_, ?_, ?_⟩
  ·intro y0 y1 y2 y3 y4
   unfold redraftlaw13_come.l0
   repeat' first
   | (with_reducible exact ih0 _ _ _ _ _)
   | (with_reducible exact ih1 _ _ _ _ _ _)
   | (with_reducible exact ih2 _ _ _ _ _ _ _)
   | (with_reducible exact LeO.refl _)
   | (with_reducible exact LeO.none _)
   | (with_reducible refine LeO.ite ?_ ?_)
   | (with_reducible refine LeO.bind ?_ (fun _ => ?_))
   | exact ih0 _ _ _ _ _
   | exact ih1 _ _ _ _ _ _
   | exact ih2 _ _ _ _ _ _ _
   | exact LeO.none _
   | refine LeO.ite ?_ ?_
   | refine LeO.bind ?_ (fun _ => ?_)
  ·intro y0 y1 y2 y3 y4 y5
   unfold redraftlaw13_come.j1
   repeat' first
   | (with_reducible exact ih0 _ _ _ _ _)
   | (with_reducible exact ih1 _ _ _ _ _ _)
   | (with_reducible exact ih2 _ _ _ _ _ _ _)
   | (with_reducible exact LeO.refl _)
   | (with_reducible exact LeO.none _)
   | (with_reducible refine LeO.ite ?_ ?_)
   | (with_reducible refine LeO.bind ?_ (fun _ => ?_))
   | exact ih0 _ _ _ _ _
   | exact ih1 _ _ _ _ _ _
   | exact ih2 _ _ _ _ _ _ _
   | exact LeO.none _
   | refine LeO.ite ?_ ?_
   | refine LeO.bind ?_ (fun _ => ?_)
  ·intro y0 y1 y2 y3 y4 y5 y6
   unfold redraftlaw13_come.l1
   repeat' first
   | (with_reducible exact ih0 _ _ _ _ _)
   | (with_reducible exact ih1 _ _ _ _ _ _)
   | (with_reducible exact ih2 _ _ _ _ _ _ _)
   | (with_reducible exact LeO.refl _)
   | (with_reducible exact LeO.none _)
   | (with_reducible refine LeO.ite ?_ ?_)
   | (with_reducible refine LeO.bind ?_ (fun _ => ?_))
   | exact ih0 _ _ _ _ _
   | exact ih1 _ _ _ _ _ _
   | exact ih2 _ _ _ _ _ _ _
   | exact LeO.none _
   | refine LeO.ite ?_ ?_
   | refine LeO.bind ?_ (fun _ => ?_)
theorem redraftlaw13_come.mono : ∀ a0 a1 k, LeO (redraftlaw13_come.f k a0 a1) (redraftlaw13_come.f (k + 1) a0 a1) := by
 intro a0 a1 k
 obtain ⟨ih0, ih1, ih2⟩ := redraftlaw13_come.mono_l k
 unfold redraftlaw13_come.f
 repeat' first
   | (with_reducible exact ih0 _ _ _ _ _)
   | (with_reducible exact ih1 _ _ _ _ _ _)
   | (with_reducible exact ih2 _ _ _ _ _ _ _)
   | (with_reducible exact LeO.refl _)
   | (with_reducible exact LeO.none _)
   | (with_reducible refine LeO.ite ?_ ?_)
   | (with_reducible refine LeO.bind ?_ (fun _ => ?_))
   | exact ih0 _ _ _ _ _
   | exact ih1 _ _ _ _ _ _
   | exact ih2 _ _ _ _ _ _ _
   | exact LeO.none _
   | refine LeO.ite ?_ ?_
   | refine LeO.bind ?_ (fun _ => ?_)
set_option maxHeartbeats 8000000 in
set_option maxRecDepth 100000 in
theorem redraftlaw13_come.calls (k : Nat) (a0 : Int) (A1 : Option Addr) (c1 : Nat) (l1 : List Int) (r : List Int) (w : World) (hr1 : Kd.C (Kd.int .i64) w A1 l1.length l1) (hc1 : l1.length ≤ c1) (h : redraftlaw13_come.f k a0 l1 = some r) :
  Calls Try.prog 19 #[.int .i64 a0, .slice A1 l1.length c1] w fun e w' => ∃ v0_ : Value, e = .returned (v0_) ∧ Kd.R (Kd.int .i64) 3 w' w.heap.size (fun _ => True) v0_ r ∧ Below w.heap.size w w' := by
 have HR1 := Aside0.mk hr1
 have HC1 := Aside0.mk hc1
 clear hr1 hc1
 have HB := Aside0.mk (Below.refl w.heap.size w)
 have H : (if 0 ≤ a0 then (if (a0 : Int).toNat ≤ 281474976710656 then (redraftlaw13_come.l0 k a0 l1 (List.replicate (a0 : Int).toNat false) ([] : List Int) 0) else (none)) else (none)) = some r := h
 clear h
 by_cases c3 : 0 ≤ a0
 ·rw [if_pos c3] at H
  have c3b0 := eq_true c3
  have c3b1 : decide (0 ≤ a0) = true := decide_eq_true c3
  clear c3
  by_cases c4 : (a0 : Int).toNat ≤ 281474976710656
  ·rw [if_pos c4] at H
   have c4b0 := eq_true c4
   have c4b1 : decide ((a0 : Int).toNat ≤ 281474976710656) = true := decide_eq_true c4
   clear c4
   obtain ⟨y221, hy221⟩ : ∃ y_ : List Bool, y_ = (List.replicate (a0 : Int).toNat false) := ⟨_, rfl⟩
   replace H : (redraftlaw13_come.l0 k a0 l1 y221 ([] : List Int) 0) = some r := by first | (rw [hy221]; with_reducible exact H) | (have H2_ := (Option.bind_some _ _).symm.trans H; rw [hy221]; with_reducible exact H2_) | (have H2_ := (Option.bind_some _ _).symm.trans H; with_reducible exact H2_) | with_reducible exact H | (rw [hy221]; exact H) | exact H
   have Ny221 := Aside0.mk hy221
   clear hy221
   have H' := Aside0.mk H
   clear H
   go_enter Try.func19, Try.ntmps19
   go_wp2_with (first | ((with_reducible refine gate_dst (N := 11) rfl ?_); refine Kd.R_make Kd.bool _ 4 rfl (N := 11) rfl 85 _ _ rfl a0 rfl rfl Try.underlying85 (.bool false) 1 info4 rfl (by decide) (by omega) false (ok := fun _ => True) (okp := fun _ => True) rfl (fun _ hk => hk) trivial (of_decide_eq_true (by first | (with_reducible assumption) | assumption)) (Nat.le_trans (Nat.mul_le_mul_right _ (of_decide_eq_true (by first | (with_reducible assumption) | assumption) : a0.toNat ≤ 281474976710656)) (by omega)) (Below.refl _ _) (Nat.le_refl _) ?_; intro v222 w5 ho6 hb hg_ hnew_; clear hg_ hnew_; (first | rw [← Ny221.out] at ho6 | (simp only [Int.reduceToNat] at ho6; rw [← Ny221.out] at ho6)); have n0_ := Aside0.mk (Kd.R_lower ho6 (below_size (by repeat (first | (with_reducible first | exact HB.out | apply below_alloc | apply pw_below_drewN | apply below_drew1) | exact HB.out)))); have n1_ := Aside0.mk (below_step (by repeat (first | (with_reducible first | exact HB.out | apply below_alloc | apply pw_below_drewN | apply below_drew1) | exact HB.out)) hb); clear HB; have HO223 := n0_; have HB := n1_; clear n0_ n1_; clear hb ho6))
   go_loopg [6, 7] k (fun kq v6 v7 w' => ∃ (x5_1 : List Bool) (x6_1 : List Int) (x7_1 : Int), v7 = .int .i64 x7_1 ∧ Aside0 (redraftlaw13_come.l0 kq a0 l1 x5_1 x6_1 x7_1 = some r) ∧ Aside0 (kq ≤ k) ∧ Aside0 (Kd.R Kd.bool 4 w' w.heap.size (fun _ => True) v222 x5_1) ∧ Aside0 (Kd.R (Kd.int .i64) 3 w' w.heap.size (fun _ => True) v6 x6_1) ∧ Aside0 (Below w.heap.size w w'))
   case atStart => exact ⟨(y221), (([] : List Int)), (0), (by first | rfl | (simp; done) | (simp [*]; done)), H', ⟨Nat.le_refl _⟩, ⟨by (with_reducible repeat (first | apply Kd.R_alloc | apply Kd.R_drewN | apply Kd.R_drew)); exact HO223.out⟩, ⟨by first | exact Kd.R_nil _ _ _ _ _ | exact Kd.N_nil _ _ _ _ _ | exact Kd.V_nil _ _ _ _ _ | exact Kd.Q_nil _ _ _ _ _ | exact Kd.S_nil _ _ _ _ _⟩, ⟨by repeat (first | (with_reducible first | exact HB.out | apply below_alloc | apply pw_below_drewN | apply below_drew1) | exact HB.out)⟩⟩
   case round =>
    clear H'
    try clear c1
    try clear p2
    try clear c3
    try clear c3b0
    try clear c3b1
    try clear c4
    try clear c4b0
    try clear c4b1
    obtain ⟨x5_1, x6_1, x7_1, rfl, HA, HK1, HO_5, HO_6, HB⟩ := hrel
    cases gk with
    | zero => exact absurd HA.out (by simp [redraftlaw13_come.l0])
    | succ k1 =>
     have H := HA.out
     clear HA
     simp only [redraftlaw13_come.l0] at H
     by_cases c7 : x7_1 < a0
     ·rw [if_pos c7] at H
      have c7b0 : decide (x7_1 < a0) = true := decide_eq_true c7
      clear c7
      have HC8 := Aside0.mk H
      clear H
      go_upto_if 20 with (fail)
      go_cut [8] (fun v8 wc => ∃ (kq : Nat) (x8_7 : Int), v8 = .int .i64 x8_7 ∧ Aside0 (redraftlaw13_come.j1 kq a0 l1 x5_1 x6_1 x7_1 x8_7 = some r) ∧ Aside0 (kq ≤ k1) ∧ Aside0 (Kd.R Kd.bool 4 wc w.heap.size (fun _ => True) v222 x5_1) ∧ Aside0 (Kd.R (Kd.int .i64) 3 wc w.heap.size (fun _ => True) u6 x6_1) ∧ Aside0 (Below w.heap.size w wc))
      case first =>
       have H := HC8.out
       clear HC8
       by_cases c9 : x7_1 < (l1.length : Int)
       ·rw [if_pos c9] at H
        have c9b0 : decide (x7_1 < (l1.length : Int)) = true := decide_eq_true c9
        clear c9
        (first | rw [c9b0] | (simp only [i64_w, i32_w]; rw [c9b0]) | skip)
        by_cases c10 : 0 ≤ x7_1
        ·rw [if_pos c10] at H
         have c10b0 : decide (0 ≤ x7_1) = true := decide_eq_true c10
         clear c10
         replace H := Option.bind_eq_some_iff.mp H
         obtain ⟨t225, A110, H⟩ := H
         replace H : (redraftlaw13_come.j1 k1 a0 l1 x5_1 x6_1 x7_1 t225) = some r := H
         have A11 := Aside0.mk A110
         clear A110
         have H' := Aside0.mk H
         clear H
         have p224 : 0 ≤ (x7_1 : Int) := of_decide_eq_true (by first | (with_reducible assumption) | assumption)
         have q224 : x7_1 < (l1.length : Int) := of_decide_eq_true (by first | (with_reducible assumption) | assumption)
         obtain ⟨ad224, e224, hx224_0⟩ := Kd.at_int HR1.out x7_1 p224 q224
         cases e224
         replace hx224_0 := (HB.out.cell (World.block_lt_of_cell? w _ hx224_0)).trans hx224_0
         replace p224 := eq_true p224
         replace q224 := eq_true q224
         go_wp2_with (first | ((with_reducible refine gate_callee (f := 11) rfl ?_); refine goesL_ (some 28) rfl rfl Try.func11 (by kernel_rfl) rfl #[.int .i64 (rd l1 x7_1), .int .i64 (wrap64 (a0 - x7_1))] rfl (by (try simp only [List.map_toArray, List.map_cons, List.map_nil]); first | done | rfl | (simp only [List.length_drop, List.length_take]; rfl)) ?_; (with_reducible refine (redraftlaw13_pick.calls (rd l1 x7_1) (wrap64 (a0 - x7_1)) t225 _ A11.out).mono ?_); rintro e w' ⟨rfl, ⟨nd, rfl⟩⟩; refine ⟨_, rfl, ?_⟩))
         go_meet
         case rel => exact ⟨_, (t225), (by first | rfl | (simp; done) | (simp [*]; done)), H', ⟨by have := HK1.out; first | omega | exact Nat.le_refl _⟩, ⟨by (with_reducible repeat (first | apply Kd.R_alloc | apply Kd.R_drewN | apply Kd.R_drew)); exact HO_5.out⟩, ⟨by (with_reducible repeat (first | apply Kd.R_alloc | apply Kd.R_drewN | apply Kd.R_drew)); exact HO_6.out⟩, ⟨by repeat (first | (with_reducible first | exact HB.out | apply below_alloc | apply pw_below_drewN | apply below_drew1) | exact HB.out)⟩⟩
        ·rw [if_neg c10] at H
         exact absurd H (by simp)
       ·rw [if_neg c9] at H
        have c9b0 : decide (x7_1 < (l1.length : Int)) = false := decide_eq_false c9
        clear c9
        (first | rw [c9b0] | (simp only [i64_w, i32_w]; rw [c9b0]) | skip)
        have H' := Aside0.mk H
        clear H
        go_wp2
        go_meet
        case rel => exact ⟨_, (0), (by first | rfl | (simp; done) | (simp [*]; done)), H', ⟨by have := HK1.out; first | omega | exact Nat.le_refl _⟩, ⟨by (with_reducible repeat (first | apply Kd.R_alloc | apply Kd.R_drewN | apply Kd.R_drew)); exact HO_5.out⟩, ⟨by (with_reducible repeat (first | apply Kd.R_alloc | apply Kd.R_drewN | apply Kd.R_drew)); exact HO_6.out⟩, ⟨by repeat (first | (with_reducible first | exact HB.out | apply below_alloc | apply pw_below_drewN | apply below_drew1) | exact HB.out)⟩⟩
      case rest =>
       clear HC8
       try clear c1
       try clear p2
       try clear q2
       try clear hx2
       try clear c3
       try clear c3b0
       try clear c3b1
       try clear c4
       try clear c4b0
       try clear c4b1
       try clear p6
       try clear c7
       try clear c7b0
       try clear c9
       try clear c9b0
       try clear c10
       try clear c10b0
       try clear c11
       try clear hx224_0
       try clear p2
       try clear p224
       try clear q224
       obtain ⟨kq, x8_7, rfl, HA, HJ7, HO_5, HO_6, HB⟩ := hcut
       cases kq with
       | zero => exact absurd HA.out (by simp [redraftlaw13_come.j1])
       | succ kj7 =>
        have H := HA.out
        clear HA
        simp only [redraftlaw13_come.j1] at H
        have H' := Aside0.mk H
        clear H
        go_wp2
        go_loopg [6, 8, 9] kj7 (fun kq v6 v8 v9 w' => ∃ (x5_3 : List Bool) (x6_3 : List Int) (x8_3 : Int) (x9_3 : Int), v8 = .int .i64 x8_3 ∧ v9 = .int .i64 x9_3 ∧ Aside0 (redraftlaw13_come.l1 kq a0 l1 x5_3 x6_3 x7_1 x8_3 x9_3 = some r) ∧ Aside0 (kq ≤ kj7) ∧ Aside0 (Kd.R Kd.bool 4 w' w.heap.size (fun _ => True) v222 x5_3) ∧ Aside0 (Kd.R (Kd.int .i64) 3 w' w.heap.size (fun _ => True) v6 x6_3) ∧ Aside0 (Below w.heap.size w w'))
        case atStart => exact ⟨(x5_1), (x6_1), (x8_7), (0), (by first | rfl | (simp; done) | (simp [*]; done)), (by first | rfl | (simp; done) | (simp [*]; done)), H', ⟨Nat.le_refl _⟩, ⟨by (with_reducible repeat (first | apply Kd.R_alloc | apply Kd.R_drewN | apply Kd.R_drew)); exact HO_5.out⟩, ⟨by (with_reducible repeat (first | apply Kd.R_alloc | apply Kd.R_drewN | apply Kd.R_drew)); exact HO_6.out⟩, ⟨by repeat (first | (with_reducible first | exact HB.out | apply below_alloc | apply pw_below_drewN | apply below_drew1) | exact HB.out)⟩⟩
        case round =>
         clear H'
         try clear c1
         try clear p2
         try clear q2
         try clear hx2
         try clear c3
         try clear c3b0
         try clear c3b1
         try clear c4
         try clear c4b0
         try clear c4b1
         try clear p6
         try clear c7
         try clear c7b0
         try clear c9
         try clear c9b0
         try clear c10
         try clear c10b0
         try clear c11
         try clear hx224_0
         try clear p2
         try clear p224
         try clear p6
         try clear q2
         try clear q224
         obtain ⟨x5_3, x6_3, x8_3, x9_3, rfl, rfl, HA, HK3, HO_5, HO_6, HB⟩ := hrel
         cases gk with
         | zero => exact absurd HA.out (by simp [redraftlaw13_come.l1])
         | succ k3 =>
          have H := HA.out
          clear HA
          simp only [redraftlaw13_come.l1] at H
          by_cases c12 : x9_3 < a0
          ·rw [if_pos c12] at H
           have c12b0 : decide (x9_3 < a0) = true := decide_eq_true c12
           clear c12
           by_cases c13 : 0 ≤ x9_3
           ·rw [if_pos c13] at H
            have c13b0 : decide (0 ≤ x9_3) = true := decide_eq_true c13
            clear c13
            by_cases c14 : x9_3 < (x5_3.length : Int)
            ·rw [if_pos c14] at H
             have c14b0 : decide (x9_3 < (x5_3.length : Int)) = true := decide_eq_true c14
             clear c14
             obtain ⟨bq15, hbq15⟩ : ∃ b_ : Bool, b_ = (rdOf false x5_3 x9_3) := ⟨_, rfl⟩
             replace H : (if bq15 = true then (redraftlaw13_come.l1 k3 a0 l1 x5_3 x6_3 x7_1 x8_3 (wrap64 (x9_3 + 1))) else (if x8_3 = 0 then (if x6_3.length < 17592186044416 then (redraftlaw13_come.l0 k3 a0 l1 (x5_3.set (x9_3 : Int).toNat true) (x6_3 ++ [x9_3]) (wrap64 (x7_1 + 1))) else (none)) else (redraftlaw13_come.l1 k3 a0 l1 x5_3 x6_3 x7_1 (wrap64 (x8_3 - 1)) (wrap64 (x9_3 + 1))))) = some r := by rw [← hbq15] at H; exact H
             have Nbq15 := Aside0.mk hbq15
             clear hbq15
             by_cases c16 : bq15 = true
             ·subst c16
              have H1 : (redraftlaw13_come.l1 k3 a0 l1 x5_3 x6_3 x7_1 x8_3 (wrap64 (x9_3 + 1))) = some r := by rw [if_pos rfl] at H; exact H
              clear H
              have H := H1
              clear H1
              have H' := Aside0.mk H
              clear H
              obtain ⟨Ao17, co17, eo17⟩ := Kd.R_slice HO_5.out
              subst eo17
              have p226 : 0 ≤ (x9_3 : Int) := of_decide_eq_true (by first | (with_reducible assumption) | assumption)
              have q226 : x9_3 < (x5_3.length : Int) := of_decide_eq_true (by first | (with_reducible assumption) | assumption)
              obtain ⟨ad226, e226, hx226_0⟩ := Kd.at_bool (Kd.R_reads' HO_5.out).2.2 x9_3 p226 q226
              (try rw [← Nbq15.out] at hx226_0); (try rw [← Nbq15.out] at hw226_0)
              cases e226
              replace p226 := eq_true p226
              replace q226 := eq_true q226
              go_wp2
              go_roundg k3
              case measure => have := HK1.out; have := HJ7.out; have := HK3.out; omega
              case rel => exact ⟨(x5_3), (x6_3), (x8_3), (wrap64 (x9_3 + 1)), (by first | rfl | (simp; done) | (simp [*]; done)), (by first | rfl | (simp; done) | (simp [*]; done)), H', ⟨by have := HK1.out; have := HJ7.out; have := HK3.out; omega⟩, ⟨by (with_reducible repeat (first | apply Kd.R_alloc | apply Kd.R_drewN | apply Kd.R_drew)); exact HO_5.out⟩, ⟨by (with_reducible repeat (first | apply Kd.R_alloc | apply Kd.R_drewN | apply Kd.R_drew)); exact HO_6.out⟩, ⟨by repeat (first | (with_reducible first | exact HB.out | apply below_alloc | apply pw_below_drewN | apply below_drew1) | exact HB.out)⟩⟩
             ·replace c16 := Bool.eq_false_iff.mpr c16
              subst c16
              have H1 : (if x8_3 = 0 then (if x6_3.length < 17592186044416 then (redraftlaw13_come.l0 k3 a0 l1 (x5_3.set (x9_3 : Int).toNat true) (x6_3 ++ [x9_3]) (wrap64 (x7_1 + 1))) else (none)) else (redraftlaw13_come.l1 k3 a0 l1 x5_3 x6_3 x7_1 (wrap64 (x8_3 - 1)) (wrap64 (x9_3 + 1)))) = some r := by rw [if_neg (show ¬ (false = true) by decide)] at H; exact H
              clear H
              have H := H1
              clear H1
              by_cases c18 : x8_3 = 0
              ·rw [if_pos c18] at H
               have c18b0 : (x8_3 == 0) = true := beq_iff_eq.mpr c18
               have c18b1 : (x8_3 != 0) = false := bne_eq_false_iff_eq.mpr c18
               clear c18
               obtain ⟨y227, hy227⟩ : ∃ y_ : List Bool, y_ = (x5_3.set (x9_3 : Int).toNat true) := ⟨_, rfl⟩
               replace H : (if x6_3.length < 17592186044416 then (redraftlaw13_come.l0 k3 a0 l1 y227 (x6_3 ++ [x9_3]) (wrap64 (x7_1 + 1))) else (none)) = some r := by first | (rw [hy227]; with_reducible exact H) | (have H2_ := (Option.bind_some _ _).symm.trans H; rw [hy227]; with_reducible exact H2_) | (have H2_ := (Option.bind_some _ _).symm.trans H; with_reducible exact H2_) | with_reducible exact H | (rw [hy227]; exact H) | exact H
               have Ny227 := Aside0.mk hy227
               clear hy227
               by_cases c20 : x6_3.length < 17592186044416
               ·rw [if_pos c20] at H
                have LMc20 := Aside0.mk c20
                clear c20
                obtain ⟨y228, hy228⟩ : ∃ y_ : List Int, y_ = (x6_3 ++ [x9_3]) := ⟨_, rfl⟩
                replace H : (redraftlaw13_come.l0 k3 a0 l1 y227 y228 (wrap64 (x7_1 + 1))) = some r := by first | (rw [hy228]; with_reducible exact H) | (have H2_ := (Option.bind_some _ _).symm.trans H; rw [hy228]; with_reducible exact H2_) | (have H2_ := (Option.bind_some _ _).symm.trans H; with_reducible exact H2_) | with_reducible exact H | (rw [hy228]; exact H) | exact H
                have Ny228 := Aside0.mk hy228
                clear hy228
                have H' := Aside0.mk H
                clear H
                obtain ⟨Ao21, co21, eo21⟩ := Kd.R_slice HO_5.out
                subst eo21
                have p226 : 0 ≤ (x9_3 : Int) := of_decide_eq_true (by first | (with_reducible assumption) | assumption)
                have q226 : x9_3 < (x5_3.length : Int) := of_decide_eq_true (by first | (with_reducible assumption) | assumption)
                obtain ⟨ad226, e226, hx226_0⟩ := Kd.at_bool (Kd.R_reads' HO_5.out).2.2 x9_3 p226 q226
                (try rw [← Nbq15.out] at hx226_0); (try rw [← Nbq15.out] at hw226_0)
                cases e226
                replace p226 := eq_true p226
                replace q226 := eq_true q226
                have p19 : 0 ≤ (x9_3 : Int) := of_decide_eq_true (by first | (with_reducible assumption) | assumption)
                have q19 : (x9_3 : Int) < ((x5_3.length : Int) : Int) := of_decide_eq_true (by first | (with_reducible assumption) | assumption)
                obtain ⟨go19, co19, eo19, gb19, gl19, cl19, HG19⟩ := Kd.R_form HO_5.out (by omega)
                (first | cases eo19 | (injection eo19 with ea_ en_ ec_; (first | subst ea_ | (injection ea_ with ea_; subst ea_)); subst ec_; clear en_))
                have GB19 := Aside0.mk gb19
                have GG19 := Aside0.mk HG19
                clear gb19 gl19 HG19
                (first | simp only [add_plain] at hx226_0 | skip)
                obtain ⟨hx19_0, hf19_0⟩ := Kd.R_celln false HO_5.out (x9_3 : Int) p19 q19
                replace p19 := eq_true p19
                replace q19 := eq_true q19
                have HP22 := Kd.R_putg HO_5.out (x9_3 : Int) true
                go_wp2_with (first | ((with_reducible refine gate_store (t := 4) (p := 43) rfl ?_); refine store_event (t := 4) (p := 43) (v := ?vo_w23) (w1 := (wr.setCell ⟨go19, (x9_3 : Int).toNat, none⟩ (.bool true))) ?hg ?ho ?hn ?hr ?_; (case ho => rfl); (case hg => rfl); (case hn => rfl); (case hr => first | (go_simp; done) | (go_simp; rfl)); intro w23 hw; have hg : wr.grownBy w23 (some go19) := (by rw [hw]; exact HP22.2); have hp_ : Kd.R Kd.bool 4 w23 w.heap.size (fun _ => True) (.slice (some ⟨go19, 0, none⟩) x5_3.length co21) y227 := (by rw [hw, Ny227.out]; exact HP22.1); clear HP22; have n0_ := Aside0.mk (hp_); have n1_ := Aside0.mk (Kd.R_over' (v := (.slice (some ⟨go19, 0, none⟩) x5_3.length co21)) (by (with_reducible repeat (first | apply Kd.R_alloc | apply Kd.R_drewN | apply Kd.R_drew)); exact HO_6.out) (Kd.R_typed HO_5.out) (by decide) hg); have n2_ := Aside0.mk ((by rw [hw]; exact below_set (HB.out) GB19.out : Below w.heap.size w w23)); clear HO_5; clear HO_6; clear HB; have HO_5 := n0_; have HO_6 := n1_; have HB := n2_; clear n0_ n1_ n2_; clear hg hw hp_) | ((with_reducible refine gate_builtin (b := .append) (xs := #[.tmp 44, .tmp 46]) rfl ?_); at_builtin; refine Kd.R_append (Kd.int .i64) (w0 := w) w.heap.size rfl (.tmp 44) (.tmp 46) 29 3 (.int .i64 0) 8 rfl Try.underlying29 info3 rfl (by decide) (by omega) u6 x6_3 x9_3 [.int .i64 x9_3] (fun _ => True) (fun _ => False) rfl rfl ?aP (fun _ hk => hk.elim) ?aF ?aO ?aB ?aS ?aL ?_; (case aP => exact rfl); (case aB => exact (by repeat (first | (with_reducible first | exact HB.out | apply below_alloc | apply pw_below_drewN | apply below_drew1) | exact HB.out))); (case aF => exact (fun _ _ => trivial)); (case aO => exact (by (with_reducible repeat (first | apply Kd.R_alloc | apply Kd.R_drewN | apply Kd.R_drew)); exact HO_6.out)); (case aS => exact (below_size (by repeat (first | (with_reducible first | exact HB.out | apply below_alloc | apply pw_below_drewN | apply below_drew1) | exact HB.out)))); (case aL => have := LMc20.out; omega); intro v229 w24 ho hb hg hat; rw [← Ny228.out] at ho; have n0_ := Aside0.mk (Kd.R_over' (by (with_reducible repeat (first | apply Kd.R_alloc | apply Kd.R_drewN | apply Kd.R_drew)); exact HO_5.out) (Kd.R_typed (by (with_reducible repeat (first | apply Kd.R_alloc | apply Kd.R_drewN | apply Kd.R_drew)); exact HO_6.out)) (by decide) hg); have n1_ := Aside0.mk (hb); have n2_ := Aside0.mk (ho); clear HO_5; clear HB; clear HO_6; have HO_5 := n0_; have HB := n1_; have HO230 := n2_; clear n0_ n1_ n2_; clear ho hb hg hat))
                go_roundg k3
                case measure => have := HK1.out; have := HJ7.out; have := HK3.out; omega
                case rel => exact ⟨(y227), (y228), (wrap64 (x7_1 + 1)), (by first | rfl | (simp; done) | (simp [*]; done)), H', ⟨by have := HK1.out; have := HJ7.out; have := HK3.out; omega⟩, ⟨by (with_reducible repeat (first | apply Kd.R_alloc | apply Kd.R_drewN | apply Kd.R_drew)); exact HO_5.out⟩, ⟨by (with_reducible repeat (first | apply Kd.R_alloc | apply Kd.R_drewN | apply Kd.R_drew)); exact HO230.out⟩, ⟨by repeat (first | (with_reducible first | exact HB.out | apply below_alloc | apply pw_below_drewN | apply below_drew1) | exact HB.out)⟩⟩
               ·rw [if_neg c20] at H
                exact absurd H (by simp)
              ·rw [if_neg c18] at H
               have c18b0 : (x8_3 == 0) = false := beq_eq_false_iff_ne.mpr c18
               have c18b1 : (x8_3 != 0) = true := bne_iff_ne.mpr c18
               have H' := Aside0.mk H
               clear H
               obtain ⟨Ao25, co25, eo25⟩ := Kd.R_slice HO_5.out
               subst eo25
               have p226 : 0 ≤ (x9_3 : Int) := of_decide_eq_true (by first | (with_reducible assumption) | assumption)
               have q226 : x9_3 < (x5_3.length : Int) := of_decide_eq_true (by first | (with_reducible assumption) | assumption)
               obtain ⟨ad226, e226, hx226_0⟩ := Kd.at_bool (Kd.R_reads' HO_5.out).2.2 x9_3 p226 q226
               (try rw [← Nbq15.out] at hx226_0); (try rw [← Nbq15.out] at hw226_0)
               cases e226
               replace p226 := eq_true p226
               replace q226 := eq_true q226
               go_wp2
               go_roundg k3
               case measure => have := HK1.out; have := HJ7.out; have := HK3.out; omega
               case rel => exact ⟨(x5_3), (x6_3), (wrap64 (x8_3 - 1)), (wrap64 (x9_3 + 1)), (by first | rfl | (simp; done) | (simp [*]; done)), (by first | rfl | (simp; done) | (simp [*]; done)), H', ⟨by have := HK1.out; have := HJ7.out; have := HK3.out; omega⟩, ⟨by (with_reducible repeat (first | apply Kd.R_alloc | apply Kd.R_drewN | apply Kd.R_drew)); exact HO_5.out⟩, ⟨by (with_reducible repeat (first | apply Kd.R_alloc | apply Kd.R_drewN | apply Kd.R_drew)); exact HO_6.out⟩, ⟨by repeat (first | (with_reducible first | exact HB.out | apply below_alloc | apply pw_below_drewN | apply below_drew1) | exact HB.out)⟩⟩
            ·rw [if_neg c14] at H
             exact absurd H (by simp)
           ·rw [if_neg c13] at H
            exact absurd H (by simp)
          ·rw [if_neg c12] at H
           have c12b0 : decide (x9_3 < a0) = false := decide_eq_false c12
           clear c12
           have H' := Aside0.mk H
           clear H
           go_wp2
           go_roundg k3
           case measure => have := HK1.out; have := HJ7.out; have := HK3.out; omega
           case rel => exact ⟨(x5_3), (x6_3), (wrap64 (x7_1 + 1)), (by first | rfl | (simp; done) | (simp [*]; done)), H', ⟨by have := HK1.out; have := HJ7.out; have := HK3.out; omega⟩, ⟨by (with_reducible repeat (first | apply Kd.R_alloc | apply Kd.R_drewN | apply Kd.R_drew)); exact HO_5.out⟩, ⟨by (with_reducible repeat (first | apply Kd.R_alloc | apply Kd.R_drewN | apply Kd.R_drew)); exact HO_6.out⟩, ⟨by repeat (first | (with_reducible first | exact HB.out | apply below_alloc | apply pw_below_drewN | apply below_drew1) | exact HB.out)⟩⟩
     ·rw [if_neg c7] at H
      have c7b0 : decide (x7_1 < a0) = false := decide_eq_false c7
      clear c7
      obtain rfl := Option.some.inj H
      go_wp2
      go_ret
      exact ⟨_, by first | rfl | (simp [errW_none, errW_some] <;> rfl) | (simp [*, errW_none, errW_some] <;> rfl), by (with_reducible repeat (first | apply Kd.R_alloc | apply Kd.R_drewN | apply Kd.R_drew)); exact HO_6.out, by repeat (first | (with_reducible first | exact HB.out | apply below_alloc | apply pw_below_drewN | apply below_drew1) | exact HB.out)⟩
  ·rw [if_neg c4] at H
   exact absurd H (by simp)
 ·rw [if_neg c3] at H
  exact absurd H (by simp)
end Go.Proofs.Ytmfabpkliogjlaa.Pr
end
section
namespace Go.Proofs.YtmfabpkliogjlaaWin
open Go.RowKit Go.Proofs.YtmfabpkliogjlaaW.PrintWords Go.Proofs.YtmfabpkliogjlaaW.PrintMore Go.Proofs.Ytmfabpkliogjlaa.Pr
set_option linter.unusedSimpArgs false
set_option linter.unusedVariables false
theorem w64 {n : Int} (h0 : -9223372036854775808 ≤ n) (h1 : n ≤ 9223372036854775807) : wrap64 n = n := IntWalk.wrap64_in n ⟨h0, h1⟩
def freeIn : List Bool → Nat
  | [] => 0
  | b :: l => (if b = true then 0 else 1) + freeIn l
theorem freeIn_append (a b : List Bool) : freeIn (a ++ b) = freeIn a + freeIn b := by
  induction a with
  | nil => simp [freeIn]
  | cons x a ih => simp only [List.cons_append, freeIn, ih]; omega
theorem freeIn_rep (n : Nat) : freeIn (List.replicate n false) = n := by
  induction n with
  | zero => rfl
  | succ n ih => simp only [List.replicate_succ, freeIn, ih]; simp; omega
def Marks (m : Nat) (ins : List Bool) (l : List Int) : Prop := ins.length = m ∧ l.Nodup ∧ (∀ x : Nat, x < m → ((x : Int) ∈ l ↔ ins[x]? = some true)) ∧ (∀ x ∈ l, 0 ≤ x ∧ x < (m : Int)) ∧ l.length + freeIn ins = m
theorem Marks.start (m : Nat) : Marks m (List.replicate m false) [] := by
  refine ⟨by simp, List.nodup_nil, fun x hx => ?_, by simp, by rw [freeIn_rep]; simp⟩
  simp [hx]
theorem Marks.step {m : Nat} {a b : List Bool} {l : List Int} (h : Marks m (a ++ false :: b) l) : Marks m ((a ++ false :: b).set a.length true) (l ++ [(a.length : Int)]) := by
  obtain ⟨h1, h2, h3, h4, h5⟩ := h
  have hl : a.length < m := by rw [← h1]; simp
  have hno : (a.length : Int) ∉ l := fun hx => by
    have := (h3 a.length hl).1 hx
    simp at this
  have hs : (a ++ false :: b).set a.length true = a ++ true :: b := by simp
  rw [hs]
  refine ⟨by simpa using h1, List.nodup_append.2 ⟨h2, by simp, fun x hx y hy => by simp at hy; subst hy; exact fun e => hno (e ▸ hx)⟩, fun x hx => ?_, fun x hx => ?_, ?_⟩
  · rw [List.mem_append, h3 x hx]
    by_cases c : x = a.length
    · subst c; simp
    · have e1 : (a ++ true :: b)[x]? = (a ++ false :: b)[x]? := by
        rw [← hs, List.getElem?_set_ne (by omega)]
      rw [e1]
      simp
      omega
  · rcases List.mem_append.1 hx with hx | hx
    · exact h4 x hx
    · simp at hx; subst hx; omega
  · rw [freeIn_append] at h5 ⊢
    simp only [freeIn, List.length_append, List.length_singleton] at h5 ⊢
    simp at h5 ⊢
    omega
theorem rdOf_at (a : List Bool) (x : Bool) (b : List Bool) : rdOf false (a ++ x :: b) (a.length : Int) = x := by simp [rdOf]
theorem come_l1 {m : Nat} (hm : m ≤ 1000000) (turns : List Int) (l : List Int) (i : Int) {G : List Int → Prop} :
    ∀ (b a : List Bool) (k : Int), Marks m (a ++ b) l → 0 ≤ k → k < freeIn b →
    (∀ a2 b2, a ++ b = a2 ++ false :: b2 → ∃ r, G r ∧ Ev (fun f => redraftlaw13_come.l0 f (m : Int) turns ((a2 ++ false :: b2).set a2.length true) (l ++ [(a2.length : Int)]) (wrap64 (i + 1))) r) →
    ∃ r, G r ∧ Ev (fun f => redraftlaw13_come.l1 f (m : Int) turns (a ++ b) l i k (a.length : Int)) r
  | [], a, k, _, h0, h1, _ => by simp [freeIn] at h1; omega
  | x :: b, a, k, hM, h0, h1, hk => by
    have hl : a.length < m := by rw [← hM.1]; simp
    have hll : l.length < 17592186044416 := by have := hM.2.2.2.2; omega
    have e1 : wrap64 ((a.length : Int) + 1) = ((a ++ [x]).length : Int) := by rw [w64 (by omega) (by omega)]; simp
    have e2 : (a ++ x :: b) = (a ++ [x]) ++ b := by simp
    cases x with
    | true =>
      obtain ⟨r, hg, hr⟩ := come_l1 hm turns l i b (a ++ [true]) k (by rw [← e2]; exact hM) h0 (by simpa [freeIn] using h1) (fun a2 b2 h => hk a2 b2 (by rw [e2]; exact h))
      refine ⟨r, hg, Ev.step (f := fun f => redraftlaw13_come.l1 f (m : Int) turns ((a ++ [true]) ++ b) l i k ((a ++ [true]).length : Int)) (fun f => ?_) hr⟩
      simp only [redraftlaw13_come.l1]
      rw [if_pos (by omega), if_pos (by omega), if_pos (by rw [hM.1]; omega), rdOf_at, if_pos rfl, e1, e2]
    | false =>
      by_cases c : k = 0
      · obtain ⟨r, hg, hr⟩ := hk a b rfl
        refine ⟨r, hg, Ev.step (f := fun f => redraftlaw13_come.l0 f (m : Int) turns ((a ++ false :: b).set a.length true) (l ++ [(a.length : Int)]) (wrap64 (i + 1))) (fun f => ?_) hr⟩
        simp only [redraftlaw13_come.l1]
        rw [if_pos (by omega), if_pos (by omega), if_pos (by rw [hM.1]; omega), rdOf_at, if_neg (by simp), if_pos c, if_pos hll]
        rfl
      · obtain ⟨r, hg, hr⟩ := come_l1 hm turns l i b (a ++ [false]) (k - 1) (by rw [← e2]; exact hM) (by omega) (by simp [freeIn] at h1; omega) (fun a2 b2 h => hk a2 b2 (by rw [e2]; exact h))
        refine ⟨r, hg, Ev.step (f := fun f => redraftlaw13_come.l1 f (m : Int) turns ((a ++ [false]) ++ b) l i (k - 1) ((a ++ [false]).length : Int)) (fun f => ?_) hr⟩
        have hfb : freeIn (false :: b) ≤ 1000000 := by have h5 := hM.2.2.2.2; rw [freeIn_append] at h5; omega
        simp only [redraftlaw13_come.l1]
        rw [if_pos (by omega), if_pos (by omega), if_pos (by rw [hM.1]; omega), rdOf_at, if_neg (by simp), if_neg c, e1, w64 (by omega) (by omega), e2]
def IsOrder (m : Nat) (l : List Int) : Prop := l.length = m ∧ l.Nodup ∧ (∀ x ∈ l, 0 ≤ x ∧ x < (m : Int)) ∧ ∀ x : Int, 0 ≤ x → x < (m : Int) → x ∈ l
theorem freeIn_zero : ∀ (l : List Bool), freeIn l = 0 → ∀ x, x < l.length → l[x]? = some true
  | [], _, x, hx => by simp at hx
  | b :: l, h, x, hx => by
    simp only [freeIn] at h
    cases b with
    | false => simp at h
    | true =>
      cases x with
      | zero => rfl
      | succ x => exact freeIn_zero l (by simpa using h) x (by simpa using hx)
theorem pick_f {k n : Int} (hn : 1 ≤ n ∧ n ≤ 1000000) : ∃ r, redraftlaw13_pick.f k n = some r ∧ 0 ≤ r ∧ r < n := by
  have h1 := Int.tmod_lt_of_pos k (b := n) (by omega)
  have h2 := Int.lt_tmod_of_pos k (b := n) (by omega)
  unfold redraftlaw13_pick.f
  rw [if_neg (by omega)]
  by_cases c : k.tmod n < 0
  · rw [if_pos c, w64 (by omega) (by omega)]
    exact ⟨_, rfl, by omega, by omega⟩
  · rw [if_neg c]
    exact ⟨_, rfl, by omega, by omega⟩
theorem come_l0 {m : Nat} (hm : m ≤ 1000000) (turns : List Int) : ∀ (d : Nat) (ins : List Bool) (l : List Int), l.length + d = m → Marks m ins l →
    ∃ r, IsOrder m r ∧ Ev (fun f => redraftlaw13_come.l0 f (m : Int) turns ins l (l.length : Int)) r
  | 0, ins, l, hd, hM => by
    have hall : ∀ x : Int, 0 ≤ x → x < (m : Int) → x ∈ l := fun x h0 h1 => by
      have h2 := freeIn_zero ins (by have := hM.2.2.2.2; omega) x.toNat (by rw [hM.1]; omega)
      have h3 := (hM.2.2.1 x.toNat (by omega)).2 h2
      rwa [show ((x.toNat : Nat) : Int) = x from by omega] at h3
    refine ⟨l, ⟨by omega, hM.2.1, hM.2.2.2.1, hall⟩, Ev.step (f := fun _ => some l) (fun f => ?_) (Ev.now _)⟩
    simp only [redraftlaw13_come.l0]
    rw [if_neg (by omega)]
  | d + 1, ins, l, hd, hM => by
    have e1 : wrap64 ((l.length : Int) + 1) = (l.length : Int) + 1 := w64 (by omega) (by omega)
    have hfree : freeIn ins = d + 1 := by have := hM.2.2.2.2; omega
    have next : ∀ a2 b2, [] ++ ins = a2 ++ false :: b2 → ∃ r, IsOrder m r ∧ Ev (fun f => redraftlaw13_come.l0 f (m : Int) turns ((a2 ++ false :: b2).set a2.length true) (l ++ [(a2.length : Int)]) (wrap64 ((l.length : Int) + 1))) r := by
      intro a2 b2 h
      rw [List.nil_append] at h
      rw [h] at hM
      obtain ⟨r, hr, hg⟩ := come_l0 hm turns d _ _ (by simp; omega) hM.step
      refine ⟨r, hr, ?_⟩
      rw [e1]
      simpa using hg
    have key : ∀ k : Int, 0 ≤ k → k < (d : Int) + 1 → ∃ r, IsOrder m r ∧ Ev (fun f => redraftlaw13_come.j1 f (m : Int) turns ins l (l.length : Int) k) r := by
      intro k h0 h1
      obtain ⟨r, hr, hg⟩ := come_l1 hm turns l (l.length : Int) (G := IsOrder m) ins [] k hM h0 (by omega) next
      refine ⟨r, hr, Ev.step (f := fun f => redraftlaw13_come.l1 f (m : Int) turns ins l (l.length : Int) k 0) (fun f => by simp only [redraftlaw13_come.j1]) (by simpa using hg)⟩
    by_cases c : (l.length : Int) < (turns.length : Int)
    · obtain ⟨t, ht, t0, t1⟩ := pick_f (k := rd turns (l.length : Int)) (n := (m : Int) - (l.length : Int)) ⟨by omega, by omega⟩
      obtain ⟨r, hr, hg⟩ := key t t0 (by omega)
      refine ⟨r, hr, Ev.step (f := fun f => redraftlaw13_come.j1 f (m : Int) turns ins l (l.length : Int) t) (fun f => ?_) hg⟩
      simp only [redraftlaw13_come.l0]
      rw [if_pos (by omega), if_pos c, if_pos (by omega), w64 (by omega) (by omega), ht]
      rfl
    · obtain ⟨r, hr, hg⟩ := key 0 (by omega) (by omega)
      refine ⟨r, hr, Ev.step (f := fun f => redraftlaw13_come.j1 f (m : Int) turns ins l (l.length : Int) 0) (fun f => ?_) hg⟩
      simp only [redraftlaw13_come.l0]
      rw [if_pos (by omega), if_neg c]
theorem come_ev {m : Nat} (hm : m ≤ 1000000) (turns : List Int) : ∃ r, IsOrder m r ∧ ∃ k, redraftlaw13_come.f k (m : Int) turns = some r := by
  obtain ⟨r, hr, hg⟩ := come_l0 hm turns m (List.replicate m false) [] (by simp) (Marks.start m)
  refine ⟨r, hr, ?_⟩
  obtain ⟨k, hk⟩ := hg.rounds
  refine ⟨k, ?_⟩
  unfold redraftlaw13_come.f
  rw [if_pos (by omega), if_pos (by omega)]
  simpa using hk
end Go.Proofs.YtmfabpkliogjlaaWin
end
section
namespace Go.Proofs.YtmfabpkliogjlaaWinT
open Go.RowKit Go.Maps Go.Proofs.YtmfabpkliogjlaaWin
set_option linter.unusedSimpArgs false
set_option linter.unusedVariables false
def ES : ElemK ByteArray where
  R v := match v with
    | .agg cs => match cs.toList with
      | [.string a] => some (.lit (.string a.data.toList), [])
      | _ => none
    | _ => none
  val a := .agg #[.string a]
  dat a := .lit (.string a.data.toList)
  put a := rfl
  inv {v a ps} h := by
    cases v <;> simp at h
    rename_i cs
    cases cs with | mk l =>
    split at h
    · rename_i a' h'
      simp at h h'
      subst h'
      have := h.1
      congr
      cases a'
      cases a
      simp_all
    · cases h
def WinAt (W : World) (p b : Nat) (nx sz : Int) (m : Int → Option ByteArray) (n : Nat) : Prop :=
  W.heap[p]? = some (.cells #[.int .i64 nx, .int .i64 sz, .map (some b)] 84 (0, 0)) ∧ MapIs Try.prog ES W b m n
section
variable {W W' : World} {p b : Nat} {nx sz : Int} {m : Int → Option ByteArray} {n : Nat}
theorem WinAt.c0 (h : WinAt W p b nx sz m n) : W.cell? ⟨p, 0, none⟩ = some (.int .i64 nx) := by simp [World.cell?, h.1]
theorem WinAt.c1 (h : WinAt W p b nx sz m n) : W.cell? ⟨p, 1, none⟩ = some (.int .i64 sz) := by simp [World.cell?, h.1]
theorem WinAt.c2 (h : WinAt W p b nx sz m n) : W.cell? ⟨p, 2, none⟩ = some (.map (some b)) := by simp [World.cell?, h.1]
theorem WinAt.f0 (h : WinAt W p b nx sz m n) : W.frozen? ⟨p, 0, none⟩ = false := by simp [World.frozen?, h.1]
theorem WinAt.lt (h : WinAt W p b nx sz m n) : p < W.heap.size := (Array.getElem?_eq_some_iff.1 h.1).1
theorem WinAt.ne (h : WinAt W p b nx sz m n) : p ≠ b := by
  rintro rfl
  obtain ⟨es, clock, he⟩ := h.2.isMap
  rw [h.1] at he
  cases he
theorem WinAt.only {K : Nat → Prop} (h : WinAt W p b nx sz m n) (hk : Only K W W') (h1 : ¬ K p) (h2 : ¬ K b) : WinAt W' p b nx sz m n :=
  ⟨(hk.block p h.lt h1).trans h.1, h.2.block (hk.block b h.2.lt h2)⟩
theorem WinAt.below (h : WinAt W p b nx sz m n) (hk : Below W.heap.size W W') : WinAt W' p b nx sz m n := h.only (K := fun _ => False) (Only.of_below hk) (fun h => h) (fun h => h)
theorem WinAt.mono (h : WinAt W p b nx sz m n) {n' : Nat} (hn : n ≤ n') : WinAt W p b nx sz m n' := ⟨h.1, h.2.mono hn⟩
theorem WinAt.turn {m' : Int → Option ByteArray} {n' : Nat} (h : WinAt W p b nx sz m n) (ht : W.mapTurned W' b) (hm : MapIs Try.prog ES W' b m' n') : WinAt W' p b nx sz m' n' :=
  ⟨((Only.turned (K := fun k => k = b) ht rfl).block p h.lt h.ne).trans h.1, hm⟩
theorem WinAt.set (h : WinAt W p b nx sz m n) (y : Int) : WinAt (W.setCell ⟨p, 0, none⟩ (.int .i64 y)) p b y sz m n := by
  refine ⟨?_, h.2.block (Below.heap_setCell _ _ _ _ h.ne.symm)⟩
  have hp := h.1
  have hlt := h.lt
  simp only [World.setCell]
  rw [Array.getElem?_modify, if_pos rfl, hp]
  rfl
end
set_option maxRecDepth 100000 in
set_option maxHeartbeats 4000000 in
theorem New_calls (nx sz : Int) (w : World) : Calls Try.prog 18 #[.int .i64 nx, .int .i64 sz] w fun e w' =>
    if nx < 0 ∨ nx > 1048576 ∨ sz < 1 ∨ sz > 1048576 then e = .returned (.tuple #[.pointer none, .int .i64 2]) ∧ Below w.heap.size w w'
    else e = .returned (.tuple #[.pointer (some ⟨w.heap.size + 1, 0, none⟩), .int .i64 0]) ∧ WinAt w' (w.heap.size + 1) w.heap.size nx sz (fun _ => none) 0 ∧ Below w.heap.size w w' := by
  have hmm := @run_makeMap Try.prog
  by_cases c1 : nx < 0
  · simp only [if_pos (Or.inl c1 : nx < 0 ∨ nx > 1048576 ∨ sz < 1 ∨ sz > 1048576)]
    go_enter Try.func18, Try.ntmps18
    go_wp2
    go_ret2
    exact ⟨rfl, Below.refl _ _⟩
  by_cases c2 : nx > 1048576
  · simp only [if_pos (Or.inr (Or.inl c2) : nx < 0 ∨ nx > 1048576 ∨ sz < 1 ∨ sz > 1048576)]
    go_enter Try.func18, Try.ntmps18
    go_wp2
    go_ret2
    exact ⟨rfl, Below.refl _ _⟩
  by_cases c3 : sz < 1
  · simp only [if_pos (Or.inr (Or.inr (Or.inl c3)) : nx < 0 ∨ nx > 1048576 ∨ sz < 1 ∨ sz > 1048576)]
    go_enter Try.func18, Try.ntmps18
    go_wp2
    go_ret2
    exact ⟨rfl, Below.refl _ _⟩
  by_cases c4 : sz > 1048576
  · simp only [if_pos (Or.inr (Or.inr (Or.inr c4)) : nx < 0 ∨ nx > 1048576 ∨ sz < 1 ∨ sz > 1048576)]
    go_enter Try.func18, Try.ntmps18
    go_wp2
    go_ret2
    exact ⟨rfl, Below.refl _ _⟩
  simp only [if_neg (fun h => by omega : ¬ (nx < 0 ∨ nx > 1048576 ∨ sz < 1 ∨ sz > 1048576))]
  have hM := MapIs.made (P := Try.prog) (E := ES) w
  have hb := ((Below.refl w.heap.size w).alloc (Nat.le_refl _) (.map #[] 0)).alloc (by simp) (.cells #[.int .i64 nx, .int .i64 sz, .map (some w.heap.size)] 84)
  have h1 := World.alloc_heap_new (w.alloc (.map #[] 0)) (.cells #[.int .i64 nx, .int .i64 sz, .map (some w.heap.size)] 84)
  rw [World.size_alloc] at h1
  go_enter Try.func18, Try.ntmps18
  go_wp2
  go_ret2
  exact ⟨rfl, ⟨h1, hM.block (Below.heap_alloc _ _ _ (by simp))⟩, hb⟩
theorem look_some {W : World} {p b n : Nat} {nx sz : Int} {m : Int → Option ByteArray} (h : WinAt W p b nx sz m n) {x : Int} {a : ByteArray} (hf : Fits x) (hm : m x = some a) :
    (Instr.lookup 82 (.map (some b)) (.int .i64 x) true).run Try.prog W = .ok (.tuple #[.agg #[.string a], .bool true]) W := by
  have := h.2.look Try.underlying3 Try.underlying82 (z := (⟨#[]⟩ : ByteArray)) (Try.zeroValue87 W) hf
  rw [hm] at this
  exact this
theorem look_none {W : World} {p b n : Nat} {nx sz : Int} {m : Int → Option ByteArray} (h : WinAt W p b nx sz m n) {x : Int} (hf : Fits x) (hm : m x = none) :
    (Instr.lookup 82 (.map (some b)) (.int .i64 x) true).run Try.prog W = .ok (.tuple #[.agg #[.string ⟨#[]⟩], .bool false]) W := by
  have := h.2.look Try.underlying3 Try.underlying82 (z := (⟨#[]⟩ : ByteArray)) (Try.zeroValue87 W) hf
  rw [hm] at this
  exact this
set_option maxRecDepth 100000 in
set_option maxHeartbeats 4000000 in
theorem Peek_calls {p b n : Nat} {nx sz : Int} {m : Int → Option ByteArray} (w : World) (h : WinAt w p b nx sz m n) (hf : Fits nx) : Calls Try.prog 22 #[.pointer (some ⟨p, 0, none⟩)] w fun e w' =>
    e = .returned (.tuple #[.string ((m nx).getD ⟨#[]⟩), .int .i64 (if (m nx).isSome then 0 else 15)]) ∧ Only (fun _ => False) w w' := by
  have c0 := h.c0
  have c2 := h.c2
  cases hm : m nx with
  | none =>
    have h2 : WinAt (w.alloc (.cells #[.string ⟨#[]⟩] 87)).drew p b nx sz m n := h.below (((Below.refl _ w).alloc (Nat.le_refl _) _).drew)
    have h3 : WinAt w.drew p b nx sz m n := h.below (Below.refl _ w).drew
    have d0 := h2.c0
    have d2 := h2.c2
    have e0 := h3.c0
    have e2 := h3.c2
    have hl := look_none h hf hm
    have hl2 := look_none h2 hf hm
    have hl3 := look_none h3 hf hm
    clear h h2 h3 hf hm
    simp only [Option.isSome_none, Option.isSome_some, Bool.false_eq_true, if_false, if_true, Option.getD_none, Option.getD_some]
    go_enter Try.func22, Try.ntmps22
    go_wp2
    go_region
    all_goals go_wp2
    all_goals go_ret2
    all_goals exact ⟨rfl, (Only.alloc _ _ _).drew⟩
  | some a =>
    have h2 : WinAt (w.alloc (.cells #[.string ⟨#[]⟩] 87)).drew p b nx sz m n := h.below (((Below.refl _ w).alloc (Nat.le_refl _) _).drew)
    have h3 : WinAt w.drew p b nx sz m n := h.below (Below.refl _ w).drew
    have d0 := h2.c0
    have d2 := h2.c2
    have e0 := h3.c0
    have e2 := h3.c2
    have hl := look_some h hf hm
    have hl2 := look_some h2 hf hm
    have hl3 := look_some h3 hf hm
    clear h h2 h3 hf hm
    simp only [Option.isSome_none, Option.isSome_some, Bool.false_eq_true, if_false, if_true, Option.getD_none, Option.getD_some]
    go_enter Try.func22, Try.ntmps22
    go_wp2
    go_region
    all_goals go_wp2
    all_goals go_ret2
    all_goals exact ⟨rfl, (Only.alloc _ _ _).drew⟩
set_option maxRecDepth 100000 in
set_option maxHeartbeats 4000000 in
theorem Drop_calls {p b n : Nat} {nx sz : Int} {m : Int → Option ByteArray} (w : World) (h : WinAt w p b nx sz m n) (x : Int) (hf : Fits x) : Calls Try.prog 36 #[.pointer (some ⟨p, 0, none⟩), .int .i64 x] w fun e w' =>
    e = .returned (.int .i64 (if (m x).isSome then 0 else 15)) ∧ WinAt w' p b nx sz (fun y => if y = x then none else m y) n ∧ Only (fun k => k = b) w w' := by
  have c2 := h.c2
  cases hm : m x with
  | none =>
    have hl := look_none h hf hm
    simp only [Option.isSome_none, Bool.false_eq_true, if_false]
    go_enter Try.func36, Try.ntmps36
    go_wp2
    go_ret
    have e1 : (fun y => if y = x then none else m y) = m := by
      funext y
      by_cases c : y = x
      · rw [if_pos c, c, hm]
      · rw [if_neg c]
    refine ⟨rfl, ?_, Only.alloc _ _ _⟩
    rw [e1]
    exact h.below ((Below.refl _ w).alloc (Nat.le_refl _) _)
  | some a =>
    have hl := look_some h hf hm
    simp only [Option.isSome_some, if_true]
    have h2 := h.below ((Below.refl _ w).alloc (Nat.le_refl _) (.cells #[.string a] 87))
    have c3 := h2.c2
    obtain ⟨W', hrun, hM, ht⟩ := h2.2.drop Try.underlying3 Try.underlying82 0 hf
    go_enter Try.func36, Try.ntmps36
    go_wp2
    go_ret
    exact ⟨rfl, h2.turn ht hM, (Only.alloc _ _ _).trans (Only.turned ht rfl)⟩
set_option maxRecDepth 100000 in
set_option maxHeartbeats 4000000 in
theorem Pass_calls {p b n : Nat} {nx sz : Int} {m : Int → Option ByteArray} (w : World) (h : WinAt w p b nx sz m n) (hf : Fits nx) (hlt : nx < 9223372036854775807) : Calls Try.prog 23 #[.pointer (some ⟨p, 0, none⟩)] w fun e w' =>
    e = .returned (.int .i64 (if (m nx).isSome then 0 else 15)) ∧ WinAt w' p b (if (m nx).isSome then nx + 1 else nx) sz (fun y => if y = nx then none else m y) n ∧ Only (fun k => k = b ∨ k = p) w w' := by
  have c0 := h.c0
  cases hm : m nx with
  | none =>
    have hd := Drop_calls w h nx hf
    rw [hm] at hd
    simp only [Option.isSome_none, Bool.false_eq_true, if_false] at hd ⊢
    go_enter Try.func23, Try.ntmps23
    go_wp2_with (go_at_call 36; refine hd.mono ?_; rintro e w' ⟨rfl, h2, ho⟩)
    go_ret
    exact ⟨rfl, h2, ho.mono (fun i hi => Or.inl hi)⟩
  | some a =>
    have hd := Drop_calls w h nx hf
    rw [hm] at hd
    simp only [Option.isSome_some, if_true] at hd ⊢
    go_enter Try.func23, Try.ntmps23
    go_wp2_with (go_at_call 36; refine hd.mono ?_; rintro e w' ⟨rfl, h2, ho⟩; have d0 := h2.c0; have df := h2.f0)
    go_ret
    have hw : wrap64 (nx + 1) = nx + 1 := IntWalk.wrap64_in _ ⟨by have := (wf64 hf).1; omega, by omega⟩
    rw [hw]
    exact ⟨rfl, h2.set _, (ho.mono (fun i hi => Or.inl hi)).trans (Only.setCell _ _ _ _ (Or.inr rfl))⟩
def putE (nx sz : Int) (m : Int → Option ByteArray) (x : Int) : Int := if x < nx then 130 else if x - nx ≥ sz then 132 else if (m x).isSome then 131 else 0
set_option maxRecDepth 100000 in
set_option maxHeartbeats 4000000 in
theorem Put_calls {p b n : Nat} {nx sz : Int} {m : Int → Option ByteArray} (w : World) (h : WinAt w p b nx sz m n) (hn0 : 0 ≤ nx) (hn : n < maxLen) (x : Int) (v : ByteArray) (hf : Fits x) : Calls Try.prog 20 #[.pointer (some ⟨p, 0, none⟩), .int .i64 x, .string v] w fun e w' =>
    e = .returned (.int .i64 (putE nx sz m x)) ∧ WinAt w' p b nx sz (if putE nx sz m x = 0 then fun y => if y = x then some v else m y else m) (n + 1) ∧ Only (fun k => k = b) w w' := by
  have c0 := h.c0
  have c1 := h.c1
  have c2 := h.c2
  unfold putE
  by_cases q1 : x < nx
  · simp only [if_pos q1, show ¬ ((130 : Int) = 0) from by decide, if_false]
    go_enter Try.func20, Try.ntmps20
    go_wp2
    go_ret
    exact ⟨rfl, h.mono (Nat.le_succ _), Only.refl _ _⟩
  simp only [if_neg q1]
  have hx := wf64 hf
  have hw : wrap64 (x - nx) = x - nx := IntWalk.wrap64_in _ ⟨by omega, by omega⟩
  have h3 : WinAt w.drew p b nx sz m n := h.below (Below.refl _ w).drew
  have e0 := h3.c0
  have e1 := h3.c1
  have e2 := h3.c2
  by_cases q2 : x - nx ≥ sz
  · simp only [if_pos q2, show ¬ ((132 : Int) = 0) from by decide, if_false]
    go_enter Try.func20, Try.ntmps20
    go_wp2
    go_region
    all_goals go_wp2
    all_goals go_ret
    all_goals exact ⟨rfl, h3.mono (Nat.le_succ _), (Only.refl _ _).drew⟩
  simp only [if_neg q2]
  cases hm : m x with
  | some a =>
    have hl := look_some h3 hf hm
    simp only [Option.isSome_some, if_true, show ¬ ((131 : Int) = 0) from by decide, if_false]
    go_enter Try.func20, Try.ntmps20
    go_wp2
    go_region
    all_goals go_wp2
    all_goals go_ret
    all_goals exact ⟨rfl, (h.below ((Below.refl _ w).alloc (Nat.le_refl _) _).drew).mono (Nat.le_succ _), (Only.alloc _ _ _).drew⟩
  | none =>
    have hl := look_none h3 hf hm
    have h2 := h.below ((Below.refl _ w).alloc (Nat.le_refl _) (.cells #[.string ⟨#[]⟩] 87)).drew
    have d2 := h2.c2
    obtain ⟨W', hrun, hM, ht⟩ := h2.2.store Try.underlying3 Try.underlying82 hn hf v
    rw [show ES.val v = .agg #[.string v] from rfl] at hrun
    simp only [Option.isSome_none, Bool.false_eq_true, if_false, if_true]
    go_enter Try.func20, Try.ntmps20
    go_wp2
    go_region
    all_goals go_wp2
    all_goals go_ret
    all_goals exact ⟨rfl, h2.turn ht hM, (Only.alloc _ _ _).drew.trans (Only.turned ht rfl)⟩
end Go.Proofs.YtmfabpkliogjlaaWinT
end
section
namespace Go.Proofs.YtmfabpkliogjlaaWinT
open Go.RowKit Go.Maps Go.Shelf Go.Proofs.YtmfabpkliogjlaaWin
set_option linter.unusedSimpArgs false
set_option linter.unusedVariables false
attribute [local go_sem] Oper.semAt_some
structure WS where
  nx : Int
  m : Int → Option ByteArray
  n : Nat
def WS.passed (s : WS) : WS := ⟨s.nx + 1, fun y => if y = s.nx then none else s.m y, s.n⟩
abbrev WinS (W : World) (p b : Nat) (sz : Int) (s : WS) : Prop := WinAt W p b s.nx sz s.m s.n
def ReadyStops (n p b : Nat) (sz B : Int) (lb : Array Value) : Prop :=
  ∀ (l : Nat) (J : WS → World → Prop) (Jx : World → Prop) (s0 : WS) (W0 : World),
    (∀ s W, J s W → WinS W p b sz s ∧ Fits s.nx ∧ B < 4611686018427387904 ∧ ((s.m s.nx).isSome → s.nx < B) ∧ ∀ v, lb = #[.pointer (some ⟨v, 0, none⟩)] → W.cell? ⟨v, 0, none⟩ = some (.pointer (some ⟨p, 0, none⟩))) →
    (∀ s W W', J s W → Only (fun _ => False) W W' → J s W') →
    (∀ s W a W', J s W → s.m s.nx = some a → Only (fun k => k = b ∨ k = p) W W' → WinS W' p b sz s.passed → YieldAt Fence.wide (n - 1) Try.prog l #[.int .i64 s.nx, .string a] W' fun e W'' =>
      (e = .returned (.bool true) ∧ ∃ s', s.nx < s'.nx ∧ J s' W'') ∨ (e = .returned (.bool false) ∧ Jx W'')) →
    J s0 W0 →
    CallsIn Fence.wide n Try.prog 47 (#[.func (.yield l) #[] #[]] ++ lb) W0 fun e W' => (∃ v, e = .returned v) ∧ ((∃ s, J s W' ∧ s.m s.nx = none) ∨ Jx W')
def leftTo (B : Int) (p : Nat) (W : World) : Nat := (B - intOf ((W.cell? ⟨p, 0, none⟩).getD undef)).toNat
theorem leftTo_eq {B : Int} {W : World} {p b : Nat} {sz : Int} {s : WS} (h : WinS W p b sz s) : leftTo B p W = (B - s.nx).toNat := by
  unfold leftTo
  rw [h.c0]
  rfl
set_option maxRecDepth 100000 in
set_option maxHeartbeats 4000000 in
theorem ready1_stops (n p b v : Nat) (sz B : Int) (hn : 1 ≤ n) : ReadyStops n p b sz B #[.pointer (some ⟨v, 0, none⟩)] := by
  intro l J Jx s0 W0 hJ hJo hY h0
  refine callsIn_of_wp Try.func47 rfl trivial ?_ rfl
  simp only [Try.ntmps47, List.size_toArray, List.length_cons, List.length_nil, Nat.reduceAdd, Nat.reduceSub, Array.replicate_succ, Array.replicate_zero, List.push_toArray, List.append_toArray, List.nil_append, List.cons_append]
  gi_wp2
  gi_loopw [3] (fun x wr => ∃ s, J s wr) (fun x wr => leftTo B p wr)
  case atStart => exact ⟨s0, h0⟩
  case round =>
    obtain ⟨s, hs⟩ := hrel
    obtain ⟨w1, rfl⟩ : ∃ w1, w1 = wr := ⟨wr, rfl⟩
    obtain ⟨hW, hf, hB, hlt, hv⟩ := hJ s w1 hs
    have hv := hv v rfl
    have c0 := hW.c0
    cases hm : s.m s.nx with
    | none =>
      gi_wp2_with (refine ⟨trivial, ?_⟩; gi_at_call 22; refine (callsIn_wide.2 (Peek_calls _ hW hf)).mono ?_; rintro e w2 ⟨rfl, ho⟩; rw [hm])
      refine bodyPost_ret (results_none rfl _ _ _) rfl ?_
      exact ⟨⟨_, rfl⟩, .inl ⟨s, hJo s _ _ hs ho, hm⟩⟩
    | some a =>
      have hlt' := hlt (by rw [hm]; rfl)
      gi_wp2_with (first | (refine ⟨trivial, ?_⟩; gi_at_call 22; refine (callsIn_wide.2 (Peek_calls _ hW hf)).mono ?_; rintro e w2 ⟨rfl, ho⟩; rw [hm]; have hW2 := hW.only ho (fun h => h) (fun h => h); have hv2 := (ho.below (n := w1.heap.size) (Nat.le_refl _) (fun _ h => h.elim)).cell (p := ⟨v, 0, none⟩) (cell_lt hv); rw [hv] at hv2) | (refine ⟨trivial, ?_⟩; gi_at_call 23; refine (callsIn_wide.2 (Pass_calls _ hW2 hf (by omega))).mono ?_; rintro e w3 ⟨rfl, hW3, ho3⟩; rw [hm] at hW3; obtain ⟨fn, tmps, assign, body, hy, hR⟩ := hY s w1 a w3 hs hm ((ho.mono (fun _ h => h.elim)).trans ho3) hW3))
      refine hR.mono ?_
      rintro e w4 (⟨rfl, s', hlt4, hJ4⟩ | ⟨rfl, hx4⟩)
      · gi_wp2
        refine ⟨⟨s', hJ4⟩, ?_⟩
        rw [leftTo_eq (hJ s' w4 hJ4).1, leftTo_eq hW]
        omega
      · gi_wp2
        refine bodyPost_ret (results_none rfl _ _ _) rfl ?_
        exact ⟨⟨_, rfl⟩, .inr hx4⟩
end Go.Proofs.YtmfabpkliogjlaaWinT
end
section
namespace Go.Proofs.YtmfabpkliogjlaaWinT
open Go.RowKit Go.Maps Go.Shelf Go.Proofs.YtmfabpkliogjlaaWin
set_option linter.unusedSimpArgs false
set_option linter.unusedVariables false
def winPost (B : Nat) (I : WS → World → Prop) (Ix : Code → World → Prop) (s : WS) (W : World) : Exit → Act → World → Prop
  | .normal, _, W' => KeepsFrom B W W' ∧ ∃ s', s.nx < s'.nx ∧ I s' W'
  | .ret, _, W' => KeepsFrom B W W' ∧ Ix .ret W'
  | .exit id, _, W' => KeepsFrom B W W' ∧ Ix (.exit id) W'
  | .goto t, _, W' => KeepsFrom B W W' ∧ Ix (.goto t) W'
  | _, _, _ => False
def WinI (p b : Nat) (sz B : Int) (lb : Array Value) (I : WS → World → Prop) : Prop :=
  ∀ s W, I s W → WinS W p b sz s ∧ Fits s.nx ∧ B < 4611686018427387904 ∧ ((s.m s.nx).isSome → s.nx < B) ∧ ∀ v, lb = #[.pointer (some ⟨v, 0, none⟩)] → W.cell? ⟨v, 0, none⟩ = some (.pointer (some ⟨p, 0, none⟩))
theorem own_only {n : Nat} {I : WS → World → Prop} (h : OwnFrom n I) {s : WS} {W W' : World} (hs : I s W) (ho : Only (fun _ => False) W W') : I s W' :=
  h s W W' none hs ⟨ho.os, ho.tape, ho.output, ho.size, fun k hk _ => ho.block k hk (fun h => h)⟩ (fun r e => by cases e)
section
variable {n p b : Nat} {sz B : Int} {w : World}
theorem wpIn_rangeReady {g : Operand} {ps : Array Tmp} {assign body : Code} {Q : Exit → Act → World → Prop} {a : Act}
    (h1 : 1 ≤ n) {lb : Array Value} (hg : a.eval g = .func (.func 47) #[] lb) (hseq : ReadyStops (n - 1) p b sz B lb) (hps : ps.size = 2) (hp : p < w.heap.size) (hb : b < w.heap.size)
    (I : WS → World → Prop) (Ia : WS → ByteArray → World → Prop) (Ix : Code → World → Prop) (hI : OwnFrom w.heap.size I) (hIa : ∀ x, OwnFrom w.heap.size (fun s W => Ia s x W)) (hIx : OwnFrom w.heap.size Ix)
    (hW : WinI p b sz B lb I)
    (hstep : ∀ s W x W', I s W → s.m s.nx = some x → Only (fun k => k = b ∨ k = p) W W' → WinS W' p b sz s.passed → Ia s x W')
    {s0 : WS} (h0 : I s0 w) (a₁ : Int → ByteArray → Act)
    (hassign : ∀ (l : Nat) (x : Int) (y : ByteArray) (W : World) (K : Act → World → Prop), K (a₁ x y) W →
      assign.wpIn (Fence.wide.inRound l) (n - 1 - 1) Try.prog (Exit.then K (fun _ _ _ => False)) { tmps := (ps.zip #[Value.int .i64 x, Value.string y]).foldl (fun t (p, v) => t.setIfInBounds p v) a.tmps, defers := [] } W)
    (hbody : ∀ (l : Nat) (s : WS) (x : ByteArray) (W : World), w.heap.size ≤ l → (∃ r, W.heap[l]? = some (.loop r)) → Ia s x W → body.wpIn (Fence.wide.inRound l) (n - 1 - 1) Try.prog (winPost w.heap.size I Ix s W) (a₁ s.nx x) W)
    (hdone : ∀ (D : Nat) (s : WS) (W : World), w.heap.size ≤ D → I s W → s.m s.nx = none → W.heap[D]? = some (.deferred (some [])) → Q .normal { a with defers := { target := .collected D, args := #[] } :: a.defers } W)
    (hstop : ∀ (D : Nat) (c : Code) (W : World), w.heap.size ≤ D → Ix c W → W.heap[D]? = some (.deferred (some [])) → c.wpIn Fence.wide n Try.prog Q { a with defers := { target := .collected D, args := #[] } :: a.defers } W) :
    (Code.rangeFunc g ps assign body).wpIn Fence.wide n Try.prog Q a w := by
  have eg := enters_of Try.func47 (by kernel_rfl) rfl
  refine wpIn_rangeFunc ?_
  intro fn hfn
  rw [show Fence.wide.round = none from rfl]
  obtain ⟨rec, hrec⟩ : ∃ rec : LoopState → Option Code → Loop, rec = fun st pe => { state := st, pending := pe, fn, tmps := a.tmps, params := ps, assign, body, defers := w.heap.size } := ⟨_, rfl⟩
  obtain ⟨W1, hW1⟩ : ∃ W1, (w.alloc (.deferred (some []))).alloc (.loop (rec .ready none)) = W1 := ⟨_, rfl⟩
  have hL1 : W1.heap[w.heap.size + 1]? = some (.loop (rec .ready none)) := by
    rw [← hW1]; have := World.alloc_heap_new (w.alloc (.deferred (some []))) (.loop (rec .ready none)); rwa [World.size_alloc] at this
  have hK1 : W1.heap[w.heap.size]? = some (.deferred (some [])) := by
    rw [← hW1]; exact (Below.heap_alloc _ _ _ (by simp)).trans (World.alloc_heap_new w _)
  have hI1 : I s0 W1 := by rw [← hW1]; exact hI.alloc _ (hI.alloc _ h0)
  refine ⟨w.heap.size + 1, [{ target := .collected w.heap.size, args := #[] }], W1, { target := .fn (.func 47) lb, args := #[.func (.yield (w.heap.size + 1)) #[] #[]] }, W1, 47,
    #[.func (.yield (w.heap.size + 1)) #[] #[]] ++ lb, W1, ?_, ?_, ?_, ?_, fun _ => h1, ?_⟩
  · rw [← hW1, hrec]; exact run_enterLoop_outer _ _ _ _ _
  · simp only [resolve, hg]
    simp [go_sem]
  · intro f' hf'; exact trivial
  · simp [invoke, go_sem, eg]
  · refine (hseq (w.heap.size + 1)
      (fun s W => I s W ∧ W.heap[w.heap.size + 1]? = some (.loop (rec .ready none)) ∧ W.heap[w.heap.size]? = some (.deferred (some [])))
      (fun W => ∃ c, Ix c W ∧ W.heap[w.heap.size + 1]? = some (.loop (rec .done (some c))) ∧ W.heap[w.heap.size]? = some (.deferred (some [])))
      s0 W1 (fun s W hs => hW s W hs.1)
      (fun s W W' hs ho => ⟨own_only hI hs.1 ho, (ho.block _ (Array.getElem?_eq_some_iff.1 hs.2.1).1 (fun h => h)).trans hs.2.1, (ho.block _ (Array.getElem?_eq_some_iff.1 hs.2.2).1 (fun h => h)).trans hs.2.2⟩)
      ?_ ⟨hI1, hL1, hK1⟩).mono ?_
    ·
      rintro s W0 x W ⟨hi0, hl0, hk0⟩ hm ho hWs
      have hl := (ho.block _ (Array.getElem?_eq_some_iff.1 hl0).1 (by omega)).trans hl0
      have hk := (ho.block _ (Array.getElem?_eq_some_iff.1 hk0).1 (by omega)).trans hk0
      have hi := hstep s W0 x W hi0 hm ho hWs
      clear hi0 hl0 hk0 ho
      have hlt : w.heap.size + 1 < W.heap.size := (Array.getElem?_eq_some_iff.1 hl).1
      have hy := run_yield (P := Try.prog) (args := #[Value.int .i64 s.nx, Value.string x]) hl (by rw [hrec]; exact hps.symm)
      rw [hrec] at hy
      refine ⟨fn, _, assign, body, hy, roundIn_of_wpIn hfn (hassign _ s.nx x W _ ⟨_, run_beginRound hl (by rw [hrec]), ?_⟩)⟩
      have hl2 : (W.putObj (w.heap.size + 1) (.loop { rec .ready none with state := .busy })).heap[w.heap.size + 1]? = some (.loop { rec .ready none with state := .busy }) := World.putObj_heap_same hlt
      have hk2 : (W.putObj (w.heap.size + 1) (.loop { rec .ready none with state := .busy })).heap[w.heap.size]? = some (.deferred (some [])) := (World.putObj_heap_other (by omega)).trans hk
      refine wpIn_mono (hbody _ s x _ (by omega) ⟨_, hl2⟩ ((hIa x).putObj _ hi (by omega) hl rfl)) ?_
      have fin : ∀ (jump : Option Code) (W3 : World), KeepsFrom w.heap.size (W.putObj (w.heap.size + 1) (.loop { rec .ready none with state := .busy })) W3 →
          (Instr.endRound (w.heap.size + 1) jump).run Try.prog W3 = .ok (.bool jump.isNone) (W3.putObj (w.heap.size + 1) (.loop (rec (if jump.isNone then .ready else .done) jump))) ∧
          W3.heap[w.heap.size + 1]? = some (.loop { rec .ready none with state := .busy }) ∧
          (W3.putObj (w.heap.size + 1) (.loop (rec (if jump.isNone then .ready else .done) jump))).heap[w.heap.size + 1]? = some (.loop (rec (if jump.isNone then .ready else .done) jump)) ∧
          (W3.putObj (w.heap.size + 1) (.loop (rec (if jump.isNone then .ready else .done) jump))).heap[w.heap.size]? = some (.deferred (some [])) := fun jump W3 hk3 => by
        have hl3 := hk3.same _ _ (by omega) hl2 rfl
        have := run_endRound (P := Try.prog) jump hl3
        rw [hrec] at this ⊢
        exact ⟨this, by rw [hrec] at hl3; exact hl3, World.putObj_heap_same (Array.getElem?_eq_some_iff.1 hl3).1, (World.putObj_heap_other (by omega)).trans (hk3.same _ _ (Nat.le_refl _) hk2 rfl)⟩
      rintro e a3 W3 hp
      cases e with
      | normal =>
        obtain ⟨hk3, s', hs', hi3⟩ := hp
        obtain ⟨hr, hl3, hl4, hk4⟩ := fin none W3 hk3
        exact ⟨_, _, hr, .inl ⟨rfl, s', hs', hI.putObj _ hi3 (by omega) hl3 rfl, hl4, hk4⟩⟩
      | ret =>
        obtain ⟨hk3, hi3⟩ := hp
        obtain ⟨hr, hl3, hl4, hk4⟩ := fin (some .ret) W3 hk3
        exact ⟨_, _, hr, .inr ⟨rfl, .ret, hIx.putObj _ hi3 (by omega) hl3 rfl, hl4, hk4⟩⟩
      | exit id =>
        obtain ⟨hk3, hi3⟩ := hp
        obtain ⟨hr, hl3, hl4, hk4⟩ := fin (some (.exit id)) W3 hk3
        exact ⟨_, _, hr, .inr ⟨rfl, .exit id, hIx.putObj _ hi3 (by omega) hl3 rfl, hl4, hk4⟩⟩
      | goto t =>
        obtain ⟨hk3, hi3⟩ := hp
        obtain ⟨hr, hl3, hl4, hk4⟩ := fin (some (.goto t)) W3 hk3
        exact ⟨_, _, hr, .inr ⟨rfl, .goto t, hIx.putObj _ hi3 (by omega) hl3 rfl, hl4, hk4⟩⟩
      | panic ch => exact hp.elim
      | outgrown => exact hp.elim
    ·
      rintro e W2 ⟨⟨v, rfl⟩, (⟨s, ⟨hi, hl, hk⟩, hm⟩ | ⟨c, hi, hl, hk⟩)⟩
      · exact ⟨none, _, by have := run_endLoop (P := Try.prog) hl (by rw [hrec]; simp); rw [hrec] at this; exact this, hdone _ s _ (Nat.le_refl _) (hI.putObj _ hi (by omega) hl rfl) hm ((World.putObj_heap_other (by omega)).trans hk)⟩
      · exact ⟨some c, _, by have := run_endLoop (P := Try.prog) hl (by rw [hrec]; simp); rw [hrec] at this; exact this, hstop _ c _ (Nat.le_refl _) (hIx.putObj _ hi (by omega) hl rfl) ((World.putObj_heap_other (by omega)).trans hk)⟩
end
end Go.Proofs.YtmfabpkliogjlaaWinT
end
section
namespace Go.Proofs
open Go.Shelf
def Try.keysI_ren : Go.Shelf.Ren := ⟨fun | 7 => 35 | 10 => 50 | n => n, fun | 23 => 71 | 26 => 3 | 3 => 75 | 28 => 80 | 0 => 0 | 27 => 79 | 33 => 101 | 4 => 4 | n => n, fun | n => n⟩
theorem Try.keysI : Go.Proofs.SlLaysZI.n7 Try.prog Try.keysI_ren := {
  mixed := by kernel_rfl
  f7 := ⟨Try.f35.name, by decide, Try.func35.trans (congrArg some (by kernel_rfl))⟩
  f10 := ⟨Try.f50.name, by decide, Try.func50.trans (congrArg some (by kernel_rfl))⟩
  t0 := Try.underlying0
  a0 := Try.isAgg0
  z0 := Try.sizeOf0
  v0 := Try.zeroValue0
  t4 := Try.underlying4
  a4 := Try.isAgg4
  z4 := Try.sizeOf4
  v4 := Try.zeroValue4
  t23 := Try.underlying71
  a23 := Try.isAgg71
  z23 := Try.sizeOf71
  v23 := Try.zeroValue71
  t26 := Try.underlying3
  a26 := Try.isAgg3
  z26 := Try.sizeOf3
  v26 := Try.zeroValue3
  t27 := Try.underlying79
  a27 := Try.isAgg79
  z27 := Try.sizeOf79
  v27 := Try.zeroValue79
  t28 := Try.underlying80
  a28 := Try.isAgg80
  z28 := Try.sizeOf80
  v28 := Try.zeroValue80
  t33 := Try.underlying101
  a33 := Try.isAgg101
  z33 := Try.sizeOf101
  v33 := Try.zeroValue101 }
def Try.sortedI_ren : Go.Shelf.Ren := ⟨fun | 6 => 34 | 8 => 48 | 9 => 49 | 11 => 54 | 13 => 56 | 12 => 55 | 23 => 66 | 24 => 67 | 14 => 57 | 15 => 58 | 16 => 59 | 17 => 60 | 18 => 61 | 19 => 62 | 20 => 63 | 21 => 64 | 22 => 65 | 25 => 68 | 26 => 69 | 27 => 70 | 28 => 71 | 29 => 72 | 30 => 73 | 31 => 74 | n => n, fun | 26 => 3 | 28 => 80 | 24 => 29 | 0 => 0 | 3 => 3 | 37 => 108 | 48 => 118 | 50 => 120 | 4 => 4 | 40 => 111 | 39 => 110 | 45 => 115 | 5 => 5 | 9 => 9 | 51 => 121 | 55 => 125 | 57 => 127 | 58 => 91 | 33 => 101 | n => n, fun | n => n⟩
theorem Try.sortedI : Go.Proofs.SlLaysZI.n6 Try.prog Try.sortedI_ren := {
  mixed := by kernel_rfl
  f6 := ⟨Try.f34.name, by decide, Try.func34.trans (congrArg some (by kernel_rfl))⟩
  f8 := ⟨Try.f48.name, by decide, Try.func48.trans (congrArg some (by kernel_rfl))⟩
  f11 := ⟨Try.f54.name, by decide, Try.func54.trans (congrArg some (by kernel_rfl))⟩
  t0 := Try.underlying0
  a0 := Try.isAgg0
  z0 := Try.sizeOf0
  v0 := Try.zeroValue0
  t24 := Try.underlying29
  a24 := Try.isAgg29
  z24 := Try.sizeOf29
  v24 := Try.zeroValue29
  t26 := Try.underlying3
  a26 := Try.isAgg3
  z26 := Try.sizeOf3
  v26 := Try.zeroValue3
  t28 := Try.underlying80
  a28 := Try.isAgg80
  z28 := Try.sizeOf80
  v28 := Try.zeroValue80
  i26 := by kernel_rfl }
def Try.sortI_ren : Go.Shelf.Ren := ⟨fun | 5 => 49 | 8 => 56 | 7 => 55 | 19 => 66 | 20 => 67 | 10 => 57 | 11 => 58 | 12 => 59 | 13 => 60 | 14 => 61 | 15 => 62 | 16 => 63 | 17 => 64 | 18 => 65 | 30 => 68 | 31 => 69 | 32 => 70 | 33 => 71 | 34 => 72 | 35 => 73 | 40 => 74 | n => n, fun | 23 => 29 | 25 => 3 | 3 => 3 | 32 => 108 | 22 => 29 | 0 => 0 | 44 => 118 | 46 => 120 | 4 => 4 | 36 => 111 | 35 => 110 | 41 => 115 | 5 => 5 | 9 => 9 | 53 => 121 | 57 => 125 | 63 => 127 | 64 => 91 | n => n, fun | n => n⟩
theorem Try.sortI : Go.Proofs.SlLaysM.n5 Try.prog Try.sortI_ren := {
  mixed := by kernel_rfl
  f5 := ⟨Try.f49.name, by decide, Try.func49.trans (congrArg some (by kernel_rfl))⟩
  f7 := ⟨Try.f55.name, by decide, Try.func55.trans (congrArg some (by kernel_rfl))⟩
  f8 := Try.func56.trans (congrArg some (by kernel_rfl))
  f10 := ⟨Try.f57.name, by decide, Try.func57.trans (congrArg some (by kernel_rfl))⟩
  f11 := ⟨Try.f58.name, by decide, Try.func58.trans (congrArg some (by kernel_rfl))⟩
  f12 := ⟨Try.f59.name, by decide, Try.func59.trans (congrArg some (by kernel_rfl))⟩
  f13 := ⟨Try.f60.name, by decide, Try.func60.trans (congrArg some (by kernel_rfl))⟩
  f14 := ⟨Try.f61.name, by decide, Try.func61.trans (congrArg some (by kernel_rfl))⟩
  f15 := ⟨Try.f62.name, by decide, Try.func62.trans (congrArg some (by kernel_rfl))⟩
  f16 := ⟨Try.f63.name, by decide, Try.func63.trans (congrArg some (by kernel_rfl))⟩
  f17 := ⟨Try.f64.name, by decide, Try.func64.trans (congrArg some (by kernel_rfl))⟩
  f18 := ⟨Try.f65.name, by decide, Try.func65.trans (congrArg some (by kernel_rfl))⟩
  f19 := Try.func66.trans (congrArg some (by kernel_rfl))
  f20 := Try.func67.trans (congrArg some (by kernel_rfl))
  f30 := ⟨Try.f68.name, by decide, Try.func68.trans (congrArg some (by kernel_rfl))⟩
  f31 := Try.func69.trans (congrArg some (by kernel_rfl))
  f32 := Try.func70.trans (congrArg some (by kernel_rfl))
  f33 := ⟨Try.f71.name, by decide, Try.func71.trans (congrArg some (by kernel_rfl))⟩
  f34 := ⟨Try.f72.name, by decide, Try.func72.trans (congrArg some (by kernel_rfl))⟩
  f35 := ⟨Try.f73.name, by decide, Try.func73.trans (congrArg some (by kernel_rfl))⟩
  f40 := ⟨Try.f74.name, by decide, Try.func74.trans (congrArg some (by kernel_rfl))⟩
  t0 := Try.underlying0
  a0 := Try.isAgg0
  z0 := Try.sizeOf0
  v0 := Try.zeroValue0
  t3 := Try.underlying3
  a3 := Try.isAgg3
  z3 := Try.sizeOf3
  v3 := Try.zeroValue3
  t4 := Try.underlying4
  a4 := Try.isAgg4
  z4 := Try.sizeOf4
  v4 := Try.zeroValue4
  t5 := Try.underlying5
  a5 := Try.isAgg5
  z5 := Try.sizeOf5
  v5 := Try.zeroValue5
  t9 := Try.underlying9
  a9 := Try.isAgg9
  z9 := Try.sizeOf9
  v9 := Try.zeroValue9
  t22 := Try.underlying29
  a22 := Try.isAgg29
  z22 := Try.sizeOf29
  v22 := Try.zeroValue29
  t23 := Try.underlying29
  a23 := Try.isAgg29
  z23 := Try.sizeOf29
  v23 := Try.zeroValue29
  t25 := Try.underlying3
  a25 := Try.isAgg3
  z25 := Try.sizeOf3
  v25 := Try.zeroValue3
  t32 := Try.underlying108
  a32 := Try.isAgg108
  z32 := Try.sizeOf108
  v32 := Try.zeroValue108
  t35 := Try.underlying110
  a35 := Try.isAgg110
  z35 := Try.sizeOf110
  v35 := Try.zeroValue110
  t36 := Try.underlying111
  a36 := Try.isAgg111
  z36 := Try.sizeOf111
  v36 := Try.zeroValue111
  t41 := Try.underlying115
  a41 := Try.isAgg115
  z41 := Try.sizeOf115
  v41 := Try.zeroValue115
  t44 := Try.underlying118
  a44 := Try.isAgg118
  z44 := Try.sizeOf118
  v44 := Try.zeroValue118
  t46 := Try.underlying120
  a46 := Try.isAgg120
  z46 := Try.sizeOf120
  v46 := Try.zeroValue120
  t53 := Try.underlying121
  a53 := Try.isAgg121
  z53 := Try.sizeOf121
  v53 := Try.zeroValue121
  t57 := Try.underlying125
  a57 := Try.isAgg125
  z57 := Try.sizeOf125
  v57 := Try.zeroValue125
  t63 := Try.underlying127
  a63 := Try.isAgg127
  z63 := Try.sizeOf127
  v63 := Try.zeroValue127
  t64 := Try.underlying91
  a64 := Try.isAgg91
  z64 := Try.sizeOf91
  v64 := Try.zeroValue91 }
def Try.keysS_ren : Go.Shelf.Ren := ⟨fun | 7 => 37 | 10 => 51 | n => n, fun | 23 => 82 | 26 => 3 | 3 => 87 | 28 => 80 | 0 => 0 | 27 => 79 | 33 => 101 | 4 => 4 | n => n, fun | n => n⟩
theorem Try.keysS : Go.Proofs.SlLaysZI.n7 Try.prog Try.keysS_ren := {
  mixed := by kernel_rfl
  f7 := ⟨Try.f37.name, by decide, Try.func37.trans (congrArg some (by kernel_rfl))⟩
  f10 := ⟨Try.f51.name, by decide, Try.func51.trans (congrArg some (by kernel_rfl))⟩
  t0 := Try.underlying0
  a0 := Try.isAgg0
  z0 := Try.sizeOf0
  v0 := Try.zeroValue0
  t4 := Try.underlying4
  a4 := Try.isAgg4
  z4 := Try.sizeOf4
  v4 := Try.zeroValue4
  t23 := Try.underlying82
  a23 := Try.isAgg82
  z23 := Try.sizeOf82
  v23 := Try.zeroValue82
  t26 := Try.underlying3
  a26 := Try.isAgg3
  z26 := Try.sizeOf3
  v26 := Try.zeroValue3
  t27 := Try.underlying79
  a27 := Try.isAgg79
  z27 := Try.sizeOf79
  v27 := Try.zeroValue79
  t28 := Try.underlying80
  a28 := Try.isAgg80
  z28 := Try.sizeOf80
  v28 := Try.zeroValue80
  t33 := Try.underlying101
  a33 := Try.isAgg101
  z33 := Try.sizeOf101
  v33 := Try.zeroValue101 }
end Go.Proofs
end
section
namespace Go.Proofs.YtmfabpkliogjlaaWin
open Go.RowKit Go.Maps Go.Sort Go.Shelf
set_option linter.unusedSimpArgs false
set_option linter.unusedVariables false
theorem intKeys_has {P : Program} {R : Value → Option (DataW Unit × List MemPlace)} {w : World} {b n : Nat} {D0 : DataW Unit} (hown : w.ownsMap P 3 R b n D0) (hk : P.underlying 3 = some (.int .i64)) : (intKeys D0).Nodup ∧ (∀ x, x ∈ intKeys D0 ↔ has D0 (.int .i64 x) = true) ∧ Maps.size D0 ≤ n := by
  obtain ⟨es, hD, hp, _⟩ := hown.entries (int_keyed hk)
  obtain ⟨es', hD', hko⟩ := hown.keysOf
  obtain rfl : es = es' := by rw [hD] at hD'; simpa using hD'
  subst hD
  have hk' : ∀ p ∈ es, ∃ x, p.1 = .int .i64 x := fun p hp => by obtain ⟨v, hv⟩ := hko p hp; obtain ⟨x, _, hx, _⟩ := Maps.keyOf_i64 hk hv; exact ⟨x, hx⟩
  refine ⟨?_, fun x => ?_, ?_⟩
  · show (es.map fun p => _root_.Go.intOf p.1).Nodup
    refine List.pairwise_map.2 (hp.imp_of_mem fun {p q} hp' hq' hne e => hne ?_)
    obtain ⟨a, ha⟩ := hk' p hp'
    obtain ⟨b, hb⟩ := hk' q hq'
    rw [ha, hb] at e ⊢
    exact congrArg _ e
  · rw [has_eq, List.any_eq_true]
    show x ∈ es.map (fun p => _root_.Go.intOf p.1) ↔ _
    rw [List.mem_map]
    constructor
    · rintro ⟨p, hp', rfl⟩
      obtain ⟨a, ha⟩ := hk' p hp'
      exact ⟨p, hp', by rw [ha]; simp [Lit.sameKey, _root_.Go.intOf]⟩
    · rintro ⟨p, hp', hs⟩
      obtain ⟨a, ha⟩ := hk' p hp'
      rw [ha] at hs
      exact ⟨p, hp', by rw [ha]; simpa [Lit.sameKey, _root_.Go.intOf] using hs⟩
  · obtain ⟨es2, clock, _, _, hs, hD2⟩ := hown
    rw [hD2, size_eq, length_sorted]
    simpa using hs
def KeysOfM {α : Type} (m : Int → Option α) (ss : List Int) : Prop := ss.Pairwise (· < ·) ∧ (∀ x, Fits x → (x ∈ ss ↔ (m x).isSome = true)) ∧ ∀ x ∈ ss, Fits x
theorem keysOfM {α : Type} {E : ElemK α} {P : Program} {W : World} {b n : Nat} {m : Int → Option α} {D : DataW Unit} (hown : W.ownsMap P 3 E.R b n D) (hk : P.underlying 3 = some (.int .i64))
    (hm : ∀ x, (Lit.int .i64 x).wf = true → match m x with | some a => ∀ z, D.atKey (.int .i64 x) z = E.dat a | none => ∀ z, D.atKey (.int .i64 x) z = z) {ss : List Int} (hp : ss.Perm (intKeys D)) :
    KeysOfM m (ss.mergeSort leI) := by
  obtain ⟨h1, h2, h3⟩ := intKeys_has hown hk
  have tr : ∀ a b c : Int, leI a b = true → leI b c = true → leI a c = true := fun a b c h1 h2 => by simp only [leI, decide_eq_true_eq] at *; exact Int.le_trans h1 h2
  have hto : ∀ a b : Int, (leI a b || leI b a) = true := fun a b => by simp only [leI, Bool.or_eq_true, decide_eq_true_eq]; exact Int.le_total a b
  have hsp := List.mergeSort_perm ss leI
  refine ⟨?_, fun x hx => ?_, fun x hx => intKeys_wf hown hk x ((hsp.trans hp).mem_iff.1 hx)⟩
  · have p1 := List.pairwise_mergeSort tr hto ss
    have p2 : (ss.mergeSort leI).Pairwise (· ≠ ·) := (hsp.trans hp).nodup_iff.2 h1
    refine (p1.and p2).imp (fun {a b} h => ?_)
    have h5 : a ≤ b := by simpa [leI] using h.1
    have h6 := h.2
    omega
  · rw [(hsp.trans hp).mem_iff, h2 x]
    have := hm x hx
    cases hc : m x with
    | none =>
      rw [hc] at this
      rw [has_false_of_atKey this]
      simp
    | some a =>
      rw [hc] at this
      rw [has_true_of_atKey this]
      simp
theorem sortsI (m : Nat) : AnyZI.SortsIn Try.prog Try.sortedI_ren Fence.wide m :=
  ⟨fun blk off cap ss W hH hblk hsz => callsIn_wide.2 (AnyM.slices_Sort_int Try.sortI blk off cap ss W hH hblk hsz),
   fun p cap W => callsIn_wide.2 (AnyM.slices_Sort_int_none Try.sortI p cap W)⟩
set_option maxRecDepth 100000 in
set_option maxHeartbeats 2000000 in
theorem Held_calls {p b n : Nat} {nx sz : Int} {m : Int → Option Int} (w : World) (h : WinAt w p b nx sz m n) (hn : n ≤ 2000000) :
    Calls Try.prog 16 #[.pointer (some ⟨p, 0, none⟩)] w fun e w' => ∃ (v : Value) (ss : List Int), e = .returned v ∧ KeysOfM m ss ∧
      w'.ownsRow w.heap.size 3 1 v ss.length (ss.map (Value.int .i64)) ∧ Below w.heap.size w w' := by
  have c2 := h.c2
  obtain ⟨D0, hown, hm⟩ := h.2
  obtain ⟨_, _, hs⟩ := intKeys_has hown Try.underlying3
  refine (callsIn_wide (n := 6)).1 ?_
  have hbl := hown.lt
  have hseq : SeqGives Fence.wide 2 Try.prog 50 #[.pointer (some ⟨w.heap.size, 0, none⟩)] encZ (fun ss => ss.Perm (intKeys D0)) (Maps.size D0) (w.alloc (.cells #[.map (some b)] 71)) :=
    AnyZI.keys_gives (ρ := Try.keysI_ren) { Try.keysI with } Fence.wide _ trivial rfl (by omega) w.heap.size b n D0 _ (by simp) (by simp) (by
      obtain ⟨es, clock, hb, Ft, hs, hD⟩ := hown
      exact ⟨es, clock, (Below.heap_alloc _ _ b hbl).trans hb, Ft, hs, hD⟩)
  have cK : ∀ mb W, CallsIn Fence.wide 5 Try.prog 35 #[.map mb] W fun e w' => e = .returned (.func (.func 50) #[] #[.pointer (some ⟨W.heap.size, 0, none⟩)]) ∧ w' = W.alloc (.cells #[.map mb] 71) := fun mb W => AnyZI.keys_in Try.keysI Fence.wide 5 trivial rfl mb W
  have cS := AnyZI.sorted_in Try.sortedI Fence.wide 5 trivial trivial trivial trivial rfl (by omega) (sortsI _) (enters_of Try.func49 (by kernel_rfl) rfl) 50 #[.pointer (some ⟨w.heap.size, 0, none⟩)] trivial (enters_of Try.func50 (by kernel_rfl) rfl) _ _ (by simp [maxLen]; omega) (by omega) _ hseq
  change CallsIn _ _ Try.prog 34 _ _ _ at cS
  have hfK : Fence.wide.fn 35 := trivial
  have hfS : Fence.wide.fn 34 := trivial
  refine callsIn_of_wp Try.func16 rfl trivial ?_ rfl
  simp only [Try.ntmps16, List.size_toArray, List.length_cons, List.length_nil, Nat.reduceAdd, Nat.reduceSub, Array.replicate_succ, Array.replicate_zero, List.push_toArray, List.append_toArray, List.nil_append, List.cons_append]
  gi_wp2_with (first
    | (gi_at_call 35; refine (cK _ _).mono ?_; rintro e w' ⟨rfl, rfl⟩)
    | (gi_at_call 34; refine cS.mono ?_; rintro e w' ⟨v, ss, rfl, hS, hrow, hnil, hb⟩))
  go_ret
  have hk := keysOfM hown Try.underlying3 hm hS
  refine ⟨v, ss.mergeSort leI, rfl, hk, ?_, ((Below.refl _ w).alloc (Nat.le_refl _) _).trans (hb.mono (by simp))⟩
  have := ownsRow_base_a (base' := w.heap.size) hrow (by simp)
  rw [List.length_mergeSort]
  exact this
theorem row_slice {W : World} {n₀ k : Nat} {v : Value} {xs : List Value} (h : W.ownsRow n₀ 3 1 v k xs) : ∃ A c, v = .slice A k c ∧ ∀ x, xs[0]? = some x → ∃ g, A = some ⟨g, 0, none⟩ ∧ W.cell? ⟨g, 0, none⟩ = some x := by
  obtain ⟨h1, h2⟩ := h
  rcases h2 with ⟨rfl, hx⟩ | ⟨g, cap, cur, rfl, hbg, hh, hnc, hcm, hcs, htake⟩
  · refine ⟨none, 0, by rw [hx], fun x hx0 => ?_⟩
    have : xs = [] := List.eq_nil_of_length_eq_zero (by omega)
    rw [this] at hx0
    simp at hx0
  · refine ⟨_, _, rfl, fun x hx0 => ⟨g, rfl, ?_⟩⟩
    have hl : 0 < xs.length := (List.getElem?_eq_some_iff.1 hx0).1
    rw [← htake, List.getElem?_take, if_pos (by omega), Array.getElem?_toList] at hx0
    simpa [World.cell?, hh] using hx0
theorem keys_none {α : Type} {ss : List Int} (h : KeysOfM (fun _ : Int => (none : Option α)) ss) : ss = [] := by
  cases ss with
  | nil => rfl
  | cons x l =>
    have h1 := h.2.2 x List.mem_cons_self
    have := (h.2.1 x h1).1 List.mem_cons_self
    simp at this
end Go.Proofs.YtmfabpkliogjlaaWin
end
section
namespace Go.Proofs.YtmfabpkliogjlaaWinT
open Go.RowKit Go.Maps Go.Sort Go.Shelf Go.Proofs.YtmfabpkliogjlaaWin
set_option linter.unusedSimpArgs false
set_option linter.unusedVariables false
theorem WinAt.belowB {B : Nat} {W W' : World} {p b n : Nat} {nx sz : Int} {m : Int → Option ByteArray} (h : WinAt W p b nx sz m n) (hk : Below B W W') (hp : p < B) (hb : b < B) : WinAt W' p b nx sz m n :=
  ⟨(hk.block p hp).trans h.1, h.2.block (hk.block b hb)⟩
set_option maxRecDepth 100000 in
set_option maxHeartbeats 4000000 in
theorem Ready_calls (p : Option Addr) (w : World) : Calls Try.prog 29 #[.pointer p] w fun e w' => e = .returned (.func (.func 47) #[] #[.pointer (some ⟨w.heap.size, 0, none⟩)]) ∧ w' = w.alloc (.cells #[.pointer p] 46) := by
  go_enter Try.func29, Try.ntmps29
  go_wp2
  go_ret
  exact ⟨rfl, rfl⟩
set_option maxRecDepth 100000 in
set_option maxHeartbeats 4000000 in
theorem Next_exact {p b n : Nat} {nx sz : Int} {m : Int → Option ByteArray} (w : World) (h : WinAt w p b nx sz m n) : Calls Try.prog 24 #[.pointer (some ⟨p, 0, none⟩)] w fun e w' => e = .returned (.int .i64 nx) ∧ w' = w := by
  have c0 := h.c0
  go_enter Try.func24, Try.ntmps24
  go_wp2
  go_ret
  exact ⟨rfl, rfl⟩
theorem New_good {nx sz : Int} (h : 0 ≤ nx ∧ nx ≤ 1048576 ∧ 1 ≤ sz ∧ sz ≤ 1048576) (w : World) : Calls Try.prog 18 #[.int .i64 nx, .int .i64 sz] w fun e w' =>
    ∃ p b, e = .returned (.tuple #[.pointer (some ⟨p, 0, none⟩), .int .i64 0]) ∧ w.heap.size ≤ p ∧ w.heap.size ≤ b ∧ WinAt w' p b nx sz (fun _ => none) 0 ∧ Below w.heap.size w w' := by
  refine (New_calls nx sz w).mono ?_
  intro e w' hh
  rw [if_neg (by omega)] at hh
  exact ⟨_, _, hh.1, Nat.le_succ _, Nat.le_refl _, hh.2⟩
theorem Put_new {p b n : Nat} {nx sz : Int} {m : Int → Option ByteArray} (w : World) (h : WinAt w p b nx sz m n) (hn0 : 0 ≤ nx) (hn : n < maxLen) (x : Int) (v : ByteArray) (hf : Fits x) (h1 : nx ≤ x) (h2 : x - nx < sz) (h3 : m x = none) : Calls Try.prog 20 #[.pointer (some ⟨p, 0, none⟩), .int .i64 x, .string v] w fun e w' =>
    e = .returned (.int .i64 0) ∧ WinAt w' p b nx sz (fun y => if y = x then some v else m y) (n + 1) ∧ Only (fun k => k = b) w w' := by
  refine (Put_calls w h hn0 hn x v hf).mono ?_
  have e0 : putE nx sz m x = 0 := by unfold putE; rw [if_neg (by omega), if_neg (by omega), h3]; rfl
  rintro e w' ⟨rfl, h1, h2⟩
  rw [e0] at h1 ⊢
  exact ⟨rfl, h1, h2⟩
set_option maxRecDepth 100000 in
set_option maxHeartbeats 2000000 in
theorem Held_calls {p b n : Nat} {nx sz : Int} {m : Int → Option ByteArray} (w : World) (h : WinAt w p b nx sz m n) (hn : n ≤ 2000000) :
    Calls Try.prog 25 #[.pointer (some ⟨p, 0, none⟩)] w fun e w' => ∃ (v : Value) (ss : List Int), e = .returned v ∧ KeysOfM m ss ∧
      w'.ownsRow w.heap.size 3 1 v ss.length (ss.map (Value.int .i64)) ∧ Below w.heap.size w w' := by
  have c2 := h.c2
  obtain ⟨D0, hown, hm⟩ := h.2
  obtain ⟨_, _, hs⟩ := intKeys_has hown Try.underlying3
  refine (callsIn_wide (n := 6)).1 ?_
  have hbl := hown.lt
  have hseq : SeqGives Fence.wide 2 Try.prog 51 #[.pointer (some ⟨w.heap.size, 0, none⟩)] encZ (fun ss => ss.Perm (intKeys D0)) (Maps.size D0) (w.alloc (.cells #[.map (some b)] 82)) :=
    AnyZI.keys_gives (ρ := Try.keysS_ren) { Try.keysS with } Fence.wide _ trivial rfl (by omega) w.heap.size b n D0 _ (by simp) (by simp) (by
      obtain ⟨es, clock, hb, Ft, hs, hD⟩ := hown
      exact ⟨es, clock, (Below.heap_alloc _ _ b hbl).trans hb, Ft, hs, hD⟩)
  have cK : ∀ mb W, CallsIn Fence.wide 5 Try.prog 37 #[.map mb] W fun e w' => e = .returned (.func (.func 51) #[] #[.pointer (some ⟨W.heap.size, 0, none⟩)]) ∧ w' = W.alloc (.cells #[.map mb] 82) := fun mb W => AnyZI.keys_in Try.keysS Fence.wide 5 trivial rfl mb W
  have cS := AnyZI.sorted_in Try.sortedI Fence.wide 5 trivial trivial trivial trivial rfl (by omega) (sortsI _) (enters_of Try.func49 (by kernel_rfl) rfl) 51 #[.pointer (some ⟨w.heap.size, 0, none⟩)] trivial (enters_of Try.func51 (by kernel_rfl) rfl) _ _ (by simp [maxLen]; omega) (by omega) _ hseq
  change CallsIn _ _ Try.prog 34 _ _ _ at cS
  have hfK : Fence.wide.fn 37 := trivial
  have hfS : Fence.wide.fn 34 := trivial
  refine callsIn_of_wp Try.func25 rfl trivial ?_ rfl
  simp only [Try.ntmps25, List.size_toArray, List.length_cons, List.length_nil, Nat.reduceAdd, Nat.reduceSub, Array.replicate_succ, Array.replicate_zero, List.push_toArray, List.append_toArray, List.nil_append, List.cons_append]
  gi_wp2_with (first
    | (gi_at_call 37; refine (cK _ _).mono ?_; rintro e w' ⟨rfl, rfl⟩)
    | (gi_at_call 34; refine cS.mono ?_; rintro e w' ⟨v, ss, rfl, hS, hrow, hnil, hb⟩))
  go_ret
  have hk := keysOfM hown Try.underlying3 hm hS
  refine ⟨v, ss.mergeSort leI, rfl, hk, ?_, ((Below.refl _ w).alloc (Nat.le_refl _) _).trans (hb.mono (by simp))⟩
  have := ownsRow_base_a (base' := w.heap.size) hrow (by simp)
  rw [List.length_mergeSort]
  exact this
end Go.Proofs.YtmfabpkliogjlaaWinT
end
section
namespace Go.Proofs.YtmfabpkliogjlaaR
open Go.RowKit Go.Proofs.YtmfabpkliogjlaaW.PrintWords
theorem list_of {α : Type} {p : Nat → α → Prop} : ∀ (n : Nat), (∀ i, i < n → ∃ y, p i y) → ∃ ys : List α, ys.length = n ∧ ∀ i y, ys[i]? = some y → p i y
  | 0, _ => ⟨[], rfl, fun i y h => by simp at h⟩
  | n + 1, h => by
    obtain ⟨ys, hl, hp⟩ := list_of n (fun i hi => h i (by omega))
    obtain ⟨y, hy⟩ := h n (by omega)
    refine ⟨ys ++ [y], by simp [hl], fun i z hz => ?_⟩
    by_cases hi : i < n
    · rw [List.getElem?_append_left (by omega)] at hz
      exact hp i z hz
    · have : i = n := by
        have := (List.getElem?_eq_some_iff.1 hz).1
        simp [hl] at this
        omega
      subst this
      rw [List.getElem?_append_right (by omega)] at hz
      simp [hl] at hz
      subst hz
      exact hy
theorem weightsAll_mem {H : Type} {P : Program} {e : TypeId} : ∀ {ds : List (DataW H)} {d : DataW H}, d ∈ ds → ∀ n ∈ d.weights P e, n ∈ DataW.weightsAll P e ds
  | d0 :: ds, d, hd, n, hn => by
    simp only [DataW.weightsAll, List.mem_append]
    rcases List.mem_cons.1 hd with rfl | hd
    · exact Or.inl hn
    · exact Or.inr (weightsAll_mem hd n hn)
  | [], d, hd, _, _ => by simp at hd
def Reads {α : Type} (P : Program) (t : TypeId) (d : Kd α) (Q : α → Prop) : Prop :=
  ∀ (H : Type) (enc : TypeId × Value → H) (w : World) (base : Nat) (spare : Nat → Bool) (held : Bool) (fuel : Nat) (cs : List Value) (x : DataW H × List MemPlace),
    DataW.trod enc P w base spare held fuel t cs = some x → (∀ n ∈ x.1.weights P t, n ≤ reachBytes) → ∃ y, d.K w y cs ∧ Q y
theorem reads_int {P : Program} {t : TypeId} {k : IntKind} (ht : P.underlying t = some (.int k)) : Reads P t (Kd.int k) (fun n => (Lit.int k n).wf = true) := by
  intro H enc w base spare held fuel cs x h _
  obtain ⟨n, rfl, _, hw⟩ := DataW.trod_int ht h
  exact ⟨n, rfl, hw⟩
theorem reads_slice {α : Type} {P : Program} {t e : TypeId} {d : Kd α} {Q : α → Prop} (ht : P.underlying t = some (.slice e)) (hc : P.cellsOf e = d.sz) {B : Nat} (hB : P.bytesOf e = B) (he : Reads P e d Q) :
    Reads P t (Kd.slice e d) (fun xs => xs.length * B ≤ 140737488351232 ∧ ∀ x ∈ xs, Q x) := by
  intro H enc w base spare held fuel cs x h hb
  rcases Deep.open_slice ht h with ⟨rfl, rfl⟩ | ⟨a, len, cap, m, n, D, Pl, rfl, _, hl, hm, hmm, rfl, hx⟩
  · exact ⟨[], ⟨none, 0, rfl, Nat.le_refl _, ⟨rfl, by simp, fun h0 => absurd h0 (by simp)⟩⟩, by simp, by simp⟩
  · have hlm : len ≤ m := by rw [hmm]; split <;> omega
    have hex : ∀ i, i < len → ∃ y, (∃ cs', w.cells? base (a.add (i * P.cellsOf e)) (P.cellsOf e) = some cs' ∧ d.K w y cs') ∧ Q y := by
      intro i hi
      obtain ⟨cs', h1, h2⟩ := hx i (by omega)
      obtain ⟨y, hy, hq⟩ := he H enc w base spare held n cs' _ h2 (fun k hk => hb k (by
        simp only [DataW.weights, ht, List.mem_cons, List.mem_append]
        refine Or.inr (Or.inl (weightsAll_mem (d := D i) ?_ k hk))
        exact List.mem_map.2 ⟨i, List.mem_range.2 hi, rfl⟩))
      exact ⟨y, ⟨cs', h1, hy⟩, hq⟩
    obtain ⟨ys, hlen, hp⟩ := list_of len hex
    subst hlen
    have hcap : ys.length ≤ 9223372036854775807 := by unfold maxLen at hm; omega
    refine ⟨ys, ⟨some a, cap, rfl, hl, rfl, hcap, fun _ => ⟨a, rfl, fun j p hj => ?_⟩⟩, ?_, fun x hx' => ?_⟩
    · obtain ⟨⟨cs', h1, hK⟩, _⟩ := hp j p hj
      obtain ⟨_, hl2, hcell⟩ := World.cells?_some h1
      rw [hc] at hl2
      refine ⟨cs', hl2, hK, fun i u hu => ?_⟩
      have hi : i < P.cellsOf e := by rw [hc, ← hl2]; exact (List.getElem?_eq_some_iff.1 hu).1
      rw [← add_add, ← hc]
      exact (hcell i hi).trans hu
    · have := hb _ (by simp only [DataW.weights, ht]; exact List.mem_cons_self)
      simp only [List.length_map, List.length_range] at this
      rw [hB] at this
      have e1 : reachBytes = 140737488351232 := rfl
      rw [e1] at this
      refine Nat.le_trans (Nat.mul_le_mul_right _ ?_) this
      omega
    · obtain ⟨i, hi⟩ := List.getElem?_of_mem hx'
      exact (hp i x hi).2
def ReadsL {α : Type} (P : Program) (o : Nat) (fs : List Field) (d : Kd α) (Q : α → Prop) : Prop :=
  ∀ (H : Type) (enc : TypeId × Value → H) (w : World) (base : Nat) (spare : Nat → Bool) (held : Bool) (fuel : Nat) (cs : List Value) (xs : List (DataW H × List MemPlace)),
    xs.length = fs.length → (∀ (i : Nat) (f : Field), fs[i]? = some f → DataW.trod enc P w base spare held fuel f.type ((cs.drop f.offset).take (P.cellsOf f.type)) = xs[i]?) →
    (∀ n ∈ DataW.weightsEach P (fs.map (·.type)) (xs.map (·.1)), n ≤ reachBytes) → o + d.sz ≤ cs.length → ∃ y, d.K w y ((cs.drop o).take d.sz) ∧ Q y
theorem readsL_one {α : Type} {P : Program} {o : Nat} {f : Field} {d : Kd α} {Q : α → Prop} (h : Reads P f.type d Q) (ho : f.offset = o) (hc : P.cellsOf f.type = d.sz) : ReadsL P o [f] d Q := by
  intro H enc w base spare held fuel cs xs hl hx hb _
  match xs, hl with
  | [x], _ =>
    have h0 := hx 0 f rfl
    rw [ho, hc] at h0
    exact h H enc w base spare held fuel _ x h0 (fun n hn => hb n (by simpa [DataW.weightsEach] using hn))
theorem readsL_cons {α β : Type} {P : Program} {o : Nat} {f : Field} {fs : List Field} {a : Kd α} {b : Kd β} {Qa : α → Prop} {Qb : β → Prop} (h : Reads P f.type a Qa) (ho : f.offset = o) (hc : P.cellsOf f.type = a.sz) (ht : ReadsL P (o + a.sz) fs b Qb) :
    ReadsL P o (f :: fs) (Kd.pair a b) (fun y => Qa y.1 ∧ Qb y.2) := by
  intro H enc w base spare held fuel cs xs hl hx hb hlen
  match xs, hl with
  | x :: xs, hl =>
    have h0 := hx 0 f rfl
    rw [ho, hc] at h0
    obtain ⟨y, hy, hq⟩ := h H enc w base spare held fuel _ x h0 (fun n hn => hb n (by simp only [List.map_cons, DataW.weightsEach, List.mem_append]; exact Or.inl hn))
    have hsz : (Kd.pair a b).sz = a.sz + b.sz := rfl
    obtain ⟨z, hz, hr⟩ := ht H enc w base spare held fuel cs xs (by simpa using hl) (fun i g hg => hx (i + 1) g hg) (fun n hn => hb n (by simp only [List.map_cons, DataW.weightsEach, List.mem_append]; exact Or.inr hn)) (by rw [hsz] at hlen; omega)
    refine ⟨(y, z), ⟨_, _, ?_, hy, hz⟩, hq, hr⟩
    rw [hsz, List.take_add, List.drop_drop]
theorem reads_struct {α β : Type} {P : Program} {t : TypeId} {fs : Array Field} {d : Kd α} {Q : α → Prop} {f : β → α} (g : α → β) (hg : ∀ y, f (g y) = y) (ht : P.underlying t = some (.struct fs)) (hc : P.cellsOf t = d.sz) (h : ReadsL P 0 fs.toList d Q) :
    Reads P t (Kd.iso d f) (fun x => Q (f x)) := by
  intro H enc w base spare held fuel cs x hx hb
  obtain ⟨xs, n, rfl, rfl, hl, hlen, hall⟩ := DataW.trod_struct ht hx
  obtain ⟨y, hy, hq⟩ := h H enc w base spare held n cs xs (by simpa using hlen) (fun i f hf => hall i f (by simpa using hf)) (fun k hk => hb k (by simp only [DataW.weights, ht]; exact hk)) (by omega)
  rw [List.drop_zero, List.take_of_length_le (by omega)] at hy
  refine ⟨g y, ?_, ?_⟩
  · show d.K w (f (g y)) cs
    rw [hg]; exact hy
  · show Q (f (g y))
    rw [hg]; exact hq
theorem agg_arg {α : Type} {H : Type} {enc : TypeId × Value → H} {P : Program} {W : World} {base : Nat} {spare : Nat → Bool} {held : Bool} {t : TypeId} {d : Kd α} {Q : α → Prop} {v : Value} {D : DataW H} {ps : List MemPlace}
    (h : DataW.Trod enc P W base spare held t v D ps) {ts : List TypeId} {ds : List (DataW H)} {j : Nat}
    (hsz : (DataW.weightsEach P ts ds).all (· ≤ reachBytes) = true) (ht : ts[j]? = some t) (hd : ds[j]? = some D) (hR : Reads P t d Q) :
    ∃ x : α, d.K W x v.cells.toList ∧ Q x := by
  obtain ⟨fuel, hf⟩ := h
  exact hR H enc W base spare held fuel _ _ hf (fun n hn => by
    have := List.all_eq_true.1 hsz n (DataW.weights_mem_each ht hd n hn)
    simpa using this)
end Go.Proofs.YtmfabpkliogjlaaR
end
section
namespace Go.Proofs.YtmfabpkliogjlaaWinT
open Go.RowKit Go.Maps Go.Proofs.YtmfabpkliogjlaaWin Go.Proofs.YtmfabpkliogjlaaW.PrintWords Go.Proofs.YtmfabpkliogjlaaW.PrintMore Go.Proofs.Ytmfabpkliogjlaa.Pr
set_option linter.unusedSimpArgs false
set_option linter.unusedVariables false
def OrdAt (W : World) (g : Nat) (l : List Int) : Prop := ∃ cur, W.heap[g]? = some (.cells cur 3 (0, 0)) ∧ ∀ j, j < l.length → cur[j]? = some (.int .i64 (l[j]?.getD 0))
theorem OrdAt.cell {W : World} {g : Nat} {l : List Int} (h : OrdAt W g l) {j : Nat} (hj : j < l.length) : W.cell? ⟨g, j, none⟩ = some (.int .i64 (l[j]?.getD 0)) := by
  obtain ⟨cur, h1, h2⟩ := h
  simp only [World.cell?, h1]
  exact h2 j hj
theorem OrdAt.block {W W' : World} {g : Nat} {l : List Int} (h : OrdAt W g l) (hb : W'.heap[g]? = W.heap[g]?) : OrdAt W' g l := by
  obtain ⟨cur, h1, h2⟩ := h
  exact ⟨cur, hb.trans h1, h2⟩
theorem OrdAt.lt {W : World} {g : Nat} {l : List Int} (h : OrdAt W g l) : g < W.heap.size := by
  obtain ⟨cur, h1, _⟩ := h
  exact (Array.getElem?_eq_some_iff.1 h1).1
theorem ord_of_R {W : World} {base : Nat} {ok : Nat → Prop} {v : Value} {l : List Int} (h : Kd.R (Kd.int .i64) 3 W base ok v l) (hl : 0 < l.length) : ∃ g c, v = .slice (some ⟨g, 0, none⟩) l.length c ∧ base ≤ g ∧ OrdAt W g l := by
  obtain ⟨_, inner, hown, hreps⟩ := h
  have hi : inner = l.map (Value.int .i64) := by simpa [encs] using Kd.reps_encs hreps
  subst hi
  rcases hown.2 with ⟨hv, hx⟩ | ⟨g, cap, cur, hv, hbg, hh, hnc, hcm, hcs, htake⟩
  · omega
  · refine ⟨g, cap, hv, hbg, cur, hh, fun j hj => ?_⟩
    have e1 : (cur.toList.take (l.length * 1))[j]? = (l.map (Value.int .i64))[j]? := by rw [← htake]; rfl
    rw [List.getElem?_take, if_pos (by omega), Array.getElem?_toList] at e1
    rw [e1]
    simp [hj]
theorem take_at {l : List Int} {k : Nat} (hk : k < l.length) : l.take (k + 1) = l.take k ++ [l[k]?.getD 0] := by
  rw [List.take_add_one, List.getElem?_eq_getElem hk]
  rfl
theorem fresh_at {l : List Int} (hn : l.Nodup) {k : Nat} (hk : k < l.length) : l[k]?.getD 0 ∉ l.take k := by
  have h1 : (l.take (k + 1)).Nodup := hn.sublist (List.take_sublist _ _)
  rw [take_at hk, List.nodup_append] at h1
  exact fun h => h1.2.2 _ h _ (by simp) rfl
theorem come_calls {m : Nat} {l turns : List Int} {A : Option Addr} {c kf : Nat} {w : World} (hm : 0 < m) (hl : IsOrder m l) (hkf : redraftlaw13_come.f kf (m : Int) turns = some l) (hC : Kd.C (Kd.int .i64) w A turns.length turns) (hc : turns.length ≤ c) (W : World) (hb : Below w.heap.size w W) :
    Calls Try.prog 19 #[.int .i64 (m : Int), .slice A turns.length c] W fun e w' => ∃ g cg, e = .returned (.slice (some ⟨g, 0, none⟩) m cg) ∧ W.heap.size ≤ g ∧ OrdAt w' g l ∧ Below W.heap.size W w' := by
  refine (redraftlaw13_come.calls kf (m : Int) A c turns l W (Kd.C_below hC hb) hc hkf).mono ?_
  rintro e w4 ⟨v4, rfl, hR4, hb4⟩
  obtain ⟨g, cg, rfl, hg, hL4⟩ := ord_of_R hR4 (by rw [hl.1]; exact hm)
  exact ⟨g, cg, by rw [hl.1], hg, hL4, hb4⟩
theorem at_bd {m : Nat} {l : List Int} (h : IsOrder m l) {j : Nat} (hj : j < m) : 0 ≤ l[j]?.getD 0 ∧ l[j]?.getD 0 < (m : Int) := by
  have hj' : j < l.length := by rw [h.1]; exact hj
  rw [List.getElem?_eq_getElem hj']
  exact h.2.2.1 _ (List.getElem_mem hj')
end Go.Proofs.YtmfabpkliogjlaaWinT
end
section
namespace Go.Proofs.YtmfabpkliogjlaaWin
open Go.RowKit Go.Maps Go.Shelf Go.Proofs.YtmfabpkliogjlaaW.PrintWords Go.Proofs.YtmfabpkliogjlaaW.PrintMore Go.Proofs.Ytmfabpkliogjlaa.Pr
open Go.Proofs.YtmfabpkliogjlaaWinT (come_calls OrdAt at_bd take_at fresh_at)
set_option linter.unusedSimpArgs false
set_option linter.unusedVariables false
def inS (B : Int) (l : List Int) (k : Nat) (y : Int) : Prop := 0 ≤ y ∧ (y < B ∨ y - B ∈ l.take k)
instance (B : Int) (l : List Int) (k : Nat) (y : Int) : Decidable (inS B l k y) := by unfold inS; infer_instance
def mS (B : Int) (l : List Int) (k : Nat) (nx y : Int) : Option Int := if nx ≤ y ∧ inS B l k y then some (7 * y) else none
def AllTo (B : Int) (l : List Int) (k : Nat) (nx : Int) : Prop := 0 ≤ nx ∧ ∀ y, 0 ≤ y → y < nx → inS B l k y
theorem inS_lap {m : Nat} {B : Int} {l : List Int} (hB : 0 ≤ B) (h : IsOrder m l) (y : Int) : inS (B + (m : Int)) l 0 y ↔ inS B l m y := by
  have e : l.take m = l := List.take_of_length_le (by rw [h.1]; exact Nat.le_refl _)
  unfold inS
  rw [e]
  simp only [List.take_zero, List.not_mem_nil, or_false]
  constructor
  · rintro ⟨h0, h1⟩
    refine ⟨h0, ?_⟩
    by_cases c : y < B
    · exact .inl c
    · exact .inr (h.2.2.2 _ (by omega) (by omega))
  · rintro ⟨h0, h1 | h1⟩
    · exact ⟨h0, by omega⟩
    · have := h.2.2.1 _ h1
      exact ⟨h0, by omega⟩
theorem mS_lap {m : Nat} {B nx : Int} {l : List Int} (hB : 0 ≤ B) (h : IsOrder m l) : mS (B + (m : Int)) l 0 nx = mS B l m nx := by
  funext y
  unfold mS
  by_cases c : nx ≤ y ∧ inS B l m y
  · rw [if_pos c, if_pos ⟨c.1, (inS_lap hB h y).2 c.2⟩]
  · rw [if_neg c, if_neg (fun h' => c ⟨h'.1, (inS_lap hB h y).1 h'.2⟩)]
theorem AllTo.lap {m : Nat} {B nx : Int} {l : List Int} (hB : 0 ≤ B) (h : IsOrder m l) (ha : AllTo B l m nx) : AllTo (B + (m : Int)) l 0 nx :=
  ⟨ha.1, fun y h0 h1 => (inS_lap hB h y).2 (ha.2 y h0 h1)⟩
theorem inS_new {B : Int} {l : List Int} (hn : l.Nodup) {k : Nat} (hk : k < l.length) (h0 : 0 ≤ l[k]?.getD 0) : ¬ inS B l k (B + l[k]?.getD 0) := by
  rintro ⟨_, h1 | h1⟩
  · omega
  · rw [show B + l[k]?.getD 0 - B = l[k]?.getD 0 from by omega] at h1
    exact fresh_at hn hk h1
theorem inS_next {B : Int} {l : List Int} {k : Nat} (hB : 0 ≤ B) (hk : k < l.length) (h0 : 0 ≤ l[k]?.getD 0) (y : Int) : inS B l (k + 1) y ↔ inS B l k y ∨ y = B + l[k]?.getD 0 := by
  unfold inS
  rw [take_at hk, List.mem_append, List.mem_singleton]
  constructor
  · rintro ⟨h1, h2 | h2 | h2⟩
    · exact .inl ⟨h1, .inl h2⟩
    · exact .inl ⟨h1, .inr h2⟩
    · exact .inr (by omega)
  · rintro (⟨h1, h2 | h2⟩ | h2)
    · exact ⟨h1, .inl h2⟩
    · exact ⟨h1, .inr (.inl h2)⟩
    · exact ⟨by omega, .inr (.inr (by omega))⟩
theorem mS_put {B nx : Int} {l : List Int} {k : Nat} (hB : 0 ≤ B) (hk : k < l.length) (h0 : 0 ≤ l[k]?.getD 0) (hx : nx ≤ B + l[k]?.getD 0) :
    (fun y => if y = B + l[k]?.getD 0 then some (7 * (B + l[k]?.getD 0)) else mS B l k nx y) = mS B l (k + 1) nx := by
  funext y
  have hi := inS_next hB hk h0 y
  by_cases c : y = B + l[k]?.getD 0
  · rw [if_pos c]
    unfold mS
    rw [if_pos ⟨by omega, hi.2 (.inr c)⟩, c]
  · rw [if_neg c]
    unfold mS
    by_cases c2 : nx ≤ y ∧ inS B l k y
    · rw [if_pos c2, if_pos ⟨c2.1, hi.2 (.inl c2.2)⟩]
    · rw [if_neg c2, if_neg (fun h' => (hi.1 h'.2).elim (fun h => c2 ⟨h'.1, h⟩) c)]
theorem AllTo.next {B nx : Int} {l : List Int} {k : Nat} (hB : 0 ≤ B) (hk : k < l.length) (h0 : 0 ≤ l[k]?.getD 0) (h : AllTo B l k nx) : AllTo B l (k + 1) nx :=
  ⟨h.1, fun y h1 h2 => (inS_next hB hk h0 y).2 (.inl (h.2 y h1 h2))⟩
theorem AllTo.le {B nx y : Int} {l : List Int} {k : Nat} (h : AllTo B l k nx) (hy : 0 ≤ y) (hn : ¬ inS B l k y) : nx ≤ y := by
  by_cases c : y < nx
  · exact absurd (h.2 y hy c) hn
  · omega
theorem mS_some {B nx v : Int} {l : List Int} {k : Nat} (h : mS B l k nx nx = some v) : inS B l k nx ∧ v = 7 * nx := by
  unfold mS at h
  by_cases c : nx ≤ nx ∧ inS B l k nx
  · rw [if_pos c] at h; injection h with h; exact ⟨c.2, h.symm⟩
  · rw [if_neg c] at h; cases h
theorem mS_none {B nx : Int} {l : List Int} {k : Nat} (h : mS B l k nx nx = none) : ¬ inS B l k nx := by
  intro c
  unfold mS at h
  rw [if_pos ⟨Int.le_refl _, c⟩] at h
  cases h
theorem mS_pass {B nx : Int} {l : List Int} {k : Nat} : (fun y => if y = nx then none else mS B l k nx y) = mS B l k (nx + 1) := by
  funext y
  unfold mS
  by_cases c : y = nx
  · rw [if_pos c, if_neg (by omega)]
  · rw [if_neg c]
    by_cases c2 : nx ≤ y ∧ inS B l k y
    · rw [if_pos c2, if_pos ⟨by omega, c2.2⟩]
    · rw [if_neg c2, if_neg (fun h => c2 ⟨by omega, h.2⟩)]
theorem AllTo.pass {B nx : Int} {l : List Int} {k : Nat} (h : AllTo B l k nx) (hi : inS B l k nx) : AllTo B l k (nx + 1) :=
  ⟨by have := h.1; omega, fun y h0 h1 => by
    by_cases c : y = nx
    · rw [c]; exact hi
    · exact h.2 y h0 (by omega)⟩
theorem inS_lt {m : Nat} {B y : Int} {l : List Int} {k : Nat} (ho : IsOrder m l) (h : inS B l k y) : y < B + (m : Int) := by
  obtain ⟨h0, h1 | h1⟩ := h
  · omega
  · have := ho.2.2.1 _ (List.mem_of_mem_take h1)
    omega
theorem mS_not {B nx y : Int} {l : List Int} {k : Nat} (h : ¬ inS B l k y) : mS B l k nx y = none := by
  unfold mS
  rw [if_neg (fun h' => h h'.2)]
theorem all_out {B nx : Int} {l : List Int} (hB : 0 ≤ B) (h : AllTo B l 0 nx) (hn : ¬ inS B l 0 nx) : nx = B ∧ mS B l 0 nx = fun _ => none := by
  have h1 : nx = B := by
    by_cases c : nx < B
    · exact absurd ⟨h.1, .inl c⟩ hn
    · by_cases c2 : nx = B
      · exact c2
      · have := h.2 B hB (by omega)
        obtain ⟨_, h1 | h1⟩ := this
        · omega
        · simp at h1
  refine ⟨h1, ?_⟩
  funext y
  unfold mS
  rw [if_neg]
  rintro ⟨h2, _, h3 | h3⟩
  · omega
  · simp at h3
theorem Drop_some {p b n : Nat} {nx sz : Int} {m : Int → Option Int} (w : World) (h : WinAt w p b nx sz m n) (x : Int) (hf : Fits x) (hm : (m x).isSome = true) {m' : Int → Option Int} (he : (fun y => if y = x then none else m y) = m') : Calls Try.prog 30 #[.pointer (some ⟨p, 0, none⟩), .int .i64 x] w fun e w' =>
    e = .returned (.int .i64 0) ∧ WinAt w' p b nx sz m' n ∧ Only (fun k => k = b) w w' := by
  have := Drop_calls w h x hf
  rw [hm, he] at this
  exact this
theorem Drop_none {p b n : Nat} {nx sz : Int} {m : Int → Option Int} (w : World) (h : WinAt w p b nx sz m n) (x : Int) (hf : Fits x) (hm : m x = none) : Calls Try.prog 30 #[.pointer (some ⟨p, 0, none⟩), .int .i64 x] w fun e w' =>
    e = .returned (.int .i64 15) ∧ WinAt w' p b nx sz m n ∧ Only (fun k => k = b) w w' := by
  have := Drop_calls w h x hf
  rw [hm, show (fun y => if y = x then none else m y) = m from by
    funext y
    by_cases c : y = x
    · rw [if_pos c, c, hm]
    · rw [if_neg c]] at this
  exact this
theorem eqlFunc38 (W : World) (f : Nat) (bl : Array Value) : (binOp .eql 38 (.func (.func f) #[] bl) .nilFunc).run Try.prog W = .ok (.bool false) W := eqlFunc W f bl
attribute [local go_sem] eqlFunc38
attribute [local go_sem] Oper.semAt_some
def Ld (ds : List Nat) : List (Nat × Obj) := ds.map fun D => (D, Obj.deferred (some []))
theorem start3 {w w1 w3 : World} {p b : Nat} {m : Nat} {q : Array Value} (hb1 : Below w.heap.size w w1) (hP : w1.heap[w.heap.size]? = some (.cells q 31 (0, 0))) (hR : Boxed w1 (w.heap.size + 1) 4 (.bool false)) (hb3 : Below w1.heap.size w1 w3) (hp : w1.heap.size ≤ p) (hb : w1.heap.size ≤ b) (hW : WinAt w3 p b 0 m (fun _ => none) 0) :
    Run w w3 [(w.heap.size, .cells q 31 (0, 0)), (w.heap.size + 1, .cells #[.bool false] 4 (0, 0))] p b 0 m (fun _ => none) 0 := by
  have s1 := hb1.size
  have l1 := (Array.getElem?_eq_some_iff.1 hP).1
  have l2 := hR.lt
  refine ⟨hW, ?_, ?_, ?_, hb1.trans (hb3.mono (by omega)), by omega⟩
  · intro x hx
    simp only [List.mem_cons, List.not_mem_nil, or_false] at hx
    rcases hx with rfl | rfl
    · exact (hb3.block _ l1).trans hP
    · exact (hb3.block _ l2).trans hR
  · intro x hx
    simp only [List.mem_cons, List.not_mem_nil, or_false] at hx
    rcases hx with rfl | rfl <;> simp [notWin]
  · intro x hx
    simp only [List.mem_cons, List.not_mem_nil, or_false] at hx
    rcases hx with rfl | rfl
    · exact Nat.le_refl _
    · exact Nat.le_succ _
structure OutI (w W : World) (O : Nat) (L0 : List (Nat × Obj)) (p b m : Nat) (l : List Int) (lap : Nat) (ds : List Nat) (o : Int) : Prop where
  le : lap ≤ 4
  nd : ds.Nodup
  all : AllTo ((lap * m : Nat) : Int) l 0 o
  no : ¬ inS ((lap * m : Nat) : Int) l 0 o
  run : Run w W ((O, .cells #[.int .i64 o] 3 (0, 0)) :: (Ld ds ++ L0)) p b o m (mS ((lap * m : Nat) : Int) l 0 o) (2 * (lap * m))
structure InI (w W : World) (O : Nat) (L0 : List (Nat × Obj)) (p b m : Nat) (l : List Int) (M i : Nat) (ds : List Nat) (o : Int) : Prop where
  le : i ≤ m
  nd : ds.Nodup
  all : AllTo (M : Int) l i o
  no : ¬ inS (M : Int) l i o
  run : Run w W ((O, .cells #[.int .i64 o] 3 (0, 0)) :: (Ld ds ++ L0)) p b o m (mS (M : Int) l i o) (2 * (M + i))
theorem mem_out {O : Nat} {o : Obj} {ds : List Nat} {L : List (Nat × Obj)} {x : Nat × Obj} (h : x ∈ L) : x ∈ ((O, o) :: (Ld ds ++ L) : List (Nat × Obj)) := List.mem_cons_of_mem _ (List.mem_append_right _ h)
theorem mem_ds {O : Nat} {o : Obj} {ds : List Nat} {L : List (Nat × Obj)} {D : Nat} (h : D ∈ ds) : (D, Obj.deferred (some [])) ∈ ((O, o) :: (Ld ds ++ L) : List (Nat × Obj)) := List.mem_cons_of_mem _ (List.mem_append_left _ (List.mem_map.2 ⟨D, h, rfl⟩))
theorem InI.outI {w W : World} {O g : Nat} {c : Obj} {L0 : List (Nat × Obj)} {p b m lap : Nat} {l : List Int} {ds : List Nat} {o : Int} (ho : IsOrder m l) (hl : lap < 4) (h : InI w W O ((g, c) :: L0) p b m l (lap * m) m ds o) : OutI w W O L0 p b m l (lap + 1) ds o := by
  have e : (((lap + 1) * m : Nat) : Int) = ((lap * m : Nat) : Int) + (m : Int) := by rw [Nat.succ_mul]; omega
  refine ⟨by omega, h.nd, ?_, ?_, ?_⟩
  · rw [e]; exact h.all.lap (by omega) ho
  · rw [e]; exact fun h' => h.no ((inS_lap (by omega) ho _).1 h')
  · rw [e, mS_lap (by omega) ho, show 2 * ((lap + 1) * m) = 2 * (lap * m + m) from by rw [Nat.succ_mul lap m]]
    refine h.run.sub fun x hx => ?_
    rcases List.mem_cons.1 hx with rfl | hx
    · exact List.mem_cons_self
    · rcases List.mem_append.1 hx with hx | hx
      · exact List.mem_cons_of_mem _ (List.mem_append_left _ hx)
      · exact List.mem_cons_of_mem _ (List.mem_append_right _ (List.mem_cons_of_mem _ hx))
theorem OutI.inI {w W W' : World} {O g : Nat} {cur : Array Value} {L0 : List (Nat × Obj)} {p b m lap : Nat} {l : List Int} {ds : List Nat} {o : Int} (h : OutI w W O L0 p b m l lap ds o) (hb : Below W.heap.size W W') (hg : W'.heap[g]? = some (.cells cur 3 (0, 0))) (hgl : W.heap.size ≤ g) : InI w W' O ((g, .cells cur 3 (0, 0)) :: L0) p b m l (lap * m) 0 ds o := by
  refine ⟨Nat.zero_le _, h.nd, h.all, h.no, ?_⟩
  refine ((h.run.idle hb).put hg (by simp [notWin]) (Nat.le_trans h.run.bel.size hgl)).sub fun x hx => ?_
  rcases List.mem_cons.1 hx with rfl | hx
  · exact List.mem_cons_of_mem _ List.mem_cons_self
  · rcases List.mem_append.1 hx with hx | hx
    · exact List.mem_cons_of_mem _ (List.mem_cons_of_mem _ (List.mem_append_left _ hx))
    · rcases List.mem_cons.1 hx with rfl | hx
      · exact List.mem_cons_self
      · exact List.mem_cons_of_mem _ (List.mem_cons_of_mem _ (List.mem_append_right _ hx))
theorem lapm {lap m : Nat} (h : lap < 4) (hm : m ≤ 20) : lap * m ≤ 60 := by
  have := Nat.mul_le_mul (show lap ≤ 3 from by omega) hm
  omega
theorem run_more {w W : World} {O D : Nat} {v : Obj} {L0 : List (Nat × Obj)} {p b n m : Nat} {ds : List Nat} {o : Int} {mm : Int → Option Int} (h : Run w W ((O, v) :: (Ld ds ++ L0)) p b o m mm n) (hD : W.heap[D]? = some (.deferred (some []))) (hl : w.heap.size ≤ D) : Run w W ((O, v) :: (Ld (D :: ds) ++ L0)) p b o m mm n := by
  refine (h.put hD (by simp [notWin]) hl).sub fun x hx => ?_
  rcases List.mem_cons.1 hx with rfl | hx
  · exact List.mem_cons_of_mem _ List.mem_cons_self
  · rcases List.mem_cons.1 (show x ∈ (D, Obj.deferred (some [])) :: (Ld ds ++ L0) from hx) with rfl | hx
    · exact List.mem_cons_self
    · exact List.mem_cons_of_mem _ (List.mem_cons_of_mem _ hx)
theorem leaves_marks {F : Fence} {n : Nat} {P : Program} {fn : Func} {tmps : Array Value} {R : Ending → World → Prop} : ∀ (ds : List Nat) (W : World), (∀ D ∈ ds, W.heap[D]? = some (.deferred (some []))) → ds.Nodup →
    (∀ W', Only (fun k => k ∈ ds) W W' → LeavesIn F n P fn tmps R [] .returning W') → LeavesInM F n P fn tmps R (ds.map fun D => { target := .collected D, args := #[] }) .returning W
  | [], W, _, _, h => h W (Only.refl _ _)
  | D :: ds, W, hD, hn, h => by
    have hn' := List.nodup_cons.1 hn
    refine ⟨by simp, .inl ⟨_, _, rfl, run_takeDeferred (hD D List.mem_cons_self), leaves_marks ds _ (fun D' h' => ?_) hn'.2 (fun W' ho => h W' ?_)⟩⟩
    · exact (World.putObj_heap_other (fun e => hn'.1 (by rw [← e]; exact h'))).trans (hD D' (List.mem_cons_of_mem _ h'))
    · refine Only.trans (B := W.putObj D (.deferred none)) ⟨rfl, rfl, rfl, by simp, fun k _ hk => World.putObj_heap_other (fun e => hk (by rw [e]; exact List.mem_cons_self))⟩ (ho.mono fun _ hk => List.mem_cons_of_mem _ hk)
set_option maxRecDepth 100000 in
set_option maxHeartbeats 16000000 in
theorem Streams_go (q0 q1 q3 : Int) (A : Option Addr) (c : Nat) (turns : List Int) (w : World) (hC : Kd.C (Kd.int .i64) w A turns.length turns) (hc : turns.length ≤ c) : Calls Try.prog 9 #[.agg #[.int .i64 q0, .int .i64 q1, .slice A turns.length c, .int .i64 q3]] w fun e w' => e = .returned (.bool true) ∧ Below w.heap.size w w' := by
  have hpk := fun W => pick_calls q1 20 ⟨by omega, by omega⟩ W
  obtain ⟨hm0, hm1⟩ := pickv_bd q1 (n := 20) (by omega)
  generalize pickv q1 20 = k at hpk hm0 hm1
  obtain ⟨m, hmk⟩ : ∃ m : Nat, 1 + k = (m : Int) := ⟨(1 + k).toNat, by omega⟩
  have wm : wrap64 (1 + k) = (m : Int) := by rw [w64 (by omega) (by omega)]; omega
  have hmlo : 1 ≤ m := by omega
  have hmhi : m ≤ 20 := by omega
  clear hm0 hm1 hmk
  obtain ⟨l, hl, kf, hkf⟩ := come_ev (m := m) (by omega) turns
  have hmx : Try.prog.follows Departure.mixedOrders = true := by kernel_rfl
  have hcome := fun W hb => come_calls (by omega) hl hkf hC hc W hb
  clear hC hkf
  refine (callsIn_wide (n := 8)).1 ?_
  refine callsIn_of_wp_marks Try.func9 rfl trivial ?_ rfl
  simp only [Try.ntmps9, List.size_toArray, List.length_cons, List.length_nil, Nat.reduceAdd, Nat.reduceSub, Array.replicate_succ, Array.replicate_zero, List.push_toArray, List.append_toArray, List.nil_append, List.cons_append]
  refine wpIn_wide.2 ?_
  go_wp2_with (first | (go_at_call 11; refine (hpk _).mono ?_; clear hpk; rintro e w1 ⟨rfl, ho1⟩; have hb1 := (((Below.refl w.heap.size w).alloc (Nat.le_refl _) (.cells #[.int .i64 q0, .int .i64 q1, .slice A turns.length c, .int .i64 q3] 31)).alloc (by simp) (.cells #[.bool false] 4)).trans (ho1.below (by simp; omega) (fun _ h => h.elim)); have hP1 := (ho1.block w.heap.size (by simp; omega) (fun h => h)).trans ((Below.heap_alloc _ _ _ (by simp)).trans (World.alloc_heap_new w _)); have hR1 : Boxed w1 (w.heap.size + 1) 4 (.bool false) := boxed_only (by have := Boxed.new (w.alloc (.cells #[.int .i64 q0, .int .i64 q1, .slice A turns.length c, .int .i64 q3] 31)) 4 (.bool false); rwa [World.size_alloc] at this) ho1 (fun h => h); clear ho1) | (go_at_call 12; refine (New_good ⟨by omega, by omega, by omega, by omega⟩ _).mono ?_; rintro e w3 ⟨p, b, rfl, hp, hb, hW3, hb3⟩; have hX3 := start3 hb1 hP1 hR1 hb3 hp hb hW3; have hX4 := hX3.add (.cells #[.int .i64 0] 3) (by simp [notWin])))
  obtain ⟨O, hO⟩ : ∃ O, O = w3.heap.size := ⟨_, rfl⟩
  rw [← hO] at hX4 ⊢
  obtain ⟨L0, hL0⟩ : ∃ L0, L0 = [(w.heap.size, Obj.cells #[.int .i64 q0, .int .i64 q1, .slice A turns.length c, .int .i64 q3] 31 (0, 0)), (w.heap.size + 1, .cells #[.bool false] 4 (0, 0))] := ⟨_, rfl⟩
  have hmP : (w.heap.size, Obj.cells #[.int .i64 q0, .int .i64 q1, .slice A turns.length c, .int .i64 q3] 31 (0, 0)) ∈ L0 := by rw [hL0]; simp
  have hmR : (w.heap.size + 1, Obj.cells #[.bool false] 4 (0, 0)) ∈ L0 := by rw [hL0]; simp
  have hLO : ∀ x ∈ L0, x.1 ≠ O := fun x hx => by rw [hL0] at hx; have := hX3.lt hx; omega
  rw [← hL0] at hX4
  obtain ⟨W4, hW4⟩ : ∃ W4, w3.alloc (.cells #[.int .i64 0] 3) = W4 := ⟨_, rfl⟩
  have hO4 : O < W4.heap.size := by rw [← hW4, hO]; simp
  rw [hW4] at hX4 ⊢
  have hI0 : OutI w W4 O L0 p b m l 0 [] 0 := by
    refine ⟨by omega, List.nodup_nil, ⟨Int.le_refl _, fun y h0 h1 => by omega⟩, ?_, ?_⟩
    · rintro ⟨_, h | h⟩
      · omega
      · simp at h
    · have e : mS ((0 * m : Nat) : Int) l 0 0 = fun _ => none := by
        funext y
        unfold mS
        rw [if_neg]
        rintro ⟨h0, _, h | h⟩
        · omega
        · simp at h
      rw [e, Nat.zero_mul]
      exact hX4
  clear hX3 hX4 hW4 hL0 hO hb1 hP1 hR1 hb3 hp hb hW3 wm
  obtain ⟨hl1, hl2, hl3, hl4⟩ := id hl
  refine wp_loop (fun a W => ∃ (lap : Nat) (ds : List Nat) (o : Int) (u8 u9 u10 u11 u12 u13 u14 u15 u16 u17 u33 u34 u35 u36 u37 u38 u39 u40 u41 u42 u43 u44 u45 u46 u47 u48 u49 u50 u51 u52 u53 u54 u55 u56 u57 u58 u59 u60 u61 u62 u63 u64 u65 u66 u67 u68 u69 u70 u71 u72 u73 u74 u75 u76 u77 u78 u79 u80 u81 u82 u83 u84 u85 u86 u87 u88 u89 u90 u91 u92 u93 u94 u95 u96 u97 u98 u99 u100 u101 u102 u103 u104 u105 u106 u107 u108 u109 u110 u111 u112 u113 : Value), OutI w W O L0 p b m l lap ds o ∧ a = ({ tmps := #[.agg #[.int .i64 q0, .int .i64 q1, .slice A turns.length c, .int .i64 q3], .pointer (some ⟨w.heap.size, 0, none⟩), .pointer (some ⟨w.heap.size + 1, 0, none⟩), .int .i64 m, .pointer (some ⟨p, 0, none⟩), .int .i64 0, .pointer (some ⟨O, 0, none⟩), .int .i64 lap, u8, u9, u10, u11, u12, u13, u14, u15, u16, u17, .pointer (some ⟨w.heap.size, 1, none⟩), .int .i64 q1, .int .i64 k, .int .i64 m, .tuple #[.pointer (some ⟨p, 0, none⟩), .int .i64 0], .int .i64 m, .tuple #[.pointer (some ⟨p, 0, none⟩), .int .i64 0], .pointer (some ⟨p, 0, none⟩), .int .i64 0, .int .i64 0, .bool false, .bool false, .pointer (some ⟨p, 0, none⟩), .bool false, .bool false, u33, u34, u35, u36, u37, u38, u39, u40, u41, u42, u43, u44, u45, u46, u47, u48, u49, u50, u51, u52, u53, u54, u55, u56, u57, u58, u59, u60, u61, u62, u63, u64, u65, u66, u67, u68, u69, u70, u71, u72, u73, u74, u75, u76, u77, u78, u79, u80, u81, u82, u83, u84, u85, u86, u87, u88, u89, u90, u91, u92, u93, u94, u95, u96, u97, u98, u99, u100, u101, u102, u103, u104, u105, u106, u107, u108, u109, u110, u111, u112, u113], defers := ds.map fun D => { target := .collected D, args := #[] } } : Act)) (fun a _ => 4 - (intOf (a.tmps.getD 7 undef)).toNat) ?start ?round
  case start =>
    refine ⟨0, [], 0, ?_⟩
    (repeat apply Exists.intro)
    exact ⟨hI0, rfl⟩
  case round =>
    clear hI0
    intro a W hinv
    obtain ⟨lap, hinv⟩ := hinv
    obtain ⟨ds, hinv⟩ := hinv
    obtain ⟨o, hinv⟩ := hinv
    obtain ⟨u8, hinv⟩ := hinv
    obtain ⟨u9, hinv⟩ := hinv
    obtain ⟨u10, hinv⟩ := hinv
    obtain ⟨u11, hinv⟩ := hinv
    obtain ⟨u12, hinv⟩ := hinv
    obtain ⟨u13, hinv⟩ := hinv
    obtain ⟨u14, hinv⟩ := hinv
    obtain ⟨u15, hinv⟩ := hinv
    obtain ⟨u16, hinv⟩ := hinv
    obtain ⟨u17, hinv⟩ := hinv
    obtain ⟨u33, hinv⟩ := hinv
    obtain ⟨u34, hinv⟩ := hinv
    obtain ⟨u35, hinv⟩ := hinv
    obtain ⟨u36, hinv⟩ := hinv
    obtain ⟨u37, hinv⟩ := hinv
    obtain ⟨u38, hinv⟩ := hinv
    obtain ⟨u39, hinv⟩ := hinv
    obtain ⟨u40, hinv⟩ := hinv
    obtain ⟨u41, hinv⟩ := hinv
    obtain ⟨u42, hinv⟩ := hinv
    obtain ⟨u43, hinv⟩ := hinv
    obtain ⟨u44, hinv⟩ := hinv
    obtain ⟨u45, hinv⟩ := hinv
    obtain ⟨u46, hinv⟩ := hinv
    obtain ⟨u47, hinv⟩ := hinv
    obtain ⟨u48, hinv⟩ := hinv
    obtain ⟨u49, hinv⟩ := hinv
    obtain ⟨u50, hinv⟩ := hinv
    obtain ⟨u51, hinv⟩ := hinv
    obtain ⟨u52, hinv⟩ := hinv
    obtain ⟨u53, hinv⟩ := hinv
    obtain ⟨u54, hinv⟩ := hinv
    obtain ⟨u55, hinv⟩ := hinv
    obtain ⟨u56, hinv⟩ := hinv
    obtain ⟨u57, hinv⟩ := hinv
    obtain ⟨u58, hinv⟩ := hinv
    obtain ⟨u59, hinv⟩ := hinv
    obtain ⟨u60, hinv⟩ := hinv
    obtain ⟨u61, hinv⟩ := hinv
    obtain ⟨u62, hinv⟩ := hinv
    obtain ⟨u63, hinv⟩ := hinv
    obtain ⟨u64, hinv⟩ := hinv
    obtain ⟨u65, hinv⟩ := hinv
    obtain ⟨u66, hinv⟩ := hinv
    obtain ⟨u67, hinv⟩ := hinv
    obtain ⟨u68, hinv⟩ := hinv
    obtain ⟨u69, hinv⟩ := hinv
    obtain ⟨u70, hinv⟩ := hinv
    obtain ⟨u71, hinv⟩ := hinv
    obtain ⟨u72, hinv⟩ := hinv
    obtain ⟨u73, hinv⟩ := hinv
    obtain ⟨u74, hinv⟩ := hinv
    obtain ⟨u75, hinv⟩ := hinv
    obtain ⟨u76, hinv⟩ := hinv
    obtain ⟨u77, hinv⟩ := hinv
    obtain ⟨u78, hinv⟩ := hinv
    obtain ⟨u79, hinv⟩ := hinv
    obtain ⟨u80, hinv⟩ := hinv
    obtain ⟨u81, hinv⟩ := hinv
    obtain ⟨u82, hinv⟩ := hinv
    obtain ⟨u83, hinv⟩ := hinv
    obtain ⟨u84, hinv⟩ := hinv
    obtain ⟨u85, hinv⟩ := hinv
    obtain ⟨u86, hinv⟩ := hinv
    obtain ⟨u87, hinv⟩ := hinv
    obtain ⟨u88, hinv⟩ := hinv
    obtain ⟨u89, hinv⟩ := hinv
    obtain ⟨u90, hinv⟩ := hinv
    obtain ⟨u91, hinv⟩ := hinv
    obtain ⟨u92, hinv⟩ := hinv
    obtain ⟨u93, hinv⟩ := hinv
    obtain ⟨u94, hinv⟩ := hinv
    obtain ⟨u95, hinv⟩ := hinv
    obtain ⟨u96, hinv⟩ := hinv
    obtain ⟨u97, hinv⟩ := hinv
    obtain ⟨u98, hinv⟩ := hinv
    obtain ⟨u99, hinv⟩ := hinv
    obtain ⟨u100, hinv⟩ := hinv
    obtain ⟨u101, hinv⟩ := hinv
    obtain ⟨u102, hinv⟩ := hinv
    obtain ⟨u103, hinv⟩ := hinv
    obtain ⟨u104, hinv⟩ := hinv
    obtain ⟨u105, hinv⟩ := hinv
    obtain ⟨u106, hinv⟩ := hinv
    obtain ⟨u107, hinv⟩ := hinv
    obtain ⟨u108, hinv⟩ := hinv
    obtain ⟨u109, hinv⟩ := hinv
    obtain ⟨u110, hinv⟩ := hinv
    obtain ⟨u111, hinv⟩ := hinv
    obtain ⟨u112, hinv⟩ := hinv
    obtain ⟨u113, hinv⟩ := hinv
    obtain ⟨hI, rfl⟩ := hinv
    by_cases hlt : lap < 4
    · have hltb : decide ((lap : Int) < 4) = true := by simp; omega
      have cT : W.cell? ⟨w.heap.size, 2, none⟩ = some (.slice A turns.length c) := hI.run.cell (mem_out hmP) rfl
      dsimp only
      go_wp2_with (go_at_call 19; refine (hcome _ hI.run.bel).mono ?_; rintro e W5 ⟨g, cg, rfl, hg, ⟨cur, hG, hcur⟩, hb5⟩; have hJ0 := hI.inI hb5 hG hg)
      have hMb := lapm hlt hmhi
      have hOg : O ≠ g := by have := hI.run.lt List.mem_cons_self; omega
      have hLO2 : ∀ x ∈ ((g, Obj.cells cur 3 (0, 0)) :: L0), x.1 ≠ O := fun x hx => by
        rcases List.mem_cons.1 hx with rfl | hx
        · exact fun e => hOg e.symm
        · exact hLO x hx
      have vm : wrap64 ((lap : Int) * (m : Int)) = ((lap * m : Nat) : Int) := by rw [← Int.natCast_mul]; exact w64 (by omega) (by omega)
      have hup : ∀ (W : World) (o : Int) (ds : List Nat), InI w W O ((g, Obj.cells cur 3 (0, 0)) :: L0) p b m l (lap * m) m ds o → OutI w W O L0 p b m l (lap + 1) ds o := fun _ _ _ h => h.outI hl hlt
      obtain ⟨M, hM⟩ : ∃ M, lap * m = M := ⟨_, rfl⟩
      rw [hM] at hJ0 hMb vm hup
      clear hM hG hb5 hI cT hg
      refine wp_loop (fun a W => ∃ (i : Nat) (ds : List Nat) (o : Int) (u10 u11 u12 u13 u14 u15 u16 u17 u33 u34 u35 u36 u37 u38 u39 u40 u41 u42 u43 u44 u45 u46 u47 u48 u49 u50 u51 u52 u53 u54 u55 u56 u57 u58 u59 u60 u61 u62 u63 u64 u65 u66 u67 u68 u69 u70 u71 u72 u73 u74 u75 u76 u77 u78 u79 u80 u81 u82 u83 u84 u85 u86 u87 u88 u89 u90 u91 u92 u93 u94 u95 u96 u97 u98 u99 u100 u101 u102 u103 u104 u105 u106 u107 u108 u109 u110 u111 u112 u113 : Value), InI w W O ((g, .cells cur 3 (0, 0)) :: L0) p b m l M i ds o ∧ a = ({ tmps := #[.agg #[.int .i64 q0, .int .i64 q1, .slice A turns.length c, .int .i64 q3], .pointer (some ⟨w.heap.size, 0, none⟩), .pointer (some ⟨w.heap.size + 1, 0, none⟩), .int .i64 m, .pointer (some ⟨p, 0, none⟩), .int .i64 0, .pointer (some ⟨O, 0, none⟩), .int .i64 lap, .slice (some ⟨g, 0, none⟩) m cg, .int .i64 i, u10, u11, u12, u13, u14, u15, u16, u17, .pointer (some ⟨w.heap.size, 1, none⟩), .int .i64 q1, .int .i64 k, .int .i64 m, .tuple #[.pointer (some ⟨p, 0, none⟩), .int .i64 0], .int .i64 m, .tuple #[.pointer (some ⟨p, 0, none⟩), .int .i64 0], .pointer (some ⟨p, 0, none⟩), .int .i64 0, .int .i64 0, .bool false, .bool false, .pointer (some ⟨p, 0, none⟩), .bool false, .bool false, u33, u34, u35, u36, u37, u38, u39, u40, u41, u42, u43, u44, u45, u46, u47, u48, u49, u50, u51, u52, u53, u54, u55, u56, u57, u58, u59, u60, u61, u62, u63, u64, u65, u66, u67, u68, u69, u70, u71, u72, u73, u74, u75, u76, u77, u78, u79, u80, u81, u82, u83, u84, u85, u86, u87, u88, u89, u90, u91, u92, u93, u94, u95, u96, u97, u98, u99, u100, u101, u102, u103, u104, u105, u106, u107, u108, u109, u110, u111, u112, u113], defers := ds.map fun D => { target := .collected D, args := #[] } } : Act)) (fun a _ => m - (intOf (a.tmps.getD 9 undef)).toNat) ?start ?round
      case start =>
        refine ⟨0, ds, o, ?_⟩
        (repeat apply Exists.intro)
        exact ⟨hJ0, rfl⟩
      case round =>
        clear hJ0
        intro a W hinv
        obtain ⟨i, hinv⟩ := hinv
        obtain ⟨ds, hinv⟩ := hinv
        obtain ⟨o, hinv⟩ := hinv
        obtain ⟨u10, hinv⟩ := hinv
        obtain ⟨u11, hinv⟩ := hinv
        obtain ⟨u12, hinv⟩ := hinv
        obtain ⟨u13, hinv⟩ := hinv
        obtain ⟨u14, hinv⟩ := hinv
        obtain ⟨u15, hinv⟩ := hinv
        obtain ⟨u16, hinv⟩ := hinv
        obtain ⟨u17, hinv⟩ := hinv
        obtain ⟨u33, hinv⟩ := hinv
        obtain ⟨u34, hinv⟩ := hinv
        obtain ⟨u35, hinv⟩ := hinv
        obtain ⟨u36, hinv⟩ := hinv
        obtain ⟨u37, hinv⟩ := hinv
        obtain ⟨u38, hinv⟩ := hinv
        obtain ⟨u39, hinv⟩ := hinv
        obtain ⟨u40, hinv⟩ := hinv
        obtain ⟨u41, hinv⟩ := hinv
        obtain ⟨u42, hinv⟩ := hinv
        obtain ⟨u43, hinv⟩ := hinv
        obtain ⟨u44, hinv⟩ := hinv
        obtain ⟨u45, hinv⟩ := hinv
        obtain ⟨u46, hinv⟩ := hinv
        obtain ⟨u47, hinv⟩ := hinv
        obtain ⟨u48, hinv⟩ := hinv
        obtain ⟨u49, hinv⟩ := hinv
        obtain ⟨u50, hinv⟩ := hinv
        obtain ⟨u51, hinv⟩ := hinv
        obtain ⟨u52, hinv⟩ := hinv
        obtain ⟨u53, hinv⟩ := hinv
        obtain ⟨u54, hinv⟩ := hinv
        obtain ⟨u55, hinv⟩ := hinv
        obtain ⟨u56, hinv⟩ := hinv
        obtain ⟨u57, hinv⟩ := hinv
        obtain ⟨u58, hinv⟩ := hinv
        obtain ⟨u59, hinv⟩ := hinv
        obtain ⟨u60, hinv⟩ := hinv
        obtain ⟨u61, hinv⟩ := hinv
        obtain ⟨u62, hinv⟩ := hinv
        obtain ⟨u63, hinv⟩ := hinv
        obtain ⟨u64, hinv⟩ := hinv
        obtain ⟨u65, hinv⟩ := hinv
        obtain ⟨u66, hinv⟩ := hinv
        obtain ⟨u67, hinv⟩ := hinv
        obtain ⟨u68, hinv⟩ := hinv
        obtain ⟨u69, hinv⟩ := hinv
        obtain ⟨u70, hinv⟩ := hinv
        obtain ⟨u71, hinv⟩ := hinv
        obtain ⟨u72, hinv⟩ := hinv
        obtain ⟨u73, hinv⟩ := hinv
        obtain ⟨u74, hinv⟩ := hinv
        obtain ⟨u75, hinv⟩ := hinv
        obtain ⟨u76, hinv⟩ := hinv
        obtain ⟨u77, hinv⟩ := hinv
        obtain ⟨u78, hinv⟩ := hinv
        obtain ⟨u79, hinv⟩ := hinv
        obtain ⟨u80, hinv⟩ := hinv
        obtain ⟨u81, hinv⟩ := hinv
        obtain ⟨u82, hinv⟩ := hinv
        obtain ⟨u83, hinv⟩ := hinv
        obtain ⟨u84, hinv⟩ := hinv
        obtain ⟨u85, hinv⟩ := hinv
        obtain ⟨u86, hinv⟩ := hinv
        obtain ⟨u87, hinv⟩ := hinv
        obtain ⟨u88, hinv⟩ := hinv
        obtain ⟨u89, hinv⟩ := hinv
        obtain ⟨u90, hinv⟩ := hinv
        obtain ⟨u91, hinv⟩ := hinv
        obtain ⟨u92, hinv⟩ := hinv
        obtain ⟨u93, hinv⟩ := hinv
        obtain ⟨u94, hinv⟩ := hinv
        obtain ⟨u95, hinv⟩ := hinv
        obtain ⟨u96, hinv⟩ := hinv
        obtain ⟨u97, hinv⟩ := hinv
        obtain ⟨u98, hinv⟩ := hinv
        obtain ⟨u99, hinv⟩ := hinv
        obtain ⟨u100, hinv⟩ := hinv
        obtain ⟨u101, hinv⟩ := hinv
        obtain ⟨u102, hinv⟩ := hinv
        obtain ⟨u103, hinv⟩ := hinv
        obtain ⟨u104, hinv⟩ := hinv
        obtain ⟨u105, hinv⟩ := hinv
        obtain ⟨u106, hinv⟩ := hinv
        obtain ⟨u107, hinv⟩ := hinv
        obtain ⟨u108, hinv⟩ := hinv
        obtain ⟨u109, hinv⟩ := hinv
        obtain ⟨u110, hinv⟩ := hinv
        obtain ⟨u111, hinv⟩ := hinv
        obtain ⟨u112, hinv⟩ := hinv
        obtain ⟨u113, hinv⟩ := hinv
        obtain ⟨hI, rfl⟩ := hinv
        dsimp only
        by_cases hik : i < m
        · have hikb : decide ((i : Int) < (m : Int)) = true := by simp; omega
          have hx := at_bd hl hik
          have hne := inS_new (B := (M : Int)) hl2 (k := i) (by omega) hx.1
          have hle := hI.all.le (y := (M : Int) + l[i]?.getD 0) (by omega) hne
          have hlo : (M : Int) ≤ o := by
            by_cases c : o < (M : Int)
            · exact absurd ⟨hI.all.1, .inl c⟩ hI.no
            · omega
          have hput := mS_put (B := (M : Int)) (nx := o) (l := l) (k := i) (by omega) (by omega) hx.1 hle
          have hall := hI.all.next (by omega) (by omega) hx.1
          have hxc : W.cell? ⟨g, i, none⟩ = some (.int .i64 (l[i]?.getD 0)) := hI.run.cell (mem_out List.mem_cons_self) (hcur i (by omega))
          have hmn : mS (M : Int) l i o ((M : Int) + l[i]?.getD 0) = none := mS_not hne
          have hds := hI.nd
          have hX := hI.run
          clear hI
          generalize l[i]?.getD 0 = x at hx hne hle hput hxc hmn
          have v2 : wrap64 ((M : Int) + x) = (M : Int) + x := w64 (by omega) (by omega)
          have hE0 : 0 ≤ ((M : Int) + x) := by omega
          have hE1 : ((M : Int) + x) ≤ 100 := by omega
          have hE2 : ((M : Int) + x) - o < m := by omega
          have hfE : Fits ((M : Int) + x) := fits_of ⟨by omega, by omega⟩
          have v7 : wrap64 (7 * ((M : Int) + x)) = 7 * ((M : Int) + x) := w64 (by omega) (by omega)
          have ho0 := hall.1
          have hdr : (fun y => if y = ((M : Int) + x) then none else (if y = ((M : Int) + x) then some (-1 : Int) else mS (M : Int) l i o y)) = mS (M : Int) l i o := by
            funext y
            by_cases c : y = ((M : Int) + x)
            · rw [if_pos c, c, hmn]
            · rw [if_neg c, if_neg c]
          have HDR := Lib.hid hdr
          have HPUT := Lib.hid hput
          clear hdr hput hne
          have ht1 : True := trivial
          have ht2 : True := trivial
          go_wp2_with (first
            | (go_at_call 13; clear ht1; refine (Put_new _ hX.win ho0 (by simp [maxLen]; omega) _ _ hfE hle hE2 hmn).mono ?_; rintro e w6 ⟨rfl, hA6, ho6⟩; have hX6 := hX.mapped ho6 hA6; clear hX)
            | (go_at_call 30; clear ht2; refine (Drop_some _ hX6.win _ hfE (by simp) HDR.out).mono ?_; rintro e w7 ⟨rfl, hA7, ho7⟩; have hX7 := hX6.mapped ho7 hA7; clear hX6)
            | (go_at_call 30; refine (Drop_none _ hX7.win _ hfE hmn).mono ?_; rintro e w8 ⟨rfl, hA8, ho8⟩; have hX8 := hX7.mapped ho8 hA8; clear hX7)
            | (go_at_call 13; refine (Put_new _ hX8.win ho0 (by simp [maxLen]; omega) _ _ hfE hle hE2 hmn).mono ?_; rintro e w9 ⟨rfl, hA9, ho9⟩; rw [HPUT.out] at hA9; have hX9 := hX8.mapped ho9 hA9; clear hX8)
            | (go_at_call 14; refine (Ready_calls _ _).mono ?_; rintro e w14 ⟨rfl, rfl⟩; have hX10 := hX9.add (.cells #[.pointer (some ⟨p, 0, none⟩)] 22) (by simp [notWin])))
          have hmC := hX10.hL _ List.mem_cons_self
          obtain ⟨W5, hW5⟩ : ∃ W5, w9.alloc (.cells #[.pointer (some ⟨p, 0, none⟩)] 22) = W5 := ⟨_, rfl⟩
          have hs5 : W5.heap.size = w9.heap.size + 1 := by rw [← hW5]; simp
          rw [hW5] at hX10 hmC ⊢
          obtain ⟨C, hC⟩ : ∃ C, C = w9.heap.size := ⟨_, rfl⟩
          rw [← hC] at hX10 hs5 hmC ⊢
          have hOC : O < C := by have := hX9.lt List.mem_cons_self; omega
          have hdC : ∀ D ∈ ds, D < C := fun D hD => by have := hX9.lt (mem_ds (o := .cells #[.int .i64 o] 3 (0, 0)) (O := O) (L := (g, .cells cur 3 (0, 0)) :: L0) hD); omega
          have hLC : ∀ x ∈ (Ld ds ++ (g, Obj.cells cur 3 (0, 0)) :: L0), x.1 ≠ O := fun x hx => by
            rcases List.mem_append.1 hx with hx | hx
            · obtain ⟨D, hD, rfl⟩ := List.mem_map.1 hx
              intro e
              have h1 := hX9.hL _ (mem_ds (o := .cells #[.int .i64 o] 3 (0, 0)) (O := O) (L := (g, .cells cur 3 (0, 0)) :: L0) hD)
              have h2 := hX9.hL _ List.mem_cons_self
              rw [show D = O from e, h2] at h1
              cases h1
            · exact hLO2 x hx
          clear hX9 hC hW5 hmC
          obtain ⟨L, hL⟩ : ∃ L, L = (C, Obj.cells #[.pointer (some ⟨p, 0, none⟩)] 22 (0, 0)) :: (Ld ds ++ (g, Obj.cells cur 3 (0, 0)) :: L0) := ⟨_, rfl⟩
          have hLO3 : ∀ x ∈ L, x.1 ≠ O := fun x hx => by
            rw [hL] at hx
            rcases List.mem_cons.1 hx with rfl | hx
            · show C ≠ O; omega
            · exact hLC x hx
          have hX5 : Run w W5 ((O, .cells #[.int .i64 o] 3 (0, 0)) :: L) p b o m (mS (M : Int) l (i + 1) o) (2 * (M + i) + 1 + 1) := hX10.sub (fun x hx => by rw [hL] at hx; simp only [List.mem_cons] at hx ⊢; rcases hx with h | h | h <;> simp [h])
          have hmC : (C, Obj.cells #[.pointer (some ⟨p, 0, none⟩)] 22 (0, 0)) ∈ L := by rw [hL]; exact List.mem_cons_self
          have hmL : ∀ x ∈ (Ld ds ++ (g, Obj.cells cur 3 (0, 0)) :: L0), x ∈ L := fun x hx => by rw [hL]; exact List.mem_cons_of_mem _ hx
          have hLl : ∀ x ∈ L, x.1 < W5.heap.size := fun x hx => hX5.lt (List.mem_cons_of_mem _ hx)
          have hOl : O < W5.heap.size := by omega
          have hpl := hX5.win.lt
          have hbl := hX5.win.2.lt
          have hwl := hX5.bel.size
          have hbd : ∀ N, AllTo (M : Int) l (i + 1) N → N ≤ 100 := fun N h => by
            by_cases c : (M : Int) + m < N
            · have := inS_lt hl (h.2 ((M : Int) + m) (by omega) c); omega
            · omega
          clear hX10 HDR HPUT hmn hle hE2 hfE v7 v2 hx hxc
          refine wpIn_wide (n := 8).1 ?_
          refine' wpIn_rangeReady (n := 8) (p := p) (b := b) (sz := m) (B := 100) (w := W5) (by omega) (lb := #[.pointer (some ⟨C, 0, none⟩)]) rfl (ready1_stops _ p b _ _ _ (by omega)) rfl hpl hbl
            (fun s W => Run w W ((O, .cells #[.int .i64 s.nx] 3 (0, 0)) :: L) p b s.nx m s.m s.n ∧ W5.heap.size ≤ W.heap.size ∧ AllTo (M : Int) l (i + 1) s.nx ∧ s.m = mS (M : Int) l (i + 1) s.nx ∧ s.n = 2 * (M + i) + 1 + 1)
            (fun s x W => Run w W ((O, .cells #[.int .i64 s.nx] 3 (0, 0)) :: L) p b (s.nx + 1) m (fun y => if y = s.nx then none else s.m y) s.n ∧ W5.heap.size ≤ W.heap.size ∧ AllTo (M : Int) l (i + 1) s.nx ∧ s.m = mS (M : Int) l (i + 1) s.nx ∧ s.n = 2 * (M + i) + 1 + 1 ∧ s.m s.nx = some x)
            (fun _ _ => False)
            (own_of_loc (fun s W W' ⟨h, hz, f⟩ hb => ⟨h.belowL hb hLl ⟨hOl, hpl, hbl, hwl⟩, Nat.le_trans hz hb.size, f⟩) (fun s W ⟨_, hz, _⟩ => hz))
            (fun x => own_of_loc (fun s W W' ⟨h, hz, f⟩ hb => ⟨h.belowL hb hLl ⟨hOl, hpl, hbl, hwl⟩, Nat.le_trans hz hb.size, f⟩) (fun s W ⟨_, hz, _⟩ => hz))
            (fun _ _ _ _ h _ _ => h)
            (fun s W ⟨h, hz, f3, f4, f5⟩ => ⟨h.win, fits_of (by have := hbd _ f3; have := f3.1; omega), by omega, (fun hs => by
              rw [f4] at hs
              obtain ⟨v, hv⟩ := Option.isSome_iff_exists.1 hs
              have := inS_lt hl (mS_some hv).1
              omega), (fun v hv => by cases hv; exact (h.box (List.mem_cons_of_mem _ hmC)).cell)⟩)
            (fun s W x W' ⟨h, hz, f⟩ hm ho hw => ⟨h.only ho hw, Nat.le_trans hz ho.size, f.1, f.2.1, f.2.2, hm⟩)
            (s0 := ⟨o, mS (M : Int) l (i + 1) o, 2 * (M + i) + 1 + 1⟩)
            ⟨hX5, Nat.le_refl _, hall, rfl, rfl⟩
            _ ?assign ?body ?done ?stop
          case assign =>
            intro lp x y W K hK
            simp only [List.zip_toArray, List.zip_cons_cons, List.zip_nil_right, List.zip_nil_left, List.foldl_toArray, List.foldl_toArray', List.size_toArray, List.length_cons, List.length_nil, List.foldl_cons, List.foldl_nil, List.setIfInBounds_toArray, List.set_cons_succ, List.set_cons_zero]
            gi_wp2
            exact hK
          case stop =>
            rintro D c W _ h
            exact h.elim
          case body =>
            rintro lp ⟨N1, sm, sn⟩ x W hlp ⟨r, hr⟩ ⟨hX, hz, hal, f4, f5, f6⟩
            dsimp only at hX hal f4 f5 f6 ⊢
            subst f4 f5
            obtain ⟨hin, rfl⟩ := mS_some f6
            rw [mS_pass] at hX
            clear f6
            have hN0 := hal.1
            have hN1 := inS_lt hl hin
            have cO := (hX.box List.mem_cons_self).cell
            have eO := (hX.box List.mem_cons_self).frozen
            have v1 : wrap64 (7 * N1) = 7 * N1 := w64 (by omega) (by omega)
            have v2 : wrap64 (N1 + 1) = N1 + 1 := w64 (by omega) (by omega)
            have hX7 := hX.set hLO3 (.int .i64 (N1 + 1))
            gi_wp2
            exact ⟨(KeepsOthers.setCell _ _ _).from _, ⟨N1 + 1, mS (M : Int) l (i + 1) (N1 + 1), 2 * (M + i) + 1 + 1⟩, by show N1 < N1 + 1; omega, hX7, by simp [World.setCell]; omega, hal.pass hin, rfl, rfl⟩
          case done =>
            rintro D ⟨N1, sm, sn⟩ W hD ⟨hX, hz, hal, f4, f5⟩ hm hK
            dsimp only at hX hal f4 f5 hm ⊢
            subst f4 f5
            have hno := mS_none hm
            have hX2 : Run w W ((O, .cells #[.int .i64 N1] 3 (0, 0)) :: (Ld (D :: ds) ++ (g, .cells cur 3 (0, 0)) :: L0)) p b N1 m (mS (M : Int) l (i + 1) N1) (2 * (M + i) + 1 + 1) :=
              run_more (hX.sub (fun x hx => by
                rcases List.mem_cons.1 hx with rfl | hx
                · exact List.mem_cons_self
                · exact List.mem_cons_of_mem _ (hmL x hx))) hK (by omega)
            have hdn : (D :: ds).Nodup := List.nodup_cons.2 ⟨fun h => by have := hdC D h; omega, hds⟩
            clear hm hX hX5 hmL hLl hmC hL hK
            have cO := (hX2.box List.mem_cons_self).cell
            have hN0 := hal.1
            have hN1 := hbd _ hal
            go_wp2_with fail
            go_cut [103] from 100 to 103 (fun v wx => v = .bool false ∧ Run w wx ((O, .cells #[.int .i64 N1] 3 (0, 0)) :: (Ld (D :: ds) ++ (g, .cells cur 3 (0, 0)) :: L0)) p b N1 m (mS (M : Int) l (i + 1) N1) (2 * (M + i) + 1 + 1))
            case first =>
              have hXd := hX2.drew
              refine wp_region_noPanic ?_
              go_region_with (first | (go_at_call 15; refine (Next_exact _ hXd.win).mono ?_; rintro e w10 ⟨rfl, rfl⟩))
              all_goals (refine NoPanic.normal ?_; go_wp2_with fail; go_meet; exact ⟨rfl, hXd⟩)
            case rest =>
              clear hX2 cO
              obtain ⟨rfl, hX⟩ := hcut
              go_wp2
              refine ⟨⟨i + 1, D :: ds, N1, ?_⟩, ?_⟩
              · (repeat apply Exists.intro)
                exact ⟨⟨hik, hdn, hal, hno, by rw [show 2 * (M + (i + 1)) = 2 * (M + i) + 1 + 1 from by omega]; exact hX⟩, rfl⟩
              · simp [intOf]; omega
        · obtain rfl : m = i := by have := hI.le; omega
          have hikb : decide ((m : Int) < (m : Int)) = false := by simp
          have hI2 := hup _ _ _ hI
          clear hI hup
          go_wp2
          refine ⟨⟨lap + 1, ds, o, ?_⟩, ?_⟩
          · (repeat apply Exists.intro)
            exact ⟨hI2, rfl⟩
          · simp [intOf]; omega
    · have hltb : decide ((lap : Int) < 4) = false := by simp; omega
      have hl4 : lap = 4 := by have := hI.le; omega
      obtain ⟨ho, hmS⟩ := all_out (by omega) hI.all hI.no
      have ho' : o = 4 * (m : Int) := by rw [ho, hl4]; omega
      have hn4 : 2 * (lap * m) ≤ 2000000 := by rw [hl4]; omega
      have hX := hI.run
      rw [hmS] at hX
      have hds := hI.nd
      clear hI hmS ho hcome hl4
      subst ho'
      have cO := (hX.box List.mem_cons_self).cell
      have v4 : wrap64 (4 * (m : Int)) = 4 * (m : Int) := w64 (by omega) (by omega)
      go_wp2_with (first | (go_at_call 16; refine (Held_calls _ hX.win hn4).mono ?_; rintro e w11 ⟨v11, s11, rfl, hk11, hr11, hb11⟩; have hX11 := hX.idle hb11; clear hX; obtain ⟨A11, c11, rfl, _⟩ := row_slice hr11; obtain rfl := keys_none hk11; clear hr11 hk11; have cR := (hX11.box (mem_out hmR)).cell; have fR := (hX11.box (mem_out hmR)).frozen))
      refine leaves_marks ds _ (fun D' hD' => ?_) hds (fun W' hoW => ?_)
      · exact (KeepsOthers.setCell w11 ⟨w.heap.size + 1, 0, none⟩ (.bool true)).same D' _ (hX11.hL _ (mem_ds hD')) rfl
      · have hRb := (hX11.box (mem_out hmR)).set (.bool true)
        have hRb' := boxed_only hRb hoW (fun h => by
          have h1 := hX11.hL _ (mem_ds h)
          rw [hX11.hL _ (mem_out hmR)] at h1
          cases h1)
        have cR' := hRb'.cell
        have hbel : Below w.heap.size w W' := (hX11.bel.setCell (p := ⟨w.heap.size + 1, 0, none⟩) (by simp) _).trans (hoW.below (by simp [World.setCell]; exact hX11.bel.size) (fun D' hi => hX11.hi _ (mem_ds hi)))
        refine ⟨.bool true, ?_, rfl, hbel⟩
        simp [results, Try.f9, go_sem, cR']
theorem Streams.calls (k : Nat) (q0 q1 : Int) (A : Option Addr) (n c : Nat) (q3 : Int) (r : Bool) (w : World) {turns : List Int} (hC : Kd.C (Kd.int .i64) w A n turns) (hc : n ≤ c) (hn : n = turns.length) (h : k = k) : Calls Try.prog 9 #[.agg #[.int .i64 q0, .int .i64 q1, .slice A n c, .int .i64 q3]] w fun e w' => e = .returned (.bool true) ∧ Below w.heap.size w w' := by
  subst hn
  exact Streams_go q0 q1 q3 A c turns w hC hc
end Go.Proofs.YtmfabpkliogjlaaWin
end
section
namespace Go.Proofs.YtmfabpkliogjlaaWin
open Go.RowKit Go.Proofs.YtmfabpkliogjlaaR Go.Proofs.YtmfabpkliogjlaaW.PrintWords
abbrev SOrd : Type := Int × Int × List Int × Int
abbrev kOrd : Kd SOrd := Kd.pair (Kd.int .i64) (Kd.pair (Kd.int .i64) (Kd.pair (Kd.slice 3 (Kd.int .i64)) (Kd.int .i64)))
theorem reads3 : Reads Try.prog 3 (Kd.int .i64) (fun n => (Lit.int .i64 n).wf = true) := reads_int (by kernel_rfl)
theorem reads29 : Reads Try.prog 29 (Kd.slice 3 (Kd.int .i64)) (fun l => l.length * 8 ≤ 140737488351232 ∧ ∀ x ∈ l, (Lit.int .i64 x).wf = true) := reads_slice (by kernel_rfl) (by kernel_rfl) (by kernel_rfl) reads3
abbrev WfOrd (x : SOrd) : Prop := (Lit.int .i64 x.1).wf = true ∧ (Lit.int .i64 x.2.1).wf = true ∧ (x.2.2.1.length * 8 ≤ 140737488351232 ∧ ∀ y ∈ x.2.2.1, (Lit.int .i64 y).wf = true) ∧ (Lit.int .i64 x.2.2.2).wf = true
theorem reads31 : Reads Try.prog 31 (Kd.iso kOrd (fun x : SOrd => x)) WfOrd := by
  have h3 : ReadsL Try.prog 3 [{ name := "Stop", type := 3, offset := 3, embedded := false, tag := "", pkgPath := "", byteOffset := 40 }] (Kd.int .i64) _ := readsL_one reads3 rfl (by kernel_rfl)
  have h2 : ReadsL Try.prog 2 [{ name := "Turns", type := 29, offset := 2, embedded := false, tag := "", pkgPath := "", byteOffset := 16 }, _] (Kd.pair (Kd.slice 3 (Kd.int .i64)) (Kd.int .i64)) _ := readsL_cons reads29 rfl (by kernel_rfl) h3
  have h1 : ReadsL Try.prog 1 [{ name := "Size", type := 3, offset := 1, embedded := false, tag := "", pkgPath := "", byteOffset := 8 }, _, _] (Kd.pair (Kd.int .i64) (Kd.pair (Kd.slice 3 (Kd.int .i64)) (Kd.int .i64))) _ := readsL_cons reads3 rfl (by kernel_rfl) h2
  have h0 : ReadsL Try.prog 0 [{ name := "Next", type := 3, offset := 0, embedded := false, tag := "", pkgPath := "", byteOffset := 0 }, _, _, _] kOrd _ := readsL_cons reads3 rfl (by kernel_rfl) h1
  exact reads_struct (fun y => y) (fun _ => rfl) Try.underlying31 (by kernel_rfl) h0
theorem agg_of_cells4 {v a b c d : Value} (h : v.cells.toList = [a, b, c, d]) : v = .agg #[a, b, c, d] := by
  cases v <;> simp [Value.cells] at h
  rename_i arr
  cases arr
  simp_all
theorem open31 {w : World} {x : SOrd} {v : Value} (h : (Kd.iso kOrd (fun x : SOrd => x)).K w x v.cells.toList) : ∃ A c, v = .agg #[.int .i64 x.1, .int .i64 x.2.1, .slice A x.2.2.1.length c, .int .i64 x.2.2.2] ∧
    Kd.C (Kd.int .i64) w A x.2.2.1.length x.2.2.1 ∧ x.2.2.1.length ≤ c := by
  obtain ⟨_, _, hv, rfl, _, _, rfl, rfl, _, _, rfl, ⟨A, c, rfl, h1, h2⟩, rfl⟩ := h
  exact ⟨A, c, agg_of_cells4 hv, h2, h1⟩
end Go.Proofs.YtmfabpkliogjlaaWin
end
section
namespace Go.Proofs.YtmfabpkliogjlaaWin
open Go.RowKit Go.Proofs.YtmfabpkliogjlaaR Go.Proofs.YtmfabpkliogjlaaW.PrintWords
theorem Streams_pure (x : SOrd) (_ : WfOrd x) : ∃ k : Nat, k = k := ⟨0, rfl⟩
end Go.Proofs.YtmfabpkliogjlaaWin
end
