/- MarksSorted: a book of up to 60 marks tells every mark that was put, each once, in the order of the first place, the place behind the last and the name, and Over tells just the names of those that have a cell between two places, in the same order: for every input the statement answers true and reads as it did. -/
import Derived.Maps.OwnSet
import Derived.Below
import Derived.WalkKit
import Derived.KernelRfl
import Derived.Test.YtgiiiolnagddnaaProg
import Derived.Laws.IdiomStrings
import Derived.Tactics
import Derived.IntWalk
import Derived.RangeFuncBox
import Derived.Lib.Hide
import Derived.BigQuiet
import Derived.Maps.RangeWalk
import Derived.Sort.Walk0
import Derived.Sort.Statements
import Derived.Deep.AppendLies
import Derived.OwnWalk
import Derived.Deep.LoopGhost
import Derived.StillTailTactics
import Derived.Sort.Grow
import Derived.Laws.Cover1
import Derived.Shelf.SlLaysF0
import Derived.Shelf.SlGeneric
import Derived.Ground.SlsfProg
import Derived.Shelf.SlSortCmp.NoneTotal
import Derived.Deep.CutBlock
import Derived.Deep.DeepCutAuto
import Derived.Deep.Onto
import Derived.SizedLaws
import Derived.Deep.Slices
import Derived.ChangeArms
import Derived.DataReads
import Derived.Test.YtgiiiolnagddnaaClaimSortedW0
section
namespace Go.Proofs.YtgiiiolnagddnaaMar
open Go.RowKit Go.Maps
structure ElemK (α : Type) where
  R : Value → Option (DataW Unit × List MemPlace)
  val : α → Value
  dat : α → DataW Unit
  put : ∀ a, R (val a) = some (dat a, [])
  inv : ∀ {v a ps}, R v = some (dat a, ps) → v = val a
structure Only (K : Nat → Prop) (W W' : World) : Prop where
  os : W'.os = W.os
  tape : W'.tape = W.tape
  output : W'.output = W.output
  size : W.heap.size ≤ W'.heap.size
  block : ∀ k, k < W.heap.size → ¬ K k → W'.heap[k]? = W.heap[k]?
theorem Only.refl (K : Nat → Prop) (W : World) : Only K W W := ⟨rfl, rfl, rfl, Nat.le_refl _, fun _ _ _ => rfl⟩
theorem Only.trans {K : Nat → Prop} {A B C : World} (h : Only K A B) (k : Only K B C) : Only K A C :=
  ⟨k.os.trans h.os, k.tape.trans h.tape, k.output.trans h.output, Nat.le_trans h.size k.size, fun i hi hn => (k.block i (Nat.lt_of_lt_of_le hi h.size) hn).trans (h.block i hi hn)⟩
theorem Only.mono {K K' : Nat → Prop} {A B : World} (h : Only K A B) (hk : ∀ i, K i → K' i) : Only K' A B := ⟨h.os, h.tape, h.output, h.size, fun i hi hn => h.block i hi (fun hki => hn (hk i hki))⟩
theorem Only.below {K : Nat → Prop} {A B : World} (h : Only K A B) {n : Nat} (hn : n ≤ A.heap.size) (hk : ∀ i, K i → n ≤ i) : Below n A B :=
  ⟨h.os, h.tape, h.output, h.size, fun i hi => h.block i (Nat.lt_of_lt_of_le hi hn) (fun hki => by have := hk i hki; omega)⟩
theorem Only.of_below {K : Nat → Prop} {A B : World} (h : Below A.heap.size A B) : Only K A B := ⟨h.os, h.tape, h.output, h.size, fun i hi _ => h.block i hi⟩
theorem Only.alloc (K : Nat → Prop) (W : World) (o : Obj) : Only K W (W.alloc o) := Only.of_below ((Below.refl _ W).alloc (Nat.le_refl _) o)
theorem Only.turned {K : Nat → Prop} {A B : World} {b : Nat} (h : A.mapTurned B b) (hk : K b) : Only K A B := by
  obtain ⟨es, clock, es', clock', hb, rfl⟩ := h
  exact ⟨rfl, rfl, rfl, by simp [ChangeMaps.setBlock], fun i _ hn => ChangeMaps.heap_setBlock_other hb _ (fun e => hn (e ▸ hk))⟩
section
variable {α : Type} {P : Program} {tS : TypeId}
def SMap (P : Program) (tS : TypeId) (E : ElemK α) (W : World) (b : Nat) (m : List UInt8 → Option α) (N : Nat) : Prop :=
  ∃ D : DataW Unit, W.ownsMap P tS E.R b N D ∧ Maps.size D = N ∧ ∀ x : List UInt8, x.length ≤ maxLen → match m x with
    | some a => ∀ z, D.atKey (.string x) z = E.dat a
    | none => ∀ z, D.atKey (.string x) z = z
variable {E : ElemK α} {W W' : World} {b N : Nat} {m : List UInt8 → Option α}
theorem owns_size {R : Value → Option (DataW Unit × List MemPlace)} {n : Nat} {D : DataW Unit} (h : W.ownsMap P tS R b n D) : W.ownsMap P tS R b (Maps.size D) D := by
  obtain ⟨es, clock, hb, F, hs, rfl⟩ := h
  exact ⟨es, clock, hb, F, by simp [Maps.size, length_sorted], rfl⟩
theorem SMap.lt (h : SMap P tS E W b m N) : b < W.heap.size := by
  obtain ⟨D, h1, _⟩ := h
  exact h1.lt
theorem SMap.block (h : SMap P tS E W b m N) (hb : W'.heap[b]? = W.heap[b]?) : SMap P tS E W' b m N := by
  obtain ⟨D, ⟨es, clock, h0, h1⟩, h2⟩ := h
  exact ⟨D, ⟨es, clock, hb.trans h0, h1⟩, h2⟩
theorem SMap.isMap (h : SMap P tS E W b m N) : ∃ es clock, W.heap[b]? = some (.map es clock) := by
  obtain ⟨D, ⟨es, clock, h0, _⟩, _⟩ := h
  exact ⟨es, clock, h0⟩
theorem SMap.made (W : World) : SMap P tS E (W.alloc (.map #[] 0)) W.heap.size (fun _ => none) 0 :=
  ⟨_, World.ownsMap_made W P tS E.R, rfl, fun _ _ => fun _ => rfl⟩
theorem strKey (x : List UInt8) : WideAt.IsKeyLit (.string x) := trivial
theorem strNe {x y : List UInt8} (h : x ≠ y) : (Lit.string x) ≠ Lit.string y := fun e => h (by cases e; rfl)
theorem keyOf_str (hS : P.underlying tS = some .string) {s : ByteArray} (hs : s.size ≤ maxLen) : keyOf P tS (.string s) = some (.string s.data.toList) := by
  simp [keyOf, hS, mapKey, hs]
theorem has_of (h : SMap P tS E W b m N) : ∃ D : DataW Unit, W.ownsMap P tS E.R b N D ∧ Maps.size D = N ∧ (∀ x : List UInt8, x.length ≤ maxLen → Maps.has D (.string x) = (m x).isSome) := by
  obtain ⟨D, h1, h2, h3⟩ := h
  refine ⟨D, h1, h2, fun x hx => ?_⟩
  have := h3 x hx
  cases hm : m x with
  | none => rw [hm] at this; rw [has_false_of_atKey this]; rfl
  | some a => rw [hm] at this; rw [has_true_of_atKey this]; rfl
variable {t e : TypeId}
theorem SMap.look (h : SMap P tS E W b m N) (hS : P.underlying tS = some .string) (ht : P.underlying t = some (.map tS e)) {z : α} (hz : (zeroValue e).run P W = .ok (E.val z) W) {s : ByteArray} (hs : s.size ≤ maxLen) :
    (Instr.lookup t (.map (some b)) (.string s) true).run P W = .ok (.tuple #[E.val ((m s.data.toList).getD z), .bool (m s.data.toList).isSome]) W := by
  obtain ⟨D, h1, h0, h2⟩ := h
  obtain ⟨v, ps, hrun, hv⟩ := h1.look_ok (string_keyed hS) ht hz (E.put z) (keyOf_str hS hs)
  have h2 := h2 s.data.toList (by simpa using hs)
  rw [hrun]
  cases hm : m s.data.toList with
  | none =>
    rw [hm] at h2
    simp only at h2
    rw [h2] at hv
    rw [E.inv hv, has_false_of_atKey h2]
    rfl
  | some a =>
    rw [hm] at h2
    simp only at h2
    rw [h2] at hv
    rw [E.inv hv, has_true_of_atKey h2]
    rfl
theorem SMap.len (h : SMap P tS E W b m N) (ht : P.underlying t = some (.map tS e)) (ty : TypeId) : (Builtin.len_ #[t] ty #[.map (some b)]).run P W = .ok (.int .i64 (N : Int)) W := by
  obtain ⟨D, h1, h0, _⟩ := h
  rw [h1.len ht ty, h0]
theorem SMap.store (h : SMap P tS E W b m N) (hS : P.underlying tS = some .string) (ht : P.underlying t = some (.map tS e)) (hn : N < maxLen) {s : ByteArray} (hs : s.size ≤ maxLen) (hnew : m s.data.toList = none) (a : α) :
    ∃ W', (Instr.mapUpdate t (.map (some b)) (.string s) (E.val a)).run P W = .ok () W' ∧ SMap P tS E W' b (fun y => if y = s.data.toList then some a else m y) (N + 1) ∧ W.mapTurned W' b := by
  obtain ⟨D, h1, h0, h2⟩ := h
  have hD := h1.isMap
  obtain ⟨W', hrun, hown, hturn⟩ := h1.store (string_keyed hS) ht hn (keyOf_str hS hs) (E.put a)
  have hx : s.data.toList.length ≤ maxLen := by simpa using hs
  have hno : Maps.has D (.string s.data.toList) = false := by
    have := h2 _ hx
    rw [hnew] at this
    exact has_false_of_atKey this
  have hsz : Maps.size (D.put (.string s.data.toList) (E.dat a)) = N + 1 := by
    rw [size_put (h1.tidy (string_keyed hS)), hno, h0]
    rfl
  refine ⟨W', hrun, ⟨_, hown, hsz, fun y hy => ?_⟩, hturn⟩
  by_cases c : y = s.data.toList
  · subst c
    simp only [if_true]
    exact fun z => atKey_put_same hD (strKey _) _ _
  · simp only [if_neg c]
    have := h2 y hy
    cases hm : m y with
    | none => rw [hm] at this; exact fun z => (atKey_put_other (strNe c) _ _).trans (this z)
    | some a' => rw [hm] at this; exact fun z => (atKey_put_other (strNe c) _ _).trans (this z)
theorem SMap.drop (h : SMap P tS E W b m N) (hS : P.underlying tS = some .string) (ht : P.underlying t = some (.map tS e)) (ty : TypeId) {s : ByteArray} (hs : s.size ≤ maxLen) :
    ∃ W', (Builtin.delete_ #[t, tS] ty #[.map (some b), .string s]).run P W = .ok (.tuple #[]) W' ∧ SMap P tS E W' b (fun y => if y = s.data.toList then none else m y) (if (m s.data.toList).isSome then N - 1 else N) ∧ W.mapTurned W' b := by
  obtain ⟨D', h1', h0', hh⟩ := has_of h
  obtain ⟨D, h1, h0, h2⟩ := h
  obtain ⟨W', hrun, hown, hturn⟩ := h1.drop (string_keyed hS) ht (keyOf_str hS hs) ty
  have hx : s.data.toList.length ≤ maxLen := by simpa using hs
  have hha : Maps.has D (.string s.data.toList) = (m s.data.toList).isSome := by
    have := h2 _ hx
    cases hm : m s.data.toList with
    | none => rw [hm] at this; rw [has_false_of_atKey this]; rfl
    | some a => rw [hm] at this; rw [has_true_of_atKey this]; rfl
  have hsz := size_del (k := .string s.data.toList) (h1.tidy (string_keyed hS))
  rw [hha, h0] at hsz
  have hsz2 : Maps.size (D.del (.string s.data.toList)) = if (m s.data.toList).isSome then N - 1 else N := by
    split at hsz <;> rename_i c <;> simp [c] <;> omega
  refine ⟨W', hrun, ⟨_, by have := owns_size hown; rwa [hsz2] at this, hsz2, fun y hy => ?_⟩, hturn⟩
  by_cases c : y = s.data.toList
  · subst c
    simp only [if_true]
    exact fun z => atKey_del_same _
  · simp only [if_neg c]
    have := h2 y hy
    cases hm : m y with
    | none => rw [hm] at this; exact fun z => (atKey_del_other (strNe c) _).trans (this z)
    | some a' => rw [hm] at this; exact fun z => (atKey_del_other (strNe c) _).trans (this z)
end
end Go.Proofs.YtgiiiolnagddnaaMar
end
section
namespace Go.Proofs.YtgiiiolnagddnaaMar
open Go.RowKit Go.Maps
set_option linter.unusedSimpArgs false
set_option linter.unusedVariables false
def EM : ElemK (Int × Int) where
  R v := match v with
    | .agg cs => match cs.toList with
      | [.int .i64 a, .int .i64 b] => some (.map [(.int .i64 a, .lit (.int .i64 b))], [])
      | _ => none
    | _ => none
  val a := .agg #[.int .i64 a.1, .int .i64 a.2]
  dat a := .map [(.int .i64 a.1, .lit (.int .i64 a.2))]
  put a := rfl
  inv {v a ps} h := by
    cases v <;> simp at h
    rename_i cs
    cases cs with | mk l =>
    split at h
    · rename_i h'
      simp at h h'
      subst h'
      rw [h.1.1, h.1.2]
    · cases h
def BookAt (W : World) (p b : Nat) (tot : Int) (m : List UInt8 → Option (Int × Int)) (N : Nat) : Prop :=
  W.heap[p]? = some (.cells #[.int .i64 tot, .map (some b)] 54 (0, 0)) ∧ SMap Try.prog 9 EM W b m N
section
variable {W W' : World} {p b N : Nat} {tot : Int} {m : List UInt8 → Option (Int × Int)}
theorem BookAt.c0 (h : BookAt W p b tot m N) : W.cell? ⟨p, 0, none⟩ = some (.int .i64 tot) := by simp [World.cell?, h.1]
theorem BookAt.c1 (h : BookAt W p b tot m N) : W.cell? ⟨p, 1, none⟩ = some (.map (some b)) := by simp [World.cell?, h.1]
theorem BookAt.lt (h : BookAt W p b tot m N) : p < W.heap.size := (Array.getElem?_eq_some_iff.1 h.1).1
theorem BookAt.ne (h : BookAt W p b tot m N) : p ≠ b := by
  rintro rfl
  obtain ⟨es, clock, he⟩ := h.2.isMap
  rw [h.1] at he
  cases he
theorem BookAt.only {K : Nat → Prop} (h : BookAt W p b tot m N) (hk : Only K W W') (h1 : ¬ K p) (h2 : ¬ K b) : BookAt W' p b tot m N :=
  ⟨(hk.block p h.lt h1).trans h.1, h.2.block (hk.block b h.2.lt h2)⟩
theorem BookAt.below (h : BookAt W p b tot m N) (hk : Below W.heap.size W W') : BookAt W' p b tot m N := h.only (K := fun _ => False) (Only.of_below hk) (fun h => h) (fun h => h)
theorem BookAt.turn {m' : List UInt8 → Option (Int × Int)} {N' : Nat} (h : BookAt W p b tot m N) (ht : W.mapTurned W' b) (hm : SMap Try.prog 9 EM W' b m' N') : BookAt W' p b tot m' N' :=
  ⟨((Only.turned (K := fun k => k = b) ht rfl).block p h.lt h.ne).trans h.1, hm⟩
end
set_option maxRecDepth 100000 in
set_option maxHeartbeats 4000000 in
theorem New_calls (tot : Int) (h : 0 ≤ tot ∧ tot ≤ 1048576) (w : World) : Calls Try.prog 7 #[.int .i64 tot] w fun e w' => e = .returned (.tuple #[.pointer (some ⟨w.heap.size + 1, 0, none⟩), .int .i64 0]) ∧ BookAt w' (w.heap.size + 1) w.heap.size tot (fun _ => none) 0 ∧ Below w.heap.size w w' := by
  have hmm := @run_makeMap Try.prog
  have d0 : decide (tot < 0) = false := decide_eq_false (by omega)
  have d1 : decide (1048576 < tot) = false := decide_eq_false (by omega)
  have hM := SMap.made (P := Try.prog) (tS := 9) (E := EM) w
  have hb := ((Below.refl w.heap.size w).alloc (Nat.le_refl _) (.map #[] 0)).alloc (by simp) (.cells #[.int .i64 tot, .map (some w.heap.size)] 54)
  have h1 := World.alloc_heap_new (w.alloc (.map #[] 0)) (.cells #[.int .i64 tot, .map (some w.heap.size)] 54)
  rw [World.size_alloc] at h1
  clear h
  go_enter Try.func7, Try.ntmps7
  go_wp2
  go_ret2
  exact ⟨rfl, ⟨h1, hM.block (Below.heap_alloc _ _ _ (by simp))⟩, hb⟩
def okB (c : UInt8) : Bool := (97 ≤ c.toNat && c.toNat ≤ 122) || (48 ≤ c.toNat && c.toNat ≤ 57) || c.toNat == 46 || c.toNat == 45 || c.toNat == 95
def nameB (l : List UInt8) : Bool := decide (1 ≤ l.length) && decide (l.length ≤ 32) && l.all okB
theorem okB_iff (c : UInt8) : okB c = true ↔ (97 ≤ (c.toNat : Int) ∧ (c.toNat : Int) ≤ 122) ∨ (48 ≤ (c.toNat : Int) ∧ (c.toNat : Int) ≤ 57) ∨ (c.toNat : Int) = 46 ∨ (c.toNat : Int) = 45 ∨ (c.toNat : Int) = 95 := by
  unfold okB
  simp only [Bool.or_eq_true, Bool.and_eq_true, decide_eq_true_eq, beq_iff_eq]
  omega
theorem all_take {l : List UInt8} {i : Nat} {c : UInt8} (hi : l[i]? = some c) (h : (l.take i).all okB = true) (hc : okB c = true) : (l.take (i + 1)).all okB = true := by
  rw [List.take_add_one, hi, List.all_append, h]
  simp [hc]
theorem all_fail {l : List UInt8} {i : Nat} {c : UInt8} (hi : l[i]? = some c) (hc : ¬ okB c = true) : nameB l = false := by
  have : l.all okB = false := by
    rw [List.all_eq_false]
    exact ⟨c, List.mem_of_getElem? hi, hc⟩
  simp [nameB, this]
set_option maxRecDepth 100000 in
set_option maxHeartbeats 8000000 in
theorem title_calls (s : ByteArray) (w : World) : Calls Try.prog 15 #[.string s] w fun e w' => e = .returned (.bool (nameB s.data.toList)) ∧ Below w.heap.size w w' := by
  obtain ⟨l, hl⟩ : ∃ l, l = s.data.toList := ⟨_, rfl⟩
  have hls : l.length = s.size := by rw [hl]; simp
  rw [← hl]
  by_cases c1 : s.size < 1
  · have hnb : nameB l = false := by simp [nameB]; omega
    have d0 : decide (s.size < 1) = true := decide_eq_true c1
    have d1 : decide ((s.size : Int) < 1) = true := decide_eq_true (by omega)
    rw [hnb]
    clear hnb hls hl
    go_enter Try.func15, Try.ntmps15
    go_wp2
    go_ret
    exact ⟨rfl, Below.refl _ _⟩
  · by_cases c2 : 32 < s.size
    · have hnb : nameB l = false := by simp [nameB]; omega
      have d1 : decide ((s.size : Int) < 1) = false := decide_eq_false (by omega)
      have d2 : decide ((32 : Int) < (s.size : Int)) = true := decide_eq_true (by omega)
      rw [hnb]
      clear hnb hls hl
      go_enter Try.func15, Try.ntmps15
      go_wp2
      go_ret
      exact ⟨rfl, Below.refl _ _⟩
    · have d1 : decide ((s.size : Int) < 1) = false := decide_eq_false (by omega)
      have d2 : decide ((32 : Int) < (s.size : Int)) = false := decide_eq_false (by omega)
      have hcv := run_bytes_of_string (P := Try.prog) w 9 36 5 s Try.underlying9 Try.underlying36 Try.underlying5
      obtain ⟨cap, hcap⟩ : ∃ cap, cap = grownCap w s.size 0 5 := ⟨_, rfl⟩
      rw [← hcap] at hcv
      obtain ⟨W1, hW1⟩ : ∃ W1, W1 = w.drew.alloc (.cells (bytesRow s cap) 5 ((bytesRow s cap).size, (bytesRow s cap).size + 1)) := ⟨_, rfl⟩
      have hbel : Below w.heap.size w W1 := by rw [hW1]; exact (Below.refl _ w).drew.alloc (Nat.le_refl _) _
      have hcell : ∀ i (hi : i < s.size), W1.cell? ⟨w.heap.size, i, none⟩ = some (.int .u8 (s.data[i].toNat : Int)) := by
        intro i hi
        have h1 : W1.heap[w.heap.size]? = some (.cells (bytesRow s cap) 5 ((bytesRow s cap).size, (bytesRow s cap).size + 1)) := by rw [hW1]; exact World.alloc_heap_new w.drew _
        have h2 := bytesRow_at s cap i hi
        simp [World.cell?, h1, h2]
      rw [← hW1] at hcv
      have hget : ∀ i (hi : i < s.size), l[i]? = some s.data[i] := by
        intro i hi
        rw [hl, Array.getElem?_toList]
        exact Array.getElem?_eq_getElem hi
      have HB := Lib.hid hbel
      have HC := Lib.hid hcell
      have HG := Lib.hid hget
      have HLS := Lib.hid hls
      obtain ⟨r, hr⟩ : ∃ r, r = nameB l := ⟨_, rfl⟩
      rw [← hr]
      have HR := Lib.hid hr
      clear hr
      have hs32 : (s.size : Int) ≤ 32 := by omega
      have hs1 : 1 ≤ s.size := by omega
      clear hW1 hbel hcell hget hls hl hcap c1 c2
      go_enter Try.func15, Try.ntmps15
      go_wp2
      clear d1 d2 hcv
      go_loopw [16] (fun v16 wr => ∃ i : Nat, i ≤ s.size ∧ v16 = .int .i64 (i : Int) ∧ (l.take i).all okB = true ∧ wr = W1) (fun v16 _ => s.size - (intOf v16).toNat)
      case atStart => exact ⟨0, Nat.zero_le _, rfl, by simp, rfl⟩
      case round =>
        obtain ⟨i, hi, rfl, hall, rfl⟩ := hrel
        by_cases hlt : i < s.size
        · have dl : decide (i < s.size) = true := decide_eq_true hlt
          have q2 : ((i : Int) < (s.size : Int)) = True := eq_true (by omega)
          have q3 : (0 ≤ (i : Int)) = True := eq_true (by omega)
          have ib : (i : Int) ≤ 32 := by omega
          have x0 := HC.out i hlt
          have hbd : (s.data[i].toNat : Int) < 256 := by have := s.data[i].toNat_lt; omega
          obtain ⟨x, hx⟩ : ∃ x : Int, x = (s.data[i].toNat : Int) := ⟨_, rfl⟩
          have hx0 : 0 ≤ x := by omega
          rw [← hx] at x0 hbd
          have HA := Lib.hid hall
          clear hall
          rcases (by omega : (97 ≤ x ∧ x ≤ 122) ∨ (97 ≤ x ∧ 122 < x) ∨ (48 ≤ x ∧ x ≤ 57) ∨ (x = 95) ∨ (57 < x ∧ x < 97 ∧ x ≠ 95) ∨ (x = 46) ∨ (x = 45) ∨ (x < 48 ∧ x ≠ 46 ∧ x ≠ 45)) with hc | hc | hc | hc | hc | hc | hc | hc
          · have e0 : decide (97 ≤ x) = true := decide_eq_true (by omega)
            have e1 : decide (x ≤ 122) = true := decide_eq_true (by omega)
            have hok : okB s.data[i] = true := (okB_iff _).2 (by rw [← hx]; omega)
            have HN := Lib.hid (all_take (HG.out i hlt) HA.out hok)
            clear hok
            go_wp2
            go_roundw
            case rel => exact ⟨i + 1, hlt, by go_num, HN.out, trivial⟩
            case measure => simp [intOf]; omega
          · have e0 : decide (97 ≤ x) = true := decide_eq_true (by omega)
            have e1 : decide (x ≤ 122) = false := decide_eq_false (by omega)
            have e2 : decide (48 ≤ x) = true := decide_eq_true (by omega)
            have e3 : decide (x ≤ 57) = false := decide_eq_false (by omega)
            have e4 : (x == 46) = false := beq_eq_false_iff_ne.2 (by omega)
            have e5 : (x == 45) = false := beq_eq_false_iff_ne.2 (by omega)
            have e6 : (x == 95) = false := beq_eq_false_iff_ne.2 (by omega)
            have hno : ¬ okB s.data[i] = true := fun h => by have := (okB_iff _).1 h; rw [← hx] at this; omega
            have hnb := all_fail (HG.out i hlt) hno
            have HNB := Lib.hid hnb
            clear hno hnb
            go_wp2
            go_ret
            exact ⟨by rw [HR.out, HNB.out]; rfl, HB.out⟩
          · have e0 : decide (97 ≤ x) = false := decide_eq_false (by omega)
            have e1 : decide (48 ≤ x) = true := decide_eq_true (by omega)
            have e2 : decide (x ≤ 57) = true := decide_eq_true (by omega)
            have hok : okB s.data[i] = true := (okB_iff _).2 (by rw [← hx]; omega)
            have HN := Lib.hid (all_take (HG.out i hlt) HA.out hok)
            clear hok
            go_wp2
            go_roundw
            case rel => exact ⟨i + 1, hlt, by go_num, HN.out, trivial⟩
            case measure => simp [intOf]; omega
          · have e0 : decide (97 ≤ x) = false := decide_eq_false (by omega)
            have e1 : decide (48 ≤ x) = true := decide_eq_true (by omega)
            have e2 : decide (x ≤ 57) = false := decide_eq_false (by omega)
            have e3 : (x == 46) = false := beq_eq_false_iff_ne.2 (by omega)
            have e4 : (x == 45) = false := beq_eq_false_iff_ne.2 (by omega)
            have e5 : (x == 95) = true := beq_iff_eq.2 (by omega)
            have hok : okB s.data[i] = true := (okB_iff _).2 (by rw [← hx]; omega)
            have HN := Lib.hid (all_take (HG.out i hlt) HA.out hok)
            clear hok
            go_wp2
            go_roundw
            case rel => exact ⟨i + 1, hlt, by go_num, HN.out, trivial⟩
            case measure => simp [intOf]; omega
          · have e0 : decide (97 ≤ x) = false := decide_eq_false (by omega)
            have e1 : decide (48 ≤ x) = true := decide_eq_true (by omega)
            have e2 : decide (x ≤ 57) = false := decide_eq_false (by omega)
            have e3 : (x == 46) = false := beq_eq_false_iff_ne.2 (by omega)
            have e4 : (x == 45) = false := beq_eq_false_iff_ne.2 (by omega)
            have e5 : (x == 95) = false := beq_eq_false_iff_ne.2 (by omega)
            have hno : ¬ okB s.data[i] = true := fun h => by have := (okB_iff _).1 h; rw [← hx] at this; omega
            have hnb := all_fail (HG.out i hlt) hno
            have HNB := Lib.hid hnb
            clear hno hnb
            go_wp2
            go_ret
            exact ⟨by rw [HR.out, HNB.out]; rfl, HB.out⟩
          · have e0 : decide (97 ≤ x) = false := decide_eq_false (by omega)
            have e1 : decide (48 ≤ x) = false := decide_eq_false (by omega)
            have e2 : (x == 46) = true := beq_iff_eq.2 (by omega)
            have hok : okB s.data[i] = true := (okB_iff _).2 (by rw [← hx]; omega)
            have HN := Lib.hid (all_take (HG.out i hlt) HA.out hok)
            clear hok
            go_wp2
            go_roundw
            case rel => exact ⟨i + 1, hlt, by go_num, HN.out, trivial⟩
            case measure => simp [intOf]; omega
          · have e0 : decide (97 ≤ x) = false := decide_eq_false (by omega)
            have e1 : decide (48 ≤ x) = false := decide_eq_false (by omega)
            have e2 : (x == 46) = false := beq_eq_false_iff_ne.2 (by omega)
            have e3 : (x == 45) = true := beq_iff_eq.2 (by omega)
            have hok : okB s.data[i] = true := (okB_iff _).2 (by rw [← hx]; omega)
            have HN := Lib.hid (all_take (HG.out i hlt) HA.out hok)
            clear hok
            go_wp2
            go_roundw
            case rel => exact ⟨i + 1, hlt, by go_num, HN.out, trivial⟩
            case measure => simp [intOf]; omega
          · have e0 : decide (97 ≤ x) = false := decide_eq_false (by omega)
            have e1 : decide (48 ≤ x) = false := decide_eq_false (by omega)
            have e2 : (x == 46) = false := beq_eq_false_iff_ne.2 (by omega)
            have e3 : (x == 45) = false := beq_eq_false_iff_ne.2 (by omega)
            have e4 : (x == 95) = false := beq_eq_false_iff_ne.2 (by omega)
            have hno : ¬ okB s.data[i] = true := fun h => by have := (okB_iff _).1 h; rw [← hx] at this; omega
            have hnb := all_fail (HG.out i hlt) hno
            have HNB := Lib.hid hnb
            clear hno hnb
            go_wp2
            go_ret
            exact ⟨by rw [HR.out, HNB.out]; rfl, HB.out⟩
        · obtain rfl : i = s.size := by omega
          have dl : decide (s.size < s.size) = false := decide_eq_false (Nat.lt_irrefl _)
          have hnb : nameB l = true := by
            have h1 : l.take s.size = l := List.take_of_length_le (by rw [HLS.out]; exact Nat.le_refl _)
            rw [h1] at hall
            have h2 := HLS.out
            simp [nameB, hall]
            omega
          have HNB := Lib.hid hnb
          clear hnb hall hlt hi
          go_wp2
          go_ret
          exact ⟨by rw [HR.out, HNB.out]; rfl, HB.out⟩
end Go.Proofs.YtgiiiolnagddnaaMar
end
section
namespace Go.Proofs.YtgiiiolnagddnaaMar
open Go.RowKit Go.Maps
set_option linter.unusedSimpArgs false
set_option linter.unusedVariables false
theorem look_some {W : World} {p b N : Nat} {tot : Int} {m : List UInt8 → Option (Int × Int)} (h : BookAt W p b tot m N) {s : ByteArray} (hs : s.size ≤ maxLen) {a : Int × Int} (hm : m s.data.toList = some a) :
    (Instr.lookup 52 (.map (some b)) (.string s) true).run Try.prog W = .ok (.tuple #[.agg #[.int .i64 a.1, .int .i64 a.2], .bool true]) W := by
  have := h.2.look Try.underlying9 Try.underlying52 (z := ((0 : Int), (0 : Int))) (Try.zeroValue57 W) hs
  rw [hm] at this
  exact this
theorem look_none {W : World} {p b N : Nat} {tot : Int} {m : List UInt8 → Option (Int × Int)} (h : BookAt W p b tot m N) {s : ByteArray} (hs : s.size ≤ maxLen) (hm : m s.data.toList = none) :
    (Instr.lookup 52 (.map (some b)) (.string s) true).run Try.prog W = .ok (.tuple #[.agg #[.int .i64 0, .int .i64 0], .bool false]) W := by
  have := h.2.look Try.underlying9 Try.underlying52 (z := ((0 : Int), (0 : Int))) (Try.zeroValue57 W) hs
  rw [hm] at this
  exact this
theorem box_facts {w w' : World} {p b N : Nat} {tot : Int} {m : List UInt8 → Option (Int × Int)} (h : BookAt w p b tot m N) {s : ByteArray} {lo hi : Int} (h2 : Below (w.alloc (.cells #[.string s, .int .i64 lo, .int .i64 hi] 34)).heap.size (w.alloc (.cells #[.string s, .int .i64 lo, .int .i64 hi] 34)) w') :
    Below w.heap.size w w' ∧ BookAt w' p b tot m N ∧ w'.heap[w.heap.size]? = some (.cells #[.string s, .int .i64 lo, .int .i64 hi] 34 (0, 0)) := by
  have hB : Below w.heap.size w (w.alloc (.cells #[.string s, .int .i64 lo, .int .i64 hi] 34)) := (Below.refl _ w).alloc (Nat.le_refl _) _
  have hb2 := hB.trans (h2.mono (by simp))
  exact ⟨hb2, h.below hb2, (h2.block _ (by simp)).trans (World.alloc_heap_new w _)⟩
theorem cell_of {w : World} {g : Nat} {cs : Array Value} {t : TypeId} {f : Nat × Nat} (h : w.heap[g]? = some (.cells cs t f)) (i : Nat) : w.cell? ⟨g, i, none⟩ = cs[i]? := by
  simp [World.cell?, h]
def putE (tot : Int) (m : List UInt8 → Option (Int × Int)) (N : Nat) (l : List UInt8) (lo hi : Int) : Int :=
  if nameB l = false then 200 else if lo < 0 ∨ hi ≤ lo ∨ tot < hi then 12 else if (m l).isSome then 201 else if 256 ≤ N then 202 else 0
set_option maxRecDepth 100000 in
set_option maxHeartbeats 4000000 in
theorem Put_calls {p b N : Nat} {tot : Int} {m : List UInt8 → Option (Int × Int)} (w : World) (h : BookAt w p b tot m N) (s : ByteArray) (hs : s.size ≤ maxLen) (lo hi : Int) : Calls Try.prog 8 #[.pointer (some ⟨p, 0, none⟩), .agg #[.string s, .int .i64 lo, .int .i64 hi]] w fun e w' =>
    e = .returned (.int .i64 (putE tot m N s.data.toList lo hi)) ∧ BookAt w' p b tot (if putE tot m N s.data.toList lo hi = 0 then fun y => if y = s.data.toList then some (lo, hi) else m y else m) (if putE tot m N s.data.toList lo hi = 0 then N + 1 else N) ∧ Only (fun k => k = b) w w' := by
  have hB : Below w.heap.size w (w.alloc (.cells #[.string s, .int .i64 lo, .int .i64 hi] 34)) := (Below.refl _ w).alloc (Nat.le_refl _) _
  have hnew := World.alloc_heap_new w (.cells #[.string s, .int .i64 lo, .int .i64 hi] 34)
  have ht := title_calls s (w.alloc (.cells #[.string s, .int .i64 lo, .int .i64 hi] 34))
  have n200 : ¬ ((200 : Int) = 0) := by decide
  have n12 : ¬ ((12 : Int) = 0) := by decide
  have n201 : ¬ ((201 : Int) = 0) := by decide
  have n202 : ¬ ((202 : Int) = 0) := by decide
  cases hn : nameB s.data.toList with
  | false =>
    have hp : putE tot m N s.data.toList lo hi = 200 := by simp [putE, hn]
    rw [hn] at ht
    simp only [hp, if_neg n200]
    go_enter Try.func8, Try.ntmps8
    go_wp2_with (go_at_call 15; refine ht.mono ?_; rintro e w' ⟨rfl, h2⟩)
    go_ret
    have hb2 := hB.trans (h2.mono (by simp))
    exact ⟨rfl, h.below hb2, Only.of_below hb2⟩
  | true =>
    rw [hn] at ht
    by_cases c1 : lo < 0
    · have d1 : decide (lo < 0) = true := decide_eq_true c1
      have hp : putE tot m N s.data.toList lo hi = 12 := by simp [putE, hn, c1]
      simp only [hp, if_neg n12]
      go_enter Try.func8, Try.ntmps8
      go_wp2_with (go_at_call 15; refine ht.mono ?_; rintro e w' ⟨rfl, h2⟩; obtain ⟨hb2, h3, hbl⟩ := box_facts h h2; have z0 := cell_of hbl 0; have z1 := cell_of hbl 1; have z2 := cell_of hbl 2; have k0 := h3.c0)
      go_quiet (fail)
      rename_i nq
      have hq : Below w'.heap.size w' (w'.drewN nq) := ⟨rfl, rfl, rfl, Nat.le_refl _, fun k _ => rfl⟩
      go_wp2
      go_ret
      have hb4 := hb2.trans (hq.mono hb2.size)
      exact ⟨rfl, h.below hb4, Only.of_below hb4⟩
    have d1 : decide (lo < 0) = false := decide_eq_false c1
    by_cases c2 : hi ≤ lo
    · have d2 : decide (hi ≤ lo) = true := decide_eq_true c2
      have hp : putE tot m N s.data.toList lo hi = 12 := by simp [putE, hn, c2]
      simp only [hp, if_neg n12]
      go_enter Try.func8, Try.ntmps8
      go_wp2_with (go_at_call 15; refine ht.mono ?_; rintro e w' ⟨rfl, h2⟩; obtain ⟨hb2, h3, hbl⟩ := box_facts h h2; have z0 := cell_of hbl 0; have z1 := cell_of hbl 1; have z2 := cell_of hbl 2; have k0 := h3.c0)
      go_quiet (fail)
      rename_i nq
      have hq : Below w'.heap.size w' (w'.drewN nq) := ⟨rfl, rfl, rfl, Nat.le_refl _, fun k _ => rfl⟩
      go_wp2
      go_ret
      have hb4 := hb2.trans (hq.mono hb2.size)
      exact ⟨rfl, h.below hb4, Only.of_below hb4⟩
    have d2 : decide (hi ≤ lo) = false := decide_eq_false c2
    by_cases c3 : tot < hi
    · have d3 : decide (tot < hi) = true := decide_eq_true c3
      have hp : putE tot m N s.data.toList lo hi = 12 := by simp [putE, hn, c3]
      simp only [hp, if_neg n12]
      go_enter Try.func8, Try.ntmps8
      go_wp2_with (go_at_call 15; refine ht.mono ?_; rintro e w' ⟨rfl, h2⟩; obtain ⟨hb2, h3, hbl⟩ := box_facts h h2; have z0 := cell_of hbl 0; have z1 := cell_of hbl 1; have z2 := cell_of hbl 2; have k0 := h3.c0)
      go_quiet (fail)
      rename_i nq
      have hq : Below w'.heap.size w' (w'.drewN nq) := ⟨rfl, rfl, rfl, Nat.le_refl _, fun k _ => rfl⟩
      go_wp2
      go_ret
      have hb4 := hb2.trans (hq.mono hb2.size)
      exact ⟨rfl, h.below hb4, Only.of_below hb4⟩
    have d3 : decide (tot < hi) = false := decide_eq_false c3
    cases hm : m s.data.toList with
    | some a =>
      have hp : putE tot m N s.data.toList lo hi = 201 := by simp [putE, hn, c1, c2, c3, hm]
      simp only [hp, if_neg n201]
      go_enter Try.func8, Try.ntmps8
      go_wp2_with (go_at_call 15; refine ht.mono ?_; rintro e w' ⟨rfl, h2⟩; obtain ⟨hb2, h3, hbl⟩ := box_facts h h2; have z0 := cell_of hbl 0; have z1 := cell_of hbl 1; have z2 := cell_of hbl 2; have k0 := h3.c0)
      go_quiet (fail)
      rename_i nq
      have hq : Below w'.heap.size w' (w'.drewN nq) := ⟨rfl, rfl, rfl, Nat.le_refl _, fun k _ => rfl⟩
      obtain ⟨X, hX⟩ : ∃ X, X = w'.drewN nq := ⟨_, rfl⟩
      have g1 : Below w.heap.size w X := by rw [hX]; exact hb2.trans (hq.mono hb2.size)
      have g2 : BookAt X p b tot m N := h.below g1
      have g3 : X.heap[w.heap.size]? = some (.cells #[.string s, .int .i64 lo, .int .i64 hi] 34 (0, 0)) := by rw [hX]; exact hbl
      rw [← hX]
      clear hX hq z0 z1 z2 k0 hbl h3 hb2 h2 ht hnew hB w' d1 d2 d3
      have y0 := cell_of g3 0
      have y1 := cell_of g3 1
      have y2 := cell_of g3 2
      have ec := g2.c1
      have h4 : BookAt X.drew p b tot m N := g2.below (Below.refl _ X).drew
      have h5 : ∀ v : Int × Int, BookAt (X.alloc (.cells #[.int .i64 v.1, .int .i64 v.2] 57)).drew p b tot m N := fun v => g2.below (((Below.refl _ X).alloc (Nat.le_refl _) _).drew)
      have h6 : BookAt (X.alloc (.cells #[.int .i64 0, .int .i64 0] 57)).drew p b tot m N := h5 (0, 0)
      have b6 : (X.alloc (.cells #[.int .i64 0, .int .i64 0] 57)).drew.heap[w.heap.size]? = some (.cells #[.string s, .int .i64 lo, .int .i64 hi] 34 (0, 0)) := (Below.heap_alloc X _ _ (Array.getElem?_eq_some_iff.1 g3).1).trans g3
      have x0 := cell_of b6 0
      have hl6 := look_some h6 hs hm
      have ec6 := h6.c1
      have hl4 := look_some h4 hs hm
      have ec4 := h4.c1
      go_wp2
      go_region
      all_goals go_wp2
      all_goals go_ret
      all_goals exact ⟨rfl, h5 a, Only.of_below (g1.trans ((((Below.refl _ X).alloc (Nat.le_refl _) _).drew).mono g1.size))⟩
    | none =>
      by_cases c4 : 256 ≤ N
      · have hp : putE tot m N s.data.toList lo hi = 202 := by simp [putE, hn, c1, c2, c3, hm, c4]
        have d4 : decide (256 ≤ (N : Int)) = true := decide_eq_true (by omega)
        have d4' : decide (256 ≤ N) = true := decide_eq_true c4
        simp only [hp, if_neg n202]
        go_enter Try.func8, Try.ntmps8
        go_wp2_with (go_at_call 15; refine ht.mono ?_; rintro e w' ⟨rfl, h2⟩; obtain ⟨hb2, h3, hbl⟩ := box_facts h h2; have z0 := cell_of hbl 0; have z1 := cell_of hbl 1; have z2 := cell_of hbl 2; have k0 := h3.c0)
        go_quiet (fail)
        rename_i nq
        have hq : Below w'.heap.size w' (w'.drewN nq) := ⟨rfl, rfl, rfl, Nat.le_refl _, fun k _ => rfl⟩
        obtain ⟨X, hX⟩ : ∃ X, X = w'.drewN nq := ⟨_, rfl⟩
        have g1 : Below w.heap.size w X := by rw [hX]; exact hb2.trans (hq.mono hb2.size)
        have g2 : BookAt X p b tot m N := h.below g1
        have g3 : X.heap[w.heap.size]? = some (.cells #[.string s, .int .i64 lo, .int .i64 hi] 34 (0, 0)) := by rw [hX]; exact hbl
        rw [← hX]
        clear hX hq z0 z1 z2 k0 hbl h3 hb2 h2 ht hnew hB w' d1 d2 d3
        have y0 := cell_of g3 0
        have y1 := cell_of g3 1
        have y2 := cell_of g3 2
        have ec := g2.c1
        have h4 : BookAt X.drew p b tot m N := g2.below (Below.refl _ X).drew
        have h5 : BookAt (X.alloc (.cells #[.int .i64 0, .int .i64 0] 57)).drew p b tot m N := g2.below (((Below.refl _ X).alloc (Nat.le_refl _) _).drew)
        have b6 : (X.alloc (.cells #[.int .i64 0, .int .i64 0] 57)).drew.heap[w.heap.size]? = some (.cells #[.string s, .int .i64 lo, .int .i64 hi] 34 (0, 0)) := (Below.heap_alloc X _ _ (Array.getElem?_eq_some_iff.1 g3).1).trans g3
        have gY : Below w.heap.size w (X.alloc (.cells #[.int .i64 0, .int .i64 0] 57)).drew := g1.trans ((((Below.refl _ X).alloc (Nat.le_refl _) _).drew).mono g1.size)
        have x0 := cell_of b6 0
        have x1 := cell_of b6 1
        have x2 := cell_of b6 2
        have hl6 := look_none h5 hs hm
        have ec6 := h5.c1
        have hl4 := look_none h4 hs hm
        have ec4 := h4.c1
        have hlen := h5.2.len Try.underlying52 3
        go_wp2
        go_region
        all_goals go_wp2
        all_goals go_ret
        all_goals exact ⟨rfl, h5, Only.of_below gY⟩
      · have hp : putE tot m N s.data.toList lo hi = 0 := by simp [putE, hn, c1, c2, c3, hm, c4]
        have d4 : decide (256 ≤ (N : Int)) = false := decide_eq_false (by omega)
        have d4' : decide (256 ≤ N) = false := decide_eq_false c4
        simp only [hp, if_true]
        go_enter Try.func8, Try.ntmps8
        go_wp2_with (go_at_call 15; refine ht.mono ?_; rintro e w' ⟨rfl, h2⟩; obtain ⟨hb2, h3, hbl⟩ := box_facts h h2; have z0 := cell_of hbl 0; have z1 := cell_of hbl 1; have z2 := cell_of hbl 2; have k0 := h3.c0)
        go_quiet (fail)
        rename_i nq
        have hq : Below w'.heap.size w' (w'.drewN nq) := ⟨rfl, rfl, rfl, Nat.le_refl _, fun k _ => rfl⟩
        obtain ⟨X, hX⟩ : ∃ X, X = w'.drewN nq := ⟨_, rfl⟩
        have g1 : Below w.heap.size w X := by rw [hX]; exact hb2.trans (hq.mono hb2.size)
        have g2 : BookAt X p b tot m N := h.below g1
        have g3 : X.heap[w.heap.size]? = some (.cells #[.string s, .int .i64 lo, .int .i64 hi] 34 (0, 0)) := by rw [hX]; exact hbl
        rw [← hX]
        clear hX hq z0 z1 z2 k0 hbl h3 hb2 h2 ht hnew hB w' d1 d2 d3
        have y0 := cell_of g3 0
        have y1 := cell_of g3 1
        have y2 := cell_of g3 2
        have ec := g2.c1
        have h4 : BookAt X.drew p b tot m N := g2.below (Below.refl _ X).drew
        have h5 : BookAt (X.alloc (.cells #[.int .i64 0, .int .i64 0] 57)).drew p b tot m N := g2.below (((Below.refl _ X).alloc (Nat.le_refl _) _).drew)
        have b6 : (X.alloc (.cells #[.int .i64 0, .int .i64 0] 57)).drew.heap[w.heap.size]? = some (.cells #[.string s, .int .i64 lo, .int .i64 hi] 34 (0, 0)) := (Below.heap_alloc X _ _ (Array.getElem?_eq_some_iff.1 g3).1).trans g3
        have gY : Below w.heap.size w (X.alloc (.cells #[.int .i64 0, .int .i64 0] 57)).drew := g1.trans ((((Below.refl _ X).alloc (Nat.le_refl _) _).drew).mono g1.size)
        have x0 := cell_of b6 0
        have x1 := cell_of b6 1
        have x2 := cell_of b6 2
        have hl6 := look_none h5 hs hm
        have ec6 := h5.c1
        have hl4 := look_none h4 hs hm
        have ec4 := h4.c1
        have hlen := h5.2.len Try.underlying52 3
        have h7 : BookAt (X.alloc (.cells #[.int .i64 0, .int .i64 0] 57)).drew.drew p b tot m N := h5.below (Below.refl _ _).drew
        have u0 := x0
        have e7 := h7.c1
        obtain ⟨W', hrun, hM, hturn⟩ := h7.2.store Try.underlying9 Try.underlying52 (by unfold maxLen; omega) hs hm (lo, hi)
        rw [show EM.val (lo, hi) = .agg #[.int .i64 lo, .int .i64 hi] from rfl] at hrun
        go_wp2
        go_region
        all_goals go_wp2
        all_goals go_region
        all_goals go_wp2
        all_goals go_ret
        all_goals exact ⟨rfl, h7.turn hturn hM, (Only.of_below gY.drew).trans (Only.turned hturn rfl)⟩
end Go.Proofs.YtgiiiolnagddnaaMar
end
section
namespace Go.Proofs.YtgiiiolnagddnaaMar
open Go.RowKit Go.Maps
set_option linter.unusedSimpArgs false
set_option linter.unusedVariables false
theorem keyOf_str_inv {P : Program} {tS : TypeId} (hS : P.underlying tS = some .string) {key : Value} {kl : Lit} (h : keyOf P tS key = some kl) : ∃ s : ByteArray, key = .string s ∧ kl = .string s.data.toList ∧ s.size ≤ maxLen := by
  cases key <;> simp [keyOf, hS, mapKey] at h
  exact ⟨_, rfl, h.2.symm, h.1⟩
theorem keyOf_str_eq {P : Program} {tS : TypeId} (hS : P.underlying tS = some .string) {s : ByteArray} {kl : Lit} (h : keyOf P tS (.string s) = some kl) : kl = .string s.data.toList ∧ s.size ≤ maxLen := by
  obtain ⟨s', h1, h2, h3⟩ := keyOf_str_inv hS h
  cases h1
  exact ⟨h2, h3⟩
theorem sameStr (x y : List UInt8) : (Lit.string x).sameKey (.string y) = decide (x = y) := by
  simp [Lit.sameKey]
  by_cases h : x = y <;> simp [h]
theorem nodup_len {β : Type} : ∀ (l k : List β), l.Nodup → (∀ x ∈ l, x ∈ k) → l.length ≤ k.length := by
  classical
  intro l
  induction l with
  | nil => intro k _ _; exact Nat.zero_le _
  | cons a l ih =>
    intro k hn hs
    have ha := hs a (List.mem_cons_self ..)
    have hn' := List.nodup_cons.1 hn
    have h1 := ih (k.erase a) hn'.2 (fun x hx => (List.mem_erase_of_ne (fun e => hn'.1 (by rw [← e]; exact hx))).2 (hs x (List.mem_cons_of_mem _ hx)))
    have h2 := List.length_erase_of_mem ha
    have h3 : 0 < k.length := List.length_pos_of_mem ha
    simp
    omega
abbrev Nm := ByteArray × (Int × Int)
abbrev nmOf (q : Nm) : List UInt8 := q.1.data.toList
structure Trail (D : DataW Unit) (left : Lit → Bool) (L : List Nm) : Prop where
  nodup : (L.map nmOf).Nodup
  at_ : ∀ q ∈ L, q.1.size ≤ maxLen ∧ ∀ z, D.atKey (.string (nmOf q)) z = EM.dat q.2
  left_ : ∀ z, left z = (Maps.has D z && !(L.any fun q => (Lit.string (nmOf q)).sameKey z))
theorem Trail.start (D : DataW Unit) : Trail D (Maps.has D) [] := ⟨by simp, (by intro q hq; cases hq), (by intro z; simp)⟩
theorem Trail.step {D : DataW Unit} {left : Lit → Bool} {L : List Nm} (h : Trail D left L) {s : ByteArray} (hs : s.size ≤ maxLen) (hl : left (.string s.data.toList) = true) {c : Int × Int} (hc : ∀ z, D.atKey (.string s.data.toList) z = EM.dat c) :
    Trail D (fun z => left z && !z.sameKey (.string s.data.toList)) (L ++ [(s, c)]) := by
  refine ⟨?_, ?_, ?_⟩
  · rw [List.map_append, List.nodup_append]
    refine ⟨h.nodup, by simp, ?_⟩
    intro a ha b hb e
    simp at hb
    subst hb
    subst e
    obtain ⟨q, hq, he⟩ := List.mem_map.1 ha
    rw [h.left_] at hl
    simp only [Bool.and_eq_true, Bool.not_eq_true'] at hl
    have := List.any_eq_false.1 hl.2 q hq
    rw [sameStr] at this
    exact this (decide_eq_true he)
  · intro q hq
    rcases List.mem_append.1 hq with h1 | h1
    · exact h.at_ q h1
    · simp at h1
      subst h1
      exact ⟨hs, hc⟩
  · intro z
    rw [h.left_, List.any_append]
    have hsym : z.sameKey (.string s.data.toList) = (Lit.string s.data.toList).sameKey z := by
      cases z <;> simp [Lit.sameKey]
      exact Bool.beq_comm
    simp [hsym, Bool.and_assoc, nmOf]
theorem Trail.all {W : World} {b N n : Nat} {D : DataW Unit} {left : Lit → Bool} {L : List Nm} (h : Trail D left L) (hl : ∀ z, left z = false) (hown : W.ownsMap Try.prog 9 EM.R b n D) (K : Keyed Try.prog 9) (hsz : Maps.size D = N) : L.length = N := by
  obtain ⟨es, rfl, hne, hkey⟩ := hown.entries K
  have hN : es.length = N := hsz
  have h1 : (es.map (·.1)).length ≤ (L.map fun q => Lit.string (nmOf q)).length := by
    refine nodup_len _ _ (List.pairwise_map.2 hne) ?_
    intro x hx
    obtain ⟨p, hp, rfl⟩ := List.mem_map.1 hx
    have hhas : Maps.has (.map es : DataW Unit) p.1 = true := List.any_eq_true.2 ⟨p, hp, WideAt.sameKey_self (hkey p hp)⟩
    have := hl p.1
    rw [h.left_, hhas] at this
    simp only [Bool.true_and, Bool.not_eq_false'] at this
    obtain ⟨q, hq, he⟩ := List.any_eq_true.1 this
    exact List.mem_map.2 ⟨q, hq, WideAt.sameKey_eq he⟩
  have h2 : (L.map fun q => Lit.string (nmOf q)).length ≤ (es.map (·.1)).length := by
    refine nodup_len _ _ ?_ ?_
    · have := h.nodup
      refine List.pairwise_map.2 ((List.pairwise_map.1 this).imp ?_)
      intro a b hab e
      exact hab (Lit.string.inj e)
    · intro x hx
      obtain ⟨q, hq, rfl⟩ := List.mem_map.1 hx
      have := has_true_of_atKey (h.at_ q hq).2
      obtain ⟨p, hp, he⟩ := List.any_eq_true.1 this
      exact List.mem_map.2 ⟨p, hp, WideAt.sameKey_eq he⟩
  simp at h1 h2
  omega
end Go.Proofs.YtgiiiolnagddnaaMar
end
section
namespace Go.Proofs.YtgiiiolnagddnaaMar
open Go.Sort Go.Maps
set_option linter.unusedSimpArgs false
set_option linter.unusedVariables false
def cmpInt (a b : Int) : Int := if a < b then -1 else if b < a then 1 else 0
def cmpStr (a b : ByteArray) : Int := if Op.bytesLess a.toList b.toList = true then -1 else if Op.bytesLess b.toList a.toList = true then 1 else 0
def or3 (x y z : Int) : Int := if x ≠ 0 then x else if y ≠ 0 then y else z
def cfN (a b : Nm) : Int := or3 (cmpInt a.2.1 b.2.1) (cmpInt a.2.2 b.2.2) (cmpStr a.1 b.1)
def ltN (a b : Nm) : Prop := a.2.1 < b.2.1 ∨ (a.2.1 = b.2.1 ∧ (a.2.2 < b.2.2 ∨ (a.2.2 = b.2.2 ∧ nmOf a < nmOf b)))
theorem cmpStr_lt (a b : ByteArray) : cmpStr a b < 0 ↔ a.data.toList < b.data.toList := by
  unfold cmpStr
  rw [bytesLess_eq, bytesLess_eq, Lib.toList_data, Lib.toList_data]
  by_cases h1 : a.data.toList < b.data.toList
  · simp [h1]
  · by_cases h2 : b.data.toList < a.data.toList <;> simp [h1, h2]
theorem cfN_lt (a b : Nm) : cfN a b < 0 ↔ ltN a b := by
  have hs := cmpStr_lt a.1 b.1
  unfold cfN or3 cmpInt ltN
  rcases Int.lt_trichotomy a.2.1 b.2.1 with h | h | h
  · simp [h]
  · rcases Int.lt_trichotomy a.2.2 b.2.2 with k | k | k
    · simp [h, k]
    · simp [h, k, hs]
    · have : ¬ a.2.2 < b.2.2 := by omega
      have : ¬ a.2.2 = b.2.2 := by omega
      simp [h, *]
  · have : ¬ a.2.1 < b.2.1 := by omega
    have : ¬ a.2.1 = b.2.1 := by omega
    simp [*]
theorem tri (a b : List UInt8) : a < b ∨ a = b ∨ b < a := by
  by_cases h1 : a < b
  · exact .inl h1
  · by_cases h2 : b < a
    · exact .inr (.inr h2)
    · exact .inr (.inl (List.le_antisymm (List.not_lt.1 h2) (List.not_lt.1 h1)))
theorem ltN_tri (a b : Nm) : ltN a b ∨ (a.2 = b.2 ∧ nmOf a = nmOf b) ∨ ltN b a := by
  unfold ltN
  rcases Int.lt_trichotomy a.2.1 b.2.1 with h | h | h
  · exact .inl (.inl h)
  · rcases Int.lt_trichotomy a.2.2 b.2.2 with k | k | k
    · exact .inl (.inr ⟨h, .inl k⟩)
    · rcases tri (nmOf a) (nmOf b) with s | s | s
      · exact .inl (.inr ⟨h, .inr ⟨k, s⟩⟩)
      · exact .inr (.inl ⟨Prod.ext h k, s⟩)
      · exact .inr (.inr (.inr ⟨h.symm, .inr ⟨k.symm, s⟩⟩))
    · exact .inr (.inr (.inr ⟨h.symm, .inl k⟩))
  · exact .inr (.inr (.inl h))
theorem ltN_irrefl (a : Nm) : ¬ ltN a a := by
  unfold ltN
  rintro (h | ⟨_, h | ⟨_, h⟩⟩)
  · omega
  · omega
  · exact List.lt_irrefl _ h
theorem ltN_trans {a b c : Nm} (h1 : ltN a b) (h2 : ltN b c) : ltN a c := by
  unfold ltN at *
  rcases h1 with h1 | ⟨e1, h1⟩ <;> rcases h2 with h2 | ⟨e2, h2⟩
  · exact .inl (by omega)
  · exact .inl (by omega)
  · exact .inl (by omega)
  · refine .inr ⟨by omega, ?_⟩
    rcases h1 with h1 | ⟨f1, h1⟩ <;> rcases h2 with h2 | ⟨f2, h2⟩
    · exact .inl (by omega)
    · exact .inl (by omega)
    · exact .inl (by omega)
    · exact .inr ⟨by omega, List.lt_trans h1 h2⟩
theorem ltN_congr {a b c : Nm} (h : a.2 = b.2 ∧ nmOf a = nmOf b) : ltN a c ↔ ltN b c := by
  unfold ltN
  rw [h.1, h.2]
theorem ltN_asymm {a b : Nm} (h : ltN a b) : ¬ ltN b a := fun k => ltN_irrefl a (ltN_trans h k)
theorem swoN : SWO (fun x y : Nm => decide (cfN x y < 0)) where
  irrefl x := by simp only [cfN_lt, decide_eq_false_iff_not]; exact ltN_irrefl x
  trans x y z h1 h2 := by simp only [cfN_lt, decide_eq_true_eq] at *; exact ltN_trans h1 h2
  ntrans x y z h1 h2 := by
    simp only [cfN_lt, decide_eq_false_iff_not] at *
    intro h
    rcases ltN_tri x y with k | k | k
    · exact h1 k
    · exact h2 ((ltN_congr k).1 h)
    · exact h2 (ltN_trans k h)
theorem sorted_uniq : ∀ (a b : List Nm), a.Pairwise ltN → b.Pairwise ltN → (∀ q, q ∈ a ↔ q ∈ b) → a = b
  | [], [], _, _, _ => rfl
  | [], y :: b, _, _, h => absurd ((h y).2 (List.mem_cons_self ..)) (by simp)
  | x :: a, [], _, _, h => absurd ((h x).1 (List.mem_cons_self ..)) (by simp)
  | x :: a, y :: b, ha, hb, h => by
    have ha' := List.pairwise_cons.1 ha
    have hb' := List.pairwise_cons.1 hb
    have e : x = y := by
      rcases List.mem_cons.1 ((h x).1 (List.mem_cons_self ..)) with e | e
      · exact e
      · rcases List.mem_cons.1 ((h y).2 (List.mem_cons_self ..)) with f | f
        · exact f.symm
        · exact absurd (hb'.1 x e) (ltN_asymm (ha'.1 y f))
    subst e
    rw [sorted_uniq a b ha'.2 hb'.2 (fun q => ?_)]
    constructor
    · intro hq
      rcases List.mem_cons.1 ((h q).1 (List.mem_cons_of_mem _ hq)) with e | e
      · exact absurd (ha'.1 q hq) (e ▸ ltN_irrefl _)
      · exact e
    · intro hq
      rcases List.mem_cons.1 ((h q).2 (List.mem_cons_of_mem _ hq)) with e | e
      · exact absurd (hb'.1 q hq) (e ▸ ltN_irrefl _)
      · exact e
theorem strict_of {l : List Nm} (h : l.Pairwise (fun p q => ¬ ltN q p)) (hn : (l.map nmOf).Nodup) : l.Pairwise ltN := by
  have hn' := List.pairwise_map.1 hn
  refine (h.and hn').imp ?_
  rintro a b ⟨h1, h2⟩
  rcases ltN_tri a b with k | k | k
  · exact k
  · exact absurd k.2 h2
  · exact absurd k h1
theorem dat_inj {a b : Int × Int} (h : EM.dat a = EM.dat b) : a = b := by
  simp [EM] at h
  exact Prod.ext h.1 h.2
theorem nm_ext {p q : Nm} (h : nmOf p = nmOf q) (h2 : p.2 = q.2) : p = q := by
  obtain ⟨⟨⟨a⟩⟩, x⟩ := p
  obtain ⟨⟨⟨b⟩⟩, y⟩ := q
  simp only [nmOf] at h
  subst h
  subst h2
  rfl
def Says (D : DataW Unit) (m : List UInt8 → Option (Int × Int)) : Prop := ∀ x : List UInt8, x.length ≤ maxLen → match m x with
    | some a => ∀ z, D.atKey (.string x) z = EM.dat a
    | none => ∀ z, D.atKey (.string x) z = z
theorem SMap.says {W : World} {b N : Nat} {m : List UInt8 → Option (Int × Int)} (h : SMap Try.prog 9 EM W b m N) : ∃ D : DataW Unit, W.ownsMap Try.prog 9 EM.R b N D ∧ Maps.size D = N ∧ Says D m := by
  obtain ⟨D, h1, h2, h3⟩ := h
  refine ⟨D, h1, h2, fun x hx => ?_⟩
  have := h3 x hx
  cases hm : m x with
  | none => rw [hm] at this; exact this
  | some a => rw [hm] at this; exact this
theorem Trail.mem {m : List UInt8 → Option (Int × Int)} {D : DataW Unit} {L : List Nm} (hS : Says D m) (h : Trail D (fun _ => false) L) (q : Nm) : q ∈ L ↔ (q.1.size ≤ maxLen ∧ m (nmOf q) = some q.2) := by
  have key : ∀ p : Nm, p ∈ L → (p.1.size ≤ maxLen ∧ m (nmOf p) = some p.2) := by
    intro p hp
    obtain ⟨h1, h2⟩ := h.at_ p hp
    refine ⟨h1, ?_⟩
    have h3 := hS (nmOf p) (by simpa [nmOf] using h1)
    cases hm : m (nmOf p) with
    | none =>
      rw [hm] at h3
      have e1 := has_true_of_atKey h2
      have e2 := has_false_of_atKey h3
      rw [e1] at e2
      cases e2
    | some a =>
      rw [hm] at h3
      have := (h3 (EM.dat a)).symm.trans (h2 (EM.dat a))
      rw [dat_inj this]
  refine ⟨key q, fun ⟨h1, h2⟩ => ?_⟩
  have h3 := hS (nmOf q) (by simpa [nmOf] using h1)
  rw [h2] at h3
  have hh := has_true_of_atKey h3
  have hl := h.left_ (.string (nmOf q))
  rw [hh] at hl
  simp only [Bool.true_and] at hl
  have hl' : (L.any fun p => (Lit.string (nmOf p)).sameKey (.string (nmOf q))) = true := by
    cases hx : (L.any fun p => (Lit.string (nmOf p)).sameKey (.string (nmOf q))) with
    | true => rfl
    | false => rw [hx] at hl; cases hl
  obtain ⟨p, hp, he⟩ := List.any_eq_true.1 hl'
  rw [sameStr] at he
  have he := of_decide_eq_true he
  have := (key p hp).2
  rw [he, h2] at this
  have := nm_ext he (Option.some.inj this).symm
  rwa [← this]
end Go.Proofs.YtgiiiolnagddnaaMar
end
section
namespace Go.Proofs.YtgiiiolnagddnaaMar
open Go.RowKit Go.Maps Go.Lib
set_option linter.unusedSimpArgs false
set_option linter.unusedVariables false
theorem EMinv {v : Value} {y : DataW Unit × List MemPlace} (h : EM.R v = some y) : ∃ c, v = EM.val c := by
  cases v <;> simp [EM] at h
  rename_i cs
  cases cs with | mk l =>
  split at h
  · rename_i h'
    simp at h'
    subst h'
    exact ⟨(_, _), rfl⟩
  · cases h
def cells3 (q : Nm) : List Value := [.string q.1, .int .i64 q.2.1, .int .i64 q.2.2]
def flat3 (L : List Nm) : List Value := L.flatMap cells3
theorem flat3_len (L : List Nm) : (flat3 L).length = L.length * 3 := by
  induction L with
  | nil => rfl
  | cons q L ih => simp only [flat3, List.flatMap_cons, List.length_append, List.length_cons] at ih ⊢; rw [ih]; simp [cells3]; omega
theorem flat3_snoc (L : List Nm) (q : Nm) : flat3 (L ++ [q]) = flat3 L ++ cells3 q := by simp [flat3]
theorem info34 : ∃ i, Try.prog.info? 34 = some i ∧ i.zero = some (.agg #[.string ⟨#[]⟩, .int .i64 0, .int .i64 0]) ∧ i.size = 3 ∧ i.bytes = 32 := by
  have h : (Try.prog.info? 34).map (fun i => (i.zero, i.size, i.bytes)) = some (some (.agg #[.string ⟨#[]⟩, .int .i64 0, .int .i64 0]), 3, 32) := by kernel_rfl
  cases hi : Try.prog.info? 34 with
  | none => rw [hi] at h; cases h
  | some i =>
    rw [hi] at h
    simp at h
    exact ⟨i, rfl, h.1, h.2.1, h.2.2⟩
theorem row_ne {w : World} {base b r n : Nat} {v : Value} {k : Nat} {xs : List Value} {D : DataW Unit} {left : Lit → Bool} {cnt : Nat} (hrow : w.ownsRow base 34 3 v k xs) (hr : w.ranges Try.prog 9 EM.R b r n D left cnt) (hb : b < base) : some b ≠ v.ownBlock ∧ some r ≠ v.ownBlock := by
  rcases hrow.2 with ⟨rfl, _⟩ | ⟨g, cap, cur, rfl, hbase, hbl, _⟩
  · exact ⟨by simp [Value.ownBlock], by simp [Value.ownBlock]⟩
  · obtain ⟨es, clock, since, seen, c0, _, _, _, _, hit, _⟩ := hr
    refine ⟨fun e => ?_, fun e => ?_⟩
    · simp [Value.ownBlock] at e
      omega
    · simp [Value.ownBlock] at e
      subst e
      rw [hbl] at hit
      cases hit
theorem below_grown {B : Nat} {a w w' : World} {row : Option Nat} (h : Below B a w) (hB : B ≤ a.heap.size) (hg : w.grownBy w' row) (hr : ∀ j, row = some j → B ≤ j) : Below B a w' :=
  ⟨hg.os.trans h.os, hg.tape.trans h.tape, hg.output.trans h.output, Nat.le_trans h.size hg.size, fun i hi => (hg.block i (Nat.lt_of_lt_of_le (Nat.lt_of_lt_of_le hi hB) h.size) (fun e => by have := hr i e.symm; omega)).trans (h.block i hi)⟩
theorem row_zero {w : World} {base : Nat} {t : TypeId} {c : Nat} {v : Value} {k : Nat} {xs : List Value} (h : w.ownsRow base t c v k xs) (hk : k = 0) : ∃ p cap, v = .slice p 0 cap := by
  subst hk
  rcases h.2 with ⟨hnil, _⟩ | ⟨g, cap, cur, hv, _⟩
  · exact ⟨_, _, hnil⟩
  · exact ⟨_, _, hv⟩
def SortOk : Prop := ∀ (base : Nat) (g cap : Nat) (L : List Nm) (W : World), W.ownsRow base 34 3 (.slice (some ⟨g, 0, none⟩) L.length cap) L.length (flat3 L) → 0 < L.length → L.length ≤ 256 →
  Calls Try.prog 16 #[.slice (some ⟨g, 0, none⟩) L.length cap, .func (.func 17) #[] #[]] W fun e w' => e = .returned (.tuple #[]) ∧ ∃ zs : List Nm, zs.Perm L ∧ zs.Pairwise (fun p q => ¬ ltN q p) ∧ w'.ownsRow base 34 3 (.slice (some ⟨g, 0, none⟩) L.length cap) L.length (flat3 zs) ∧ Below base W w'
def SortNil : Prop := ∀ (W : World) (p : Option Addr) (cap : Nat), Calls Try.prog 16 #[.slice p 0 cap, .func (.func 17) #[] #[]] W fun e w' => e = .returned (.tuple #[]) ∧ w' = W
structure AllOf (m : List UInt8 → Option (Int × Int)) (N : Nat) (zs : List Nm) : Prop where
  len : zs.length = N
  sorted : zs.Pairwise ltN
  mem : ∀ q, q ∈ zs ↔ (q.1.size ≤ maxLen ∧ m (nmOf q) = some q.2)
theorem AllOf.uniq {m : List UInt8 → Option (Int × Int)} {N : Nat} {zs ys : List Nm} (h : AllOf m N zs) (k : AllOf m N ys) : ys = zs := sorted_uniq _ _ k.sorted h.sorted (fun q => (k.mem q).trans (h.mem q).symm)
theorem AllOf.of {m : List UInt8 → Option (Int × Int)} {D : DataW Unit} {L zs : List Nm} (hS : Says D m) (h : Trail D (fun _ => false) L) (hp : zs.Perm L) (hs : zs.Pairwise (fun p q => ¬ ltN q p)) : AllOf m L.length zs :=
  ⟨hp.length_eq, strict_of hs ((hp.map nmOf).nodup_iff.2 h.nodup), fun q => (hp.mem_iff).trans (h.mem hS q)⟩
set_option maxRecDepth 100000 in
set_option maxHeartbeats 1000000 in
theorem Marks_calls (HS : SortOk) (HZ : SortNil) {p b N : Nat} {tot : Int} {m : List UInt8 → Option (Int × Int)} (w : World) (h : BookAt w p b tot m N) (hN : N ≤ 256) : Calls Try.prog 11 #[.pointer (some ⟨p, 0, none⟩)] w fun e w' =>
    ∃ v zs, e = .returned v ∧ AllOf m N zs ∧ w'.ownsRow w.heap.size 34 3 v N (flat3 zs) ∧ Below w.heap.size w w' := by
  have K9 : Keyed Try.prog 9 := string_keyed Try.underlying9
  obtain ⟨i34, hi, hz0, hz1, hz2⟩ := info34
  have c1 := h.c1
  have hblt := h.2.lt
  obtain ⟨D, hown, hsz, hD⟩ := h.2.says
  have HD := Lib.hid hD
  clear hD
  go_enter Try.func11, Try.ntmps11
  go_wp2_with (first
    | (at_range; refine wpList_range_own _ rfl _ 52 rfl 9 57 K9 Try.underlying52 EM.R b N D rfl hown ?_; intro w0 hrg0 hg0 hs0)
    | go_in)
  go_frame
  go_loopw [3] (fun v wr => ∃ (left : Lit → Bool) (cnt : Nat) (L : List Nm), wr.ranges Try.prog 9 EM.R b w.heap.size N D left cnt ∧ wr.ownsRow w.heap.size 34 3 v L.length (flat3 L) ∧ Hid (Trail D left L) ∧ L.length + cnt ≤ N ∧ Hid (Below w.heap.size w wr))
    (fun _ wr => wr.rangeLeft b w.heap.size)
  case atStart =>
    refine ⟨_, _, [], hrg0, World.ownsRow_nil _ _ _ _, Trail.start D, by simp [hsz], ?_⟩
    exact below_grown (Below.refl _ w) (Nat.le_refl _) hg0 (fun j hj => by cases hj)
  case round =>
    obtain ⟨left, cnt, L, hrg, hrow, HT, hlen, HB⟩ := hrel
    go_wp2_with (first
      | (at_next; refine wpList_next_ranges _ rfl _ rfl 9 K9 EM.R Value.string EM.val (fun key kl hk => by obtain ⟨s, hs, _⟩ := keyOf_str_inv Try.underlying9 hk; exact ⟨s, hs⟩) (fun v y hv => EMinv hv) b w.heap.size N _ _ _ rfl hrg ?_ ?_)
      | go_in)
    · intro hc0 hl0
      have hL : L.length = N := HT.out.all hl0 hown K9 hsz
      have hl : left = fun _ => false := funext hl0
      subst hl
      by_cases c0 : L.length = 0
      · have hL0 : L = [] := List.length_eq_zero_iff.1 c0
        subst hL0
        obtain ⟨pp, cap, hvv⟩ := row_zero hrow rfl
        subst hvv
        subst hL
        have HR := Lib.hid hrow
        clear hrg HS hrow
        go_wp2_with (go_at_call 16; refine (HZ _ _ _).mono ?_; rintro e w' ⟨rfl, rfl⟩)
        go_ret
        exact ⟨_, [], rfl, AllOf.of HD.out HT.out (List.Perm.refl _) List.Pairwise.nil, HR.out, HB.out⟩
      rcases hrow.2 with ⟨hnil, hk0⟩ | ⟨g, cap, cur, hv, hbase, hb, h1, h2, h3, h4⟩
      · exact absurd hk0 c0
      · subst hv
        subst hL
        have hcall := HS _ g cap L wr hrow (by omega) hN
        clear hrg HS
        go_wp2_with (go_at_call 16; refine hcall.mono ?_; rintro e w' ⟨rfl, zs, hp, hR, hz, hbz⟩)
        go_ret
        exact ⟨_, zs, rfl, AllOf.of HD.out HT.out hp hR, hz, HB.out.trans hbz⟩
    · intro s c1 c2 kl y1 y2 w1 cnt1 hkey hlk hR hat hrg1 hlt hg1 hs1 hen
      obtain ⟨rfl, hsl⟩ := keyOf_str_eq Try.underlying9 hkey
      have hm0 : wr.rangeLeft b w.heap.size = cnt := hrg.left_eq
      have hy : (y1, y2) = (EM.dat (c1, c2), []) := by rw [EM.put] at hR; exact (Option.some.inj hR).symm
      have hT1 := HT.out.step hsl hlk (c := (c1, c2)) (fun z => (hat z).trans (congrArg Prod.fst hy))
      have HT1 := Lib.hid hT1
      have HB1 : Hid (Below w.heap.size w w1) := below_grown HB.out (Nat.le_refl _) hg1 (fun j hj => by cases hj; exact Nat.le_refl _)
      have hne := row_ne hrow hrg hblt
      have hrow1 := hrow.kept hg1 (Or.inr (fun e => hne.2 e.symm))
      have hval : EM.val (c1, c2) = .agg #[.int .i64 c1, .int .i64 c2] := rfl
      rw [hval] at hen ⊢
      clear hT1 HT hrow hrg hne HB hkey hlk hR hat hy hval HS h
      have hne1 := row_ne hrow1 hrg1 hblt
      have hbel := HB1.out
      have hz1' := hbel.size
      have hW2 : ((w1.alloc (.cells #[.int .i64 c1, .int .i64 c2] 57)).alloc (.cells #[.string s, .int .i64 c1, .int .i64 c2] 34)).heap[w1.heap.size + 1]? = some (.cells #[.string s, .int .i64 c1, .int .i64 c2] 34 (0, 0)) := by
        have := World.alloc_heap_new (w1.alloc (.cells #[.int .i64 c1, .int .i64 c2] 57)) (.cells #[.string s, .int .i64 c1, .int .i64 c2] 34)
        rwa [World.size_alloc] at this
      have hrow3 := (hrow1.alloc (.cells #[.int .i64 c1, .int .i64 c2] 57)).alloc (.cells #[.string s, .int .i64 c1, .int .i64 c2] 34)
      have hrg3 := (hrg1.alloc (.cells #[.int .i64 c1, .int .i64 c2] 57)).alloc (.cells #[.string s, .int .i64 c1, .int .i64 c2] 34)
      have hB3 : Hid (Below w.heap.size w ((w1.alloc (.cells #[.int .i64 c1, .int .i64 c2] 57)).alloc (.cells #[.string s, .int .i64 c1, .int .i64 c2] 34))) := (hbel.alloc hz1' _).alloc (by simp; omega) _
      have hcn : ∀ j u, (cells3 (s, (c1, c2)))[j]? = some u → ((w1.alloc (.cells #[.int .i64 c1, .int .i64 c2] 57)).alloc (.cells #[.string s, .int .i64 c1, .int .i64 c2] 34)).cell? ((⟨w1.heap.size + 1, 0, none⟩ : Addr).add j) = some u := by
        intro j u hj
        have e : (⟨w1.heap.size + 1, 0, none⟩ : Addr).add j = ⟨w1.heap.size + 1, j, none⟩ := by simp [Addr.add]; exact fun e => e.symm
        rw [e, cell_of hW2]
        match j, hj with
        | 0, hj => exact hj
        | 1, hj => exact hj
        | 2, hj => exact hj
      clear hs1 hg1 hne1 hbel hW2 hrow1 hrg1 HB1
      have HCN := Lib.hid hcn
      clear hcn
      go_wp2_with (first
        | (at_builtin; refine wpList_append_lies _ rfl _ _ 39 rfl w.heap.size 34 i34 (.agg #[.string ⟨#[]⟩, .int .i64 0, .int .i64 0]) 3 32 Try.underlying39 hi hz0 hz1 hz2 rfl (by decide) _ L.length (flat3 L) rfl hrow3 ⟨w1.heap.size + 1, 0, none⟩ 1 1 (cells3 (s, (c1, c2))) rfl rfl HCN.out ?c2 (by decide) ?c3 ?c4 ?c5 _ rfl ?_)
        | go_in)
      case c2 => intro u hu; simp [cells3] at hu; rcases hu with rfl | rfl | rfl <;> rfl
      case c3 => unfold maxLen; omega
      case c4 => omega
      case c5 => exact hB3.out.size
      · intro g cap w2 hown2 hgrow hloc hglt
        have hnn := row_ne hrow3 hrg3 hblt
        have hrg4 := hrg3.kept hgrow hnn.1 hnn.2
        have HB4 : Hid (Below w.heap.size w w2) := below_grown hB3.out (Nat.le_refl _) hgrow (fun j hj => (hrow3.lt j hj).1)
        have e1 : (L ++ [(s, (c1, c2))]).length = L.length + 1 := by simp
        have hrow4 : w2.ownsRow w.heap.size 34 3 (.slice (some ⟨g, 0, none⟩) (L.length + 1) cap) (L ++ [(s, (c1, c2))]).length (flat3 (L ++ [(s, (c1, c2))])) := by rw [flat3_snoc, e1]; exact hown2
        clear hown2 hgrow hloc hglt hrg3 hrow3 hB3 hnn HCN
        go_wp2
        go_roundw
        case rel => exact ⟨_, cnt1, L ++ [(s, (c1, c2))], hrg4, hrow4, HT1, by rw [e1]; omega, HB4⟩
        case measure => rw [hrg4.left_eq, hm0]; omega
end Go.Proofs.YtgiiiolnagddnaaMar
end
section
namespace Go.Proofs.YtgiiiolnagddnaaMar
open Go.RowKit Go.Maps Go.Lib
set_option linter.unusedSimpArgs false
set_option linter.unusedVariables false
theorem nanI_calls (x : Int) (w : World) : Calls Try.prog 25 #[.int .i64 x] w fun e w' => e = .returned (.bool false) ∧ w' = w := by
  go_enter Try.func25, Try.ntmps25
  go_wp2
  go_ret
  exact ⟨by simp, rfl⟩
theorem nanS_calls (x : ByteArray) (w : World) : Calls Try.prog 26 #[.string x] w fun e w' => e = .returned (.bool false) ∧ w' = w := by
  go_enter Try.func26, Try.ntmps26
  go_wp2
  go_ret
  exact ⟨by simp, rfl⟩
set_option maxRecDepth 100000 in
theorem cmpI_calls (a b : Int) (w : World) : Calls Try.prog 19 #[.int .i64 a, .int .i64 b] w fun e w' => e = .returned (.int .i64 (cmpInt a b)) ∧ w' = w := by
  unfold cmpInt
  by_cases c1 : a < b
  · have d1 : decide (a < b) = true := decide_eq_true c1
    simp only [if_pos c1]
    clear c1
    go_enter Try.func19, Try.ntmps19
    go_wp2_with (first | (go_at_call 25; refine (nanI_calls _ _).mono ?_; rintro e w' ⟨rfl, rfl⟩) | go_in)
    go_ret
    exact ⟨rfl, rfl⟩
  · have d1 : decide (a < b) = false := decide_eq_false c1
    simp only [if_neg c1]
    by_cases c2 : b < a
    · have d2 : decide (b < a) = true := decide_eq_true c2
      simp only [if_pos c2]
      clear c1 c2
      go_enter Try.func19, Try.ntmps19
      go_wp2_with (first | (go_at_call 25; refine (nanI_calls _ _).mono ?_; rintro e w' ⟨rfl, rfl⟩) | go_in)
      go_ret
      exact ⟨rfl, rfl⟩
    · have d2 : decide (b < a) = false := decide_eq_false c2
      simp only [if_neg c2]
      clear c1 c2
      go_enter Try.func19, Try.ntmps19
      go_wp2_with (first | (go_at_call 25; refine (nanI_calls _ _).mono ?_; rintro e w' ⟨rfl, rfl⟩) | go_in)
      go_ret
      exact ⟨rfl, rfl⟩
set_option maxRecDepth 100000 in
theorem cmpS_calls (a b : ByteArray) (w : World) : Calls Try.prog 20 #[.string a, .string b] w fun e w' => e = .returned (.int .i64 (cmpStr a b)) ∧ w' = w := by
  unfold cmpStr
  cases d1 : Op.bytesLess a.toList b.toList with
  | true =>
    simp only [if_true]
    go_enter Try.func20, Try.ntmps20
    go_wp2_with (first | (go_at_call 26; refine (nanS_calls _ _).mono ?_; rintro e w' ⟨rfl, rfl⟩) | go_in)
    all_goals (try (exfalso; simp_all only [Bool.false_eq_true, Bool.true_eq_false]; done))
    all_goals go_ret
    all_goals exact ⟨rfl, rfl⟩
  | false =>
    have dg : ∀ c : Bool, Op.bytesLess b.toList a.toList = c → (a.toList == b.toList) = !c := by
      intro c hc
      rw [bytesLess_eq] at d1 hc
      have d1' := of_decide_eq_false d1
      cases c with
      | true =>
        have := of_decide_eq_true hc
        refine beq_eq_false_iff_ne.2 (fun e => ?_)
        rw [e] at this
        exact List.lt_irrefl _ this
      | false =>
        have := of_decide_eq_false hc
        exact beq_iff_eq.2 (List.le_antisymm (List.not_lt.1 this) (List.not_lt.1 d1'))
    cases d2 : Op.bytesLess b.toList a.toList with
    | true =>
      have hg : (a.toList == b.toList) = false := dg true d2
      clear dg
      simp only [if_true, Bool.false_eq_true, if_false]
      go_enter Try.func20, Try.ntmps20
      go_wp2_with (first | (go_at_call 26; refine (nanS_calls _ _).mono ?_; rintro e w' ⟨rfl, rfl⟩) | go_in)
      all_goals go_ret
      all_goals exact ⟨rfl, rfl⟩
    | false =>
      have hg : (a.toList == b.toList) = true := dg false d2
      clear dg
      simp only [Bool.false_eq_true, if_false]
      go_enter Try.func20, Try.ntmps20
      go_wp2_with (first | (go_at_call 26; refine (nanS_calls _ _).mono ?_; rintro e w' ⟨rfl, rfl⟩) | go_in)
      all_goals go_ret
      all_goals exact ⟨rfl, rfl⟩
set_option maxRecDepth 100000 in
set_option maxHeartbeats 1000000 in
theorem or_calls (x y z : Int) (w : World) (g : Nat) (t : TypeId) (f : Nat × Nat) (h : w.heap[g]? = some (.cells #[.int .i64 x, .int .i64 y, .int .i64 z] t f)) : Calls Try.prog 18 #[.slice (some ⟨g, 0, none⟩) 3 3] w fun e w' => e = .returned (.int .i64 (or3 x y z)) ∧ w' = w := by
  have z0 : w.cell? ⟨g, 0, none⟩ = some (.int .i64 x) := cell_of h 0
  have z1 : w.cell? ⟨g, 1, none⟩ = some (.int .i64 y) := cell_of h 1
  have z2 : w.cell? ⟨g, 2, none⟩ = some (.int .i64 z) := cell_of h 2
  have HZ := Lib.hid (And.intro z0 (And.intro z1 z2))
  clear z0 z1 z2 h
  obtain ⟨r, hr⟩ : ∃ r, r = or3 x y z := ⟨_, rfl⟩
  rw [← hr]
  have HR := Lib.hid hr
  clear hr
  go_enter Try.func18, Try.ntmps18
  go_wp2
  go_loopw [8] (fun v8 wr => ∃ i : Nat, i ≤ 3 ∧ v8 = .int .i64 (i : Int) ∧ Hid ((1 ≤ i → x = 0) ∧ (2 ≤ i → y = 0) ∧ (3 ≤ i → z = 0)) ∧ wr = w) (fun v8 _ => 3 - (RowKit.intOf v8).toNat)
  case atStart => exact ⟨0, by omega, rfl, ⟨fun h => by omega, fun h => by omega, fun h => by omega⟩, by trivial⟩
  case round =>
    obtain ⟨i, hi, rfl, HI, rfl⟩ := hrel
    obtain ⟨z0, z1, z2⟩ := HZ.out
    rcases (by omega : i = 0 ∨ i = 1 ∨ i = 2 ∨ i = 3) with rfl | rfl | rfl | rfl
    · clear z1 z2
      by_cases c : x = 0
      · subst c
        go_wp2
        go_roundw
        case rel => exact ⟨1, by omega, rfl, ⟨fun _ => by trivial, fun h => by omega, fun h => by omega⟩, by trivial⟩
        case measure => decide
      · have c1 : (x == 0) = false := beq_eq_false_iff_ne.2 c
        have c2 : (x != 0) = true := by simp [c]
        have HC := Lib.hid c
        clear c
        go_wp2
        go_ret
        refine ⟨?_, rfl⟩
        rw [HR.out]
        simp [or3, HC.out]
    · have hx := HI.out.1 (by omega)
      subst hx
      clear z0 z2
      by_cases c : y = 0
      · subst c
        go_wp2
        go_roundw
        case rel => exact ⟨2, by omega, rfl, ⟨fun _ => by trivial, fun _ => by trivial, fun h => by omega⟩, by trivial⟩
        case measure => decide
      · have c1 : (y == 0) = false := beq_eq_false_iff_ne.2 c
        have c2 : (y != 0) = true := by simp [c]
        have HC := Lib.hid c
        clear c
        go_wp2
        go_ret
        refine ⟨?_, rfl⟩
        rw [HR.out]
        simp [or3, HC.out]
    · have hx := HI.out.1 (by omega)
      have hy := HI.out.2.1 (by omega)
      subst hx
      subst hy
      clear z0 z1
      by_cases c : z = 0
      · subst c
        go_wp2
        go_roundw
        case rel => exact ⟨3, by omega, rfl, ⟨fun _ => by trivial, fun _ => by trivial, fun _ => by trivial⟩, by trivial⟩
        case measure => decide
      · have c1 : (z == 0) = false := beq_eq_false_iff_ne.2 c
        have c2 : (z != 0) = true := by simp [c]
        have HC := Lib.hid c
        clear c
        go_wp2
        go_ret
        refine ⟨?_, rfl⟩
        rw [HR.out]
        simp [or3, HC.out]
    · have hx := HI.out.1 (by omega)
      have hy := HI.out.2.1 (by omega)
      have hz := HI.out.2.2 (by omega)
      subst hx
      subst hy
      subst hz
      clear z0 z1 z2
      go_wp2
      go_ret
      refine ⟨?_, rfl⟩
      rw [HR.out]
      rfl
theorem new3 (W : World) (o1 o2 : Obj) (v : Array Value) (t : TypeId) : (((W.alloc o1).alloc o2).alloc (.cells v t)).drew.heap[W.heap.size + 1 + 1]? = some (.cells v t (0, 0)) := by
  have := World.alloc_heap_new ((W.alloc o1).alloc o2) (.cells v t)
  rw [World.size_alloc, World.size_alloc] at this
  exact this
set_option maxRecDepth 100000 in
set_option maxHeartbeats 2000000 in
theorem closure17 (a b : Nm) (W : World) : Calls Try.prog 17 #[.agg #[.string a.1, .int .i64 a.2.1, .int .i64 a.2.2], .agg #[.string b.1, .int .i64 b.2.1, .int .i64 b.2.2]] W fun e w' => e = .returned (.int .i64 (cfN a b)) ∧ ∃ q os', w' = Go.Sort.grow (W.drewN q) os' := by
  obtain ⟨an, al, ah⟩ := a
  obtain ⟨bn, bl, bh⟩ := b
  unfold cfN
  have hrow := new3 W (.cells #[.string an, .int .i64 al, .int .i64 ah] 34) (.cells #[.string bn, .int .i64 bl, .int .i64 bh] 34) #[.int .i64 (cmpInt al bl), .int .i64 (cmpInt ah bh), .int .i64 (cmpStr an bn)] 3
  have hor := or_calls (cmpInt al bl) (cmpInt ah bh) (cmpStr an bn) _ _ _ _ hrow
  have HO := Lib.hid hor
  clear hrow hor
  go_enter Try.func17, Try.ntmps17
  go_wp2
  refine wp_region_still_tail 15 (by kernel_rfl) (by kernel_rfl) ?_
  simp only [List.take_succ_cons, List.take_zero, List.drop_succ_cons, List.drop_zero]
  change wpStill _ _ (World.drew _) _ _ _
  still_step
  still_step
  still_step
  still_step
  still_call (cmpI_calls _ _ _)
  still_step
  still_step
  still_step
  still_step
  still_call (cmpI_calls _ _ _)
  still_step
  still_step
  still_step
  still_step
  still_call (cmpS_calls _ _ _)
  refine wpStill_nil ?_
  change wpList _ _ _ _ _ (World.drew _)
  go_wp2_with (go_at_call 18; refine HO.out.mono ?_; rintro e w' ⟨rfl, rfl⟩)
  go_ret
  exact ⟨rfl, 1, _, by rw [Go.Sort.alloc_eq_grow, Go.Sort.alloc_eq_grow, Go.Sort.alloc_eq_grow, Go.Sort.grow_grow, Go.Sort.grow_grow]; rfl⟩
end Go.Proofs.YtgiiiolnagddnaaMar
end
section
namespace Go.Proofs
open Go.Shelf
def Try.sortR_ren : Go.Shelf.Ren := ⟨fun | 6 => 16 | 15 => 24 | 14 => 23 | 28 => 35 | 29 => 36 | 20 => 27 | 21 => 28 | 22 => 29 | 23 => 30 | 24 => 31 | 25 => 32 | 26 => 33 | 27 => 34 | 46 => 37 | 47 => 38 | 48 => 39 | 49 => 40 | 50 => 41 | 57 => 42 | n => n, fun | 22 => 39 | 24 => 34 | 25 => 62 | 3 => 3 | 39 => 71 | 0 => 0 | 53 => 83 | 55 => 85 | 4 => 4 | 46 => 76 | 45 => 75 | 50 => 80 | 5 => 5 | 9 => 9 | 66 => 86 | 70 => 90 | 76 => 92 | 77 => 93 | n => n, fun | n => n⟩
theorem Try.sortR : Go.Proofs.SlLaysF0.n6 Try.prog Try.sortR_ren := {
  mixed := by kernel_rfl
  f6 := ⟨Try.f16.name, by decide, Try.func16.trans (congrArg some (by kernel_rfl))⟩
  f14 := ⟨Try.f23.name, by decide, Try.func23.trans (congrArg some (by kernel_rfl))⟩
  f15 := Try.func24.trans (congrArg some (by kernel_rfl))
  f20 := ⟨Try.f27.name, by decide, Try.func27.trans (congrArg some (by kernel_rfl))⟩
  f21 := ⟨Try.f28.name, by decide, Try.func28.trans (congrArg some (by kernel_rfl))⟩
  f22 := ⟨Try.f29.name, by decide, Try.func29.trans (congrArg some (by kernel_rfl))⟩
  f23 := ⟨Try.f30.name, by decide, Try.func30.trans (congrArg some (by kernel_rfl))⟩
  f24 := ⟨Try.f31.name, by decide, Try.func31.trans (congrArg some (by kernel_rfl))⟩
  f25 := ⟨Try.f32.name, by decide, Try.func32.trans (congrArg some (by kernel_rfl))⟩
  f26 := ⟨Try.f33.name, by decide, Try.func33.trans (congrArg some (by kernel_rfl))⟩
  f27 := ⟨Try.f34.name, by decide, Try.func34.trans (congrArg some (by kernel_rfl))⟩
  f28 := Try.func35.trans (congrArg some (by kernel_rfl))
  f29 := Try.func36.trans (congrArg some (by kernel_rfl))
  f46 := ⟨Try.f37.name, by decide, Try.func37.trans (congrArg some (by kernel_rfl))⟩
  f47 := Try.func38.trans (congrArg some (by kernel_rfl))
  f48 := Try.func39.trans (congrArg some (by kernel_rfl))
  f49 := ⟨Try.f40.name, by decide, Try.func40.trans (congrArg some (by kernel_rfl))⟩
  f50 := ⟨Try.f41.name, by decide, Try.func41.trans (congrArg some (by kernel_rfl))⟩
  f57 := ⟨Try.f42.name, by decide, Try.func42.trans (congrArg some (by kernel_rfl))⟩
  t0 := Try.underlying0
  a0 := Try.isAgg0
  z0 := Try.sizeOf0
  v0 := Try.zeroValue0
  t3 := Try.underlying3
  a3 := Try.isAgg3
  z3 := Try.sizeOf3
  v3 := Try.zeroValue3
  t4 := Try.underlying4
  a4 := Try.isAgg4
  z4 := Try.sizeOf4
  v4 := Try.zeroValue4
  t5 := Try.underlying5
  a5 := Try.isAgg5
  z5 := Try.sizeOf5
  v5 := Try.zeroValue5
  t9 := Try.underlying9
  a9 := Try.isAgg9
  z9 := Try.sizeOf9
  v9 := Try.zeroValue9
  t22 := Try.underlying39
  a22 := Try.isAgg39
  z22 := Try.sizeOf39
  v22 := Try.zeroValue39
  t25 := Try.underlying62
  a25 := Try.isAgg62
  z25 := Try.sizeOf62
  v25 := Try.zeroValue62
  t39 := Try.underlying71
  a39 := Try.isAgg71
  z39 := Try.sizeOf71
  v39 := Try.zeroValue71
  t45 := Try.underlying75
  a45 := Try.isAgg75
  z45 := Try.sizeOf75
  v45 := Try.zeroValue75
  t46 := Try.underlying76
  a46 := Try.isAgg76
  z46 := Try.sizeOf76
  v46 := Try.zeroValue76
  t50 := Try.underlying80
  a50 := Try.isAgg80
  z50 := Try.sizeOf80
  v50 := Try.zeroValue80
  t53 := Try.underlying83
  a53 := Try.isAgg83
  z53 := Try.sizeOf83
  v53 := Try.zeroValue83
  t55 := Try.underlying85
  a55 := Try.isAgg85
  z55 := Try.sizeOf85
  v55 := Try.zeroValue85
  t66 := Try.underlying86
  a66 := Try.isAgg86
  z66 := Try.sizeOf86
  v66 := Try.zeroValue86
  t70 := Try.underlying90
  a70 := Try.isAgg90
  z70 := Try.sizeOf90
  v70 := Try.zeroValue90
  t76 := Try.underlying92
  a76 := Try.isAgg92
  z76 := Try.sizeOf92
  v76 := Try.zeroValue92
  t77 := Try.underlying93
  a77 := Try.isAgg93
  z77 := Try.sizeOf93
  v77 := Try.zeroValue93 }
end Go.Proofs
end
section
namespace Go.Proofs.YtgiiiolnagddnaaMar
open Go.RowKit Go.Maps Go.Lib Go.Sort
set_option linter.unusedSimpArgs false
set_option linter.unusedVariables false
theorem flat3_get (l : List Nm) (j : Nat) (hj : j < l.length) : (flat3 l)[j * 3]? = some (.string (l[j]).1) ∧ (flat3 l)[j * 3 + 1]? = some (.int .i64 (l[j]).2.1) ∧ (flat3 l)[j * 3 + 2]? = some (.int .i64 (l[j]).2.2) := by
  induction l generalizing j with
  | nil => simp at hj
  | cons r l ih =>
    cases j with
    | zero => exact ⟨rfl, rfl, rfl⟩
    | succ j =>
      have h := ih j (by simpa using hj)
      have e0 : flat3 (r :: l) = cells3 r ++ flat3 l := rfl
      rw [e0]
      have e : (j + 1) * 3 = j * 3 + 3 := by omega
      rw [e]
      exact h
theorem swoL : SWO (ltOf cfN) := swoN
theorem cmpN (blk off size : Nat) (w : World) : CmpLays Try.prog 17 #[] cells3 3 cfN blk off size w := fun _ _ _ _ x y => closure17 x y _
theorem flat_toList (d : Array Nm) : (flatK cells3 3 d).toList = flat3 d.toList := by
  apply List.ext_getElem?
  intro t
  by_cases ht : t < d.size * 3
  · have hj : t / 3 < d.size := by omega
    obtain ⟨g0, g1, g2⟩ := flat3_get d.toList (t / 3) (by simpa using hj)
    have hs : t < (flatK cells3 3 d).size := by rw [size_flatK]; exact ht
    have e1 : (flatK cells3 3 d).toList[t]? = some (flatK cells3 3 d)[t]! := by
      rw [Array.getElem?_toList, Array.getElem?_eq_getElem hs, getElem!_pos _ t hs]
    rw [e1, get_flatK cells3 3 d t ht, getElem!_pos d (t / 3) hj]
    have hv : d.toList[t / 3] = d[t / 3] := by simp
    rw [hv] at g0 g1 g2
    rcases (by omega : t % 3 = 0 ∨ t % 3 = 1 ∨ t % 3 = 2) with hm | hm | hm
    · rw [show t / 3 * 3 = t from by omega] at g0
      rw [hm, g0]; rfl
    · rw [show t / 3 * 3 + 1 = t from by omega] at g1
      rw [hm, g1]; rfl
    · rw [show t / 3 * 3 + 2 = t from by omega] at g2
      rw [hm, g2]; rfl
  · rw [List.getElem?_eq_none (by rw [Array.length_toList, size_flatK]; omega), List.getElem?_eq_none (by rw [flat3_len]; simp; omega)]
theorem put_take (F cur : Array Value) (h : F.size ≤ cur.size) : (putCells id 0 F cur).toList.take F.size = F.toList := by
  apply List.ext_getElem?
  intro t
  rw [List.getElem?_take]
  by_cases ht : t < F.size
  · rw [if_pos ht, Array.getElem?_toList, Array.getElem?_toList, Array.getElem?_eq_getElem ht]
    unfold putCells
    rw [Array.getElem?_mapIdx, Array.getElem?_eq_getElem (by omega)]
    simp [ht]
  · rw [if_neg ht, List.getElem?_eq_none (by rw [Array.length_toList]; omega)]
theorem sortNil : SortNil := fun W p cap => AnyF.slices_SortFunc_none { Try.sortR with } p cap _ W
theorem blk_lt {W : World} {g : Nat} {o : Obj} (h : W.heap[g]? = some o) : g < W.heap.size := (Array.getElem?_eq_some_iff.1 h).1
theorem sortOk : SortOk := by
  intro base g c L W hown _ hl
  rcases hown.2 with ⟨hv, _⟩ | ⟨g', cap, cur, hv, hbg, hh, hnc, hcm, hcs, htake⟩
  · cases hv
  injection hv with hA _ hc
  injection hA with hA
  injection hA with hA
  subst hA
  subst hc
  have hsz : L.toArray.size = L.length := by simp
  have hF : (flatK cells3 3 L.toArray).toList = flat3 L := by rw [flat_toList]
  have hH : HoldsK cells3 3 W g 0 L.toArray := by
    intro j hj
    rw [size_flatK, hsz] at hj
    refine ⟨?_, ?_⟩
    · have e1 : (flatK cells3 3 L.toArray)[j]! = cur[j]! := by
        have hj1 : j < (flatK cells3 3 L.toArray).size := by rw [size_flatK, hsz]; exact hj
        have hj2 : j < cur.size := by rw [hcs]; omega
        have e2 : (flatK cells3 3 L.toArray).toList[j]? = cur.toList[j]? := by
          rw [hF, ← htake, List.getElem?_take, if_pos hj]
        rw [Array.getElem?_toList, Array.getElem?_toList, Array.getElem?_eq_getElem hj1, Array.getElem?_eq_getElem hj2] at e2
        injection e2 with e2
        rw [getElem!_pos _ j hj1, getElem!_pos _ j hj2, e2]
      have hj2 : j < cur.size := by rw [hcs]; omega
      simp only [Nat.zero_add, World.cell?, hh, e1, id]
      rw [getElem!_pos _ j hj2]
      simp [hj2]
    · simp [World.frozen?, hh]
  have hcon := AnyQ.slices_SortFunc Try.sortR 3 Try.isAgg34 Try.sizeOf34 cells3 (fun _ => rfl) (fun x v hv => by simp [cells3] at hv; rcases hv with rfl | rfl | rfl <;> rfl) cfN swoL 17 #[] g 0 c L.toArray W (enters_of Try.func17 (by kernel_rfl) rfl) (cmpN g 0 L.toArray.size W) hH (blk_lt hh) (by omega)
  change Calls Try.prog 16 _ _ _ at hcon
  rw [hsz] at hcon
  refine hcon.mono ?_
  rintro e w' ⟨rfl, d', n, os, ⟨p1, _, p3⟩, hs, rfl⟩
  replace p1 : d'.size = L.length := p1.trans hsz
  have hzl : d'.toList.length = L.length := by rw [Array.length_toList, p1]
  refine ⟨rfl, d'.toList, ?_, ?_, ?_, ?_⟩
  · rw [Array.extract_eq_self_of_le (by omega), Array.extract_eq_self_of_le (by omega)] at p3
    exact p3
  · rw [List.pairwise_iff_getElem]
    intro i j hi hj hij
    simp only [Array.length_toList] at hi hj
    have := hs i j (Nat.zero_le _) hij (by omega)
    rw [getElem!_pos d' i hi, getElem!_pos d' j hj] at this
    unfold ltOf at this
    rw [decide_eq_false_iff_not, cfN_lt] at this
    simpa using this
  · refine ⟨by rw [flat3_len, hzl], .inr ⟨g, c, putCells id 0 (flatK cells3 3 d') cur, rfl, hbg, ?_, by omega, hcm, by simp [putCells, hcs], ?_⟩⟩
    · have hlt := blk_lt hh
      show ((W.heap.modify g (onCells (putCells id 0 (flatK cells3 3 d')))) ++ os)[g]? = _
      rw [Array.getElem?_append_left (by simpa using hlt), Array.getElem?_modify, if_pos rfl, hh]
      rfl
    · rw [← flat_toList, show L.length * 3 = (flatK cells3 3 d').size from by rw [size_flatK, p1]]
      exact put_take _ _ (by rw [size_flatK, p1, hcs]; omega)
  · have hlt := blk_lt hh
    refine ⟨rfl, rfl, rfl, ?_, fun k hk => ?_⟩
    · show W.heap.size ≤ ((W.heap.modify g (onCells (putCells id 0 (flatK cells3 3 d')))) ++ os).size
      simp
    · show ((W.heap.modify g (onCells (putCells id 0 (flatK cells3 3 d')))) ++ os)[k]? = _
      rw [Array.getElem?_append_left (by simp; omega), Array.getElem?_modify, if_neg (by omega)]
end Go.Proofs.YtgiiiolnagddnaaMar
end
section
namespace Go.Proofs.YtgiiiolnagddnaaMar
def tabOf (nm : Nat → List UInt8) (v : Nat → Int × Int) : Nat → List UInt8 → Option (Int × Int)
  | 0 => fun _ => none
  | n + 1 => fun y => if y = nm n then some (v n) else tabOf nm v n y
theorem tabOf_none {nm : Nat → List UInt8} {v : Nat → Int × Int} : ∀ {n : Nat} {y : List UInt8}, (∀ k, k < n → y ≠ nm k) → tabOf nm v n y = none
  | 0, _, _ => rfl
  | n + 1, y, h => by
    unfold tabOf
    rw [if_neg (h n (by omega))]
    exact tabOf_none (fun k hk => h k (by omega))
theorem tabOf_some {nm : Nat → List UInt8} {v : Nat → Int × Int} {y : List UInt8} {c : Int × Int} : ∀ {n : Nat}, tabOf nm v n y = some c → ∃ k, k < n ∧ y = nm k ∧ c = v k
  | 0, h => by cases h
  | n + 1, h => by
    unfold tabOf at h
    by_cases e : y = nm n
    · rw [if_pos e] at h
      exact ⟨n, by omega, e, (Option.some.inj h).symm⟩
    · rw [if_neg e] at h
      obtain ⟨k, h1, h2⟩ := tabOf_some h
      exact ⟨k, by omega, h2⟩
def nm3 (i : Nat) : List UInt8 := [UInt8.ofNat (97 + i % 7), UInt8.ofNat (48 + i % 10), UInt8.ofNat (97 + i / 7)]
theorem u8_inj {a b : Nat} (ha : a < 256) (hb : b < 256) (h : UInt8.ofNat a = UInt8.ofNat b) : a = b := by
  have := congrArg UInt8.toNat h
  simp at this
  omega
theorem u8_nat {a : Nat} (ha : a < 256) : (UInt8.ofNat a).toNat = a := by
  simp
  omega
theorem nm3_inj {i j : Nat} (hi : i < 60) (hj : j < 60) (h : nm3 i = nm3 j) : i = j := by
  unfold nm3 at h
  injection h with h1 h2
  injection h2 with h2 h3
  have := u8_inj (by omega) (by omega) h1
  have := u8_inj (by omega) (by omega) h2
  omega
theorem nm3_ok {i : Nat} (hi : i < 60) : nameB (nm3 i) = true := by
  have h1 : (UInt8.ofNat (97 + i % 7)).toNat = 97 + i % 7 := u8_nat (by omega)
  have h2 : (UInt8.ofNat (48 + i % 10)).toNat = 48 + i % 10 := u8_nat (by omega)
  have h3 : (UInt8.ofNat (97 + i / 7)).toNat = 97 + i / 7 := u8_nat (by omega)
  have g1 : okB (UInt8.ofNat (97 + i % 7)) = true := by unfold okB; rw [h1]; simp; omega
  have g2 : okB (UInt8.ofNat (48 + i % 10)) = true := by unfold okB; rw [h2]; simp; omega
  have g3 : okB (UInt8.ofNat (97 + i / 7)) = true := by unfold okB; rw [h3]; simp; omega
  unfold nameB nm3
  simp only [List.all_cons, List.all_nil, g1, g2, g3, List.length_cons, List.length_nil]
  rfl
end Go.Proofs.YtgiiiolnagddnaaMar
end
section
namespace Go.Proofs.YtgiiiolnagddnaaMar
open Go.RowKit Go.Maps
set_option linter.unusedSimpArgs false
set_option linter.unusedVariables false
theorem putE_ok {tot : Int} {m : List UInt8 → Option (Int × Int)} {N : Nat} {l : List UInt8} {lo hi : Int} (h : nameB l = true) (h2 : 0 ≤ lo ∧ lo < hi ∧ hi ≤ tot) (hm : m l = none) (hN : N < 256) : putE tot m N l lo hi = 0 := by
  have : ¬ (lo < 0 ∨ hi ≤ lo ∨ tot < hi) := by omega
  have : ¬ 256 ≤ N := by omega
  simp [putE, h, hm, *]
end Go.Proofs.YtgiiiolnagddnaaMar
end
section
namespace Go.Proofs.YtgiiiolnagddnaaMar
open Go.RowKit Go.Maps
set_option linter.unusedSimpArgs false
set_option linter.unusedVariables false
theorem row_slice {w : World} {base : Nat} {t : TypeId} {c : Nat} {v : Value} {k : Nat} {xs : List Value} (h : w.ownsRow base t c v k xs) : ∃ p cap, v = .slice p k cap := by
  rcases h.2 with ⟨hnil, h0⟩ | ⟨g, cap, cur, hv, _⟩
  · subst h0
    exact ⟨_, _, hnil⟩
  · exact ⟨_, _, hv⟩
end Go.Proofs.YtgiiiolnagddnaaMar
end
section
namespace Go.Proofs.YtgiiiolnagddnaaMar
open Go.RowKit Go.Maps
set_option linter.unusedSimpArgs false
set_option linter.unusedVariables false
theorem small64 {n : Int} (h1 : -2000000 ≤ n) (h2 : n ≤ 2000000) : wrap64 n = n := by
  unfold wrap64
  omega
theorem tmod_pick (k n : Int) (hn : 1 ≤ n) : (if k.tmod n < 0 then k.tmod n + n else k.tmod n) = k % n ∧ -n < k.tmod n ∧ k.tmod n < n := by
  have h0 := Int.emod_nonneg k (show n ≠ 0 by omega)
  have h1 := Int.emod_lt_of_pos k (show 0 < n by omega)
  have h2 : -n < k.tmod n := by
    have := Int.lt_tmod_of_pos k (show 0 < n by omega)
    exact this
  have h3 : k.tmod n < n := Int.tmod_lt_of_pos k (by omega)
  refine ⟨?_, h2, h3⟩
  have h4 := Int.tmod_eq_emod (a := k) (b := n)
  by_cases c : 0 ≤ k ∨ n ∣ k
  · rw [if_pos c] at h4
    rw [if_neg (by omega)]
    omega
  · rw [if_neg c] at h4
    have : (n.natAbs : Int) = n := by omega
    have h5 : k % n ≠ 0 := fun h => c (.inr (Int.dvd_of_emod_eq_zero h))
    rw [if_pos (by omega)]
    omega
set_option maxRecDepth 100000 in
theorem pick_calls (k n : Int) (hn : 1 ≤ n) (hn2 : n ≤ 1000) (w : World) : Calls Try.prog 12 #[.int .i64 k, .int .i64 n] w fun e w' => e = .returned (.int .i64 (k % n)) ∧ w' = w := by
  obtain ⟨h1, h2, h3⟩ := tmod_pick k n hn
  obtain ⟨r, hr⟩ : ∃ r, r = k % n := ⟨_, rfl⟩
  rw [← hr] at h1 ⊢
  obtain ⟨t, ht⟩ : ∃ t, k.tmod n = t := ⟨_, rfl⟩
  have n0 : (n == 0) = false := beq_eq_false_iff_ne.2 (by omega)
  have n0' : ¬ n = 0 := by omega
  rw [ht] at h1 h2 h3
  have w1 : IntKind.i64.wrap (k.tmod n) = t := by rw [ht]; exact (IntWalk.i64_left _).trans (small64 (by omega) (by omega))
  have w2 : wrap64 (k.tmod n) = t := by rw [ht]; exact small64 (by omega) (by omega)
  clear hr
  by_cases c : t < 0
  · have d : decide (t < 0) = true := decide_eq_true c
    rw [if_pos c] at h1
    subst h1
    go_enter Try.func12, Try.ntmps12
    go_wp2
    go_ret
    exact ⟨rfl, rfl⟩
  · have d : decide (t < 0) = false := decide_eq_false c
    rw [if_neg c] at h1
    subst h1
    go_enter Try.func12, Try.ntmps12
    go_wp2
    go_ret
    exact ⟨rfl, rfl⟩
def overB (lo hi : Int) (q : Nm) : Bool := decide (max q.2.1 lo < min q.2.2 hi)
set_option maxRecDepth 100000 in
theorem closure22 (q : Nm) (w : World) (A B : Nat) (lo hi : Int) (hA : w.cell? ⟨A, 0, none⟩ = some (.int .i64 lo)) (hB : w.cell? ⟨B, 0, none⟩ = some (.int .i64 hi)) (lA : A < w.heap.size) (lB : B < w.heap.size) :
    Calls Try.prog 22 #[.agg #[.string q.1, .int .i64 q.2.1, .int .i64 q.2.2], .pointer (some ⟨A, 0, none⟩), .pointer (some ⟨B, 0, none⟩)] w fun e w' => e = .returned (.bool (overB lo hi q)) ∧ w' = w.alloc (.cells #[.string q.1, .int .i64 q.2.1, .int .i64 q.2.2] 34) := by
  obtain ⟨s, a, b⟩ := q
  have x0 : (w.alloc (.cells #[.string s, .int .i64 a, .int .i64 b] 34)).cell? ⟨A, 0, none⟩ = some (.int .i64 lo) := by
    rw [World.cell?, Below.heap_alloc _ _ _ lA]; exact hA
  have x1 : (w.alloc (.cells #[.string s, .int .i64 a, .int .i64 b] 34)).cell? ⟨B, 0, none⟩ = some (.int .i64 hi) := by
    rw [World.cell?, Below.heap_alloc _ _ _ lB]; exact hB
  clear hA hB
  unfold overB
  go_enter Try.func22, Try.ntmps22
  go_wp2
  go_ret
  exact ⟨rfl, rfl⟩
end Go.Proofs.YtgiiiolnagddnaaMar
end
section
namespace Go.Proofs.YtgiiiolnagddnaaMar
open Go.RowKit Go.Maps Go.Lib
set_option linter.unusedSimpArgs false
set_option linter.unusedVariables false
theorem info9 : ∃ i, Try.prog.info? 9 = some i ∧ i.zero = some (.string ⟨#[]⟩) ∧ i.size = 1 ∧ i.bytes = 16 := by
  have h : (Try.prog.info? 9).map (fun i => (i.zero, i.size, i.bytes)) = some (some (.string ⟨#[]⟩), 1, 16) := by kernel_rfl
  cases hi : Try.prog.info? 9 with
  | none => rw [hi] at h; cases h
  | some i =>
    rw [hi] at h
    simp at h
    exact ⟨i, rfl, h.1, h.2.1, h.2.2⟩
theorem row_mark {w : World} {base N : Nat} {v : Value} {zs : List Nm} (h : w.ownsRow base 34 3 v N (flat3 zs)) (hl : zs.length = N) {i : Nat} (hi : i < N) : ∃ g cap cur, v = .slice (some ⟨g, 0, none⟩) N cap ∧ w.heap[g]? = some (.cells cur 34 (0, 0)) ∧
    cur[i * 3]? = some (.string (zs[i]'(by omega)).1) ∧ cur[i * 3 + 1]? = some (.int .i64 (zs[i]'(by omega)).2.1) ∧ cur[i * 3 + 2]? = some (.int .i64 (zs[i]'(by omega)).2.2) := by
  subst hl
  rcases h.2 with ⟨_, h0⟩ | ⟨g, cap, cur, hv, hbg, hh, hnc, hcm, hcs, htake⟩
  · omega
  obtain ⟨g0, g1, g2⟩ := flat3_get zs i hi
  have key : ∀ (t : Nat) (x : Value), t < zs.length * 3 → (flat3 zs)[t]? = some x → cur[t]? = some x := by
    intro t x ht hx
    rw [← htake, List.getElem?_take, if_pos ht, Array.getElem?_toList] at hx
    exact hx
  exact ⟨g, cap, cur, hv, hh, key _ _ (by omega) g0, key _ _ (by omega) g1, key _ _ (by omega) g2⟩
def namesOf (lo hi : Int) (zs : List Nm) : List Value := (zs.filter (overB lo hi)).map fun q => .string q.1
theorem namesOf_yes {lo hi : Int} {zs : List Nm} {i : Nat} (hi' : i < zs.length) (h : overB lo hi zs[i] = true) : namesOf lo hi (zs.take (i + 1)) = namesOf lo hi (zs.take i) ++ [.string zs[i].1] := by
  unfold namesOf
  rw [List.take_add_one, List.getElem?_eq_getElem hi', List.filter_append, List.map_append]
  simp [h]
theorem namesOf_no {lo hi : Int} {zs : List Nm} {i : Nat} (hi' : i < zs.length) (h : overB lo hi zs[i] = false) : namesOf lo hi (zs.take (i + 1)) = namesOf lo hi (zs.take i) := by
  unfold namesOf
  rw [List.take_add_one, List.getElem?_eq_getElem hi', List.filter_append, List.map_append]
  simp [h]
theorem namesOf_len {lo hi : Int} {zs : List Nm} : (namesOf lo hi zs).length ≤ zs.length := by
  unfold namesOf
  rw [List.length_map]
  exact List.length_filter_le _ _
set_option maxRecDepth 100000 in
set_option maxHeartbeats 1000000 in
theorem named_calls {p b N : Nat} {tot : Int} {m : List UInt8 → Option (Int × Int)} (w : World) (h : BookAt w p b tot m N) (hN : N ≤ 256) (A B : Nat) (lo hi : Int) (hA : w.cell? ⟨A, 0, none⟩ = some (.int .i64 lo)) (hB : w.cell? ⟨B, 0, none⟩ = some (.int .i64 hi)) (lA : A < w.heap.size) (lB : B < w.heap.size) :
    Calls Try.prog 21 #[.pointer (some ⟨p, 0, none⟩), .func (.func 22) #[] #[.pointer (some ⟨A, 0, none⟩), .pointer (some ⟨B, 0, none⟩)]] w fun e w' => ∃ v zs, e = .returned v ∧ AllOf m N zs ∧ w'.ownsRow w.heap.size 9 1 v (namesOf lo hi zs).length (namesOf lo hi zs) ∧ Below w.heap.size w w' := by
  have hM := Marks_calls sortOk sortNil w h hN
  obtain ⟨i9, hi0, hz0, hz1, hz2⟩ := info9
  have HLA := Lib.hid lA
  have HLB := Lib.hid lB
  have HA := Lib.hid hA
  have HB := Lib.hid hB
  clear hA hB lA lB
  go_enter Try.func21, Try.ntmps21
  go_wp2_with (go_at_call 11; refine hM.mono ?_; rintro e w1 ⟨v, zs, rfl, hAll, hrow, hb1⟩; obtain ⟨pp, cap, hv⟩ := row_slice hrow; subst hv)
  have HAll := Lib.hid hAll
  have HRow := Lib.hid hrow
  have HB1 := Lib.hid hb1
  clear hM hAll hrow hb1 h
  go_loopw [5, 11] (fun v5 v11 wr => ∃ i : Nat, i ≤ N ∧ v11 = .int .i64 (i : Int) ∧ wr.ownsRow w1.heap.size 9 1 v5 (namesOf lo hi (zs.take i)).length (namesOf lo hi (zs.take i)) ∧ Hid (Below w1.heap.size w1 wr)) (fun _ v11 _ => N - (intOf v11).toNat)
  case atStart => exact ⟨0, by omega, rfl, World.ownsRow_nil _ _ _ _, Below.refl _ _⟩
  case round =>
    obtain ⟨i, hi', rfl, hown, HBr⟩ := hrel
    have ib : (i : Int) ≤ 256 := by omega
    by_cases c : i < N
    · have d1 : decide (i < N) = true := decide_eq_true c
      have p0 : (0 ≤ (i : Int)) = True := eq_true (by omega)
      have p1 : ((i : Int) < (N : Int)) = True := eq_true (by omega)
      have hl := HAll.out.len
      obtain ⟨g, cap', cur, hv, hh, x0, x1, x2⟩ := row_mark HRow.out hl c
      injection hv with hv _ hc
      subst hv
      subst hc
      have hh2 := (HBr.out.block g (Array.getElem?_eq_some_iff.1 hh).1).trans hh
      have y0 : wr.cell? ⟨g, i * 3, none⟩ = _ := (cell_of hh2 (i * 3)).trans x0
      have y1 : wr.cell? ⟨g, i * 3 + 1, none⟩ = _ := (cell_of hh2 (i * 3 + 1)).trans x1
      have y2 : wr.cell? ⟨g, i * 3 + 2, none⟩ = _ := (cell_of hh2 (i * 3 + 2)).trans x2
      clear hh hh2 x0 x1 x2
      have hyes := namesOf_yes (lo := lo) (hi := hi) (zs := zs) (i := i) (by omega)
      have hno := namesOf_no (lo := lo) (hi := hi) (zs := zs) (i := i) (by omega)
      have hlen : (namesOf lo hi (zs.take i)).length ≤ i := Nat.le_trans namesOf_len (by simp; omega)
      obtain ⟨⟨s, c1, c2⟩, hq⟩ : ∃ q, zs[i] = q := ⟨_, rfl⟩
      rw [hq] at y0 y1 y2 hyes hno
      dsimp only at y0 y1 y2 hyes
      have b1 := HB1.out.size
      have b2 := HBr.out.size
      have lA : A < wr.heap.size := by have := HLA.out; omega
      have lB : B < wr.heap.size := by have := HLB.out; omega
      have kA : wr.cell? ⟨A, 0, none⟩ = some (.int .i64 lo) := by
        have e := (HBr.out.block A (by have := HLA.out; omega)).trans (HB1.out.block A HLA.out)
        have := HA.out
        simp only [World.cell?] at this ⊢
        rw [e]; exact this
      have kB : wr.cell? ⟨B, 0, none⟩ = some (.int .i64 hi) := by
        have e := (HBr.out.block B (by have := HLB.out; omega)).trans (HB1.out.block B HLB.out)
        have := HB.out
        simp only [World.cell?] at this ⊢
        rw [e]; exact this
      have k2A : (wr.alloc (.cells #[.string s, .int .i64 c1, .int .i64 c2] 34)).cell? ⟨A, 0, none⟩ = some (.int .i64 lo) := by
        rw [World.cell?, Below.heap_alloc _ _ _ lA]; exact kA
      have k2B : (wr.alloc (.cells #[.string s, .int .i64 c1, .int .i64 c2] 34)).cell? ⟨B, 0, none⟩ = some (.int .i64 hi) := by
        rw [World.cell?, Below.heap_alloc _ _ _ lB]; exact kB
      have hcl := closure22 (s, c1, c2) (wr.alloc (.cells #[.string s, .int .i64 c1, .int .i64 c2] 34)) A B lo hi k2A k2B (by simp; omega) (by simp; omega)
      dsimp only at hcl
      have HCL := Lib.hid hcl
      clear hcl k2A k2B kA kB lA lB hq
      have hrow3 := ((hown.alloc (.cells #[.string s, .int .i64 c1, .int .i64 c2] 34)).alloc (.cells #[.string s, .int .i64 c1, .int .i64 c2] 34)).alloc (.cells #[.string s] 9)
      have hB2 : Below w1.heap.size w1 ((wr.alloc (.cells #[.string s, .int .i64 c1, .int .i64 c2] 34)).alloc (.cells #[.string s, .int .i64 c1, .int .i64 c2] 34)) := (HBr.out.alloc b2 _).alloc (by simp; omega) _
      have hB3 := hB2.alloc (by simp; omega) (.cells #[.string s] 9)
      have hW3 : (((wr.alloc (.cells #[.string s, .int .i64 c1, .int .i64 c2] 34)).alloc (.cells #[.string s, .int .i64 c1, .int .i64 c2] 34)).alloc (.cells #[.string s] 9)).heap[wr.heap.size + 1 + 1]? = some (.cells #[.string s] 9 (0, 0)) := by
        have := World.alloc_heap_new ((wr.alloc (.cells #[.string s, .int .i64 c1, .int .i64 c2] 34)).alloc (.cells #[.string s, .int .i64 c1, .int .i64 c2] 34)) (.cells #[.string s] 9)
        rwa [World.size_alloc, World.size_alloc] at this
      have hcn : ∀ j u, ([Value.string s] : List Value)[j]? = some u → (((wr.alloc (.cells #[.string s, .int .i64 c1, .int .i64 c2] 34)).alloc (.cells #[.string s, .int .i64 c1, .int .i64 c2] 34)).alloc (.cells #[.string s] 9)).cell? ((⟨wr.heap.size + 1 + 1, 0, none⟩ : Addr).add j) = some u := by
        intro j u hj
        have e : (⟨wr.heap.size + 1 + 1, 0, none⟩ : Addr).add j = ⟨wr.heap.size + 1 + 1, j, none⟩ := by simp [Addr.add]; exact fun e => e.symm
        rw [e, cell_of hW3]
        match j, hj with
        | 0, hj => exact hj
      have HCN := Lib.hid hcn
      have HB2 := Lib.hid hB2
      have HB3 := Lib.hid hB3
      have HO := Lib.hid hown
      clear hcn hW3 hB2 hB3 b1 b2 hown
      cases ho : overB lo hi (s, c1, c2) with
      | true =>
        have hy := Lib.hid (hyes ho)
        rw [ho] at HCL
        clear hyes hno ho
        go_wp2_with (first
          | (go_at_call 22; refine HCL.out.mono ?_; rintro e w' ⟨rfl, rfl⟩)
          | (at_builtin; refine wpList_append_lies _ rfl _ _ 46 rfl w1.heap.size 9 i9 (.string ⟨#[]⟩) 1 16 Try.underlying46 hi0 hz0 hz1 hz2 rfl (by decide) _ _ (namesOf lo hi (zs.take i)) rfl hrow3 ⟨wr.heap.size + 1 + 1, 0, none⟩ 1 1 [Value.string s] rfl rfl HCN.out ?c2 (by decide) ?c3 ?c4 ?c5 _ rfl ?_)
          | go_in)
        case c2 => intro u hu; simp at hu; rcases hu with rfl; rfl
        case c3 => unfold maxLen; omega
        case c4 => omega
        case c5 => exact HB3.out.size
        · intro g' cap'' w2 hown2 hgrow hloc hglt
          have HB4 : Hid (Below w1.heap.size w1 w2) := below_grown HB3.out (Nat.le_refl _) hgrow (fun j hj => (hrow3.lt j hj).1)
          have HW : Hid (w2.ownsRow w1.heap.size 9 1 (.slice (some ⟨g', 0, none⟩) ((namesOf lo hi (zs.take i)).length + 1) cap'') (namesOf lo hi (zs.take (i + 1))).length (namesOf lo hi (zs.take (i + 1)))) := by
            rw [hy.out, List.length_append]
            exact hown2
          clear hown2 hgrow hloc hglt hrow3
          go_wp2
          go_roundw
          case rel => exact ⟨i + 1, c, by go_num, HW.out, HB4⟩
          case measure => simp [intOf]; omega
      | false =>
        have hy := Lib.hid (hno ho)
        rw [ho] at HCL
        clear hyes hno ho hrow3
        go_wp2_with (first
          | (go_at_call 22; refine HCL.out.mono ?_; rintro e w' ⟨rfl, rfl⟩)
          | go_in)
        go_roundw
        case rel => exact ⟨i + 1, c, by go_num, by rw [hy.out]; exact (HO.out.alloc _).alloc _, HB2⟩
        case measure => simp [intOf]; omega
    · obtain rfl : i = N := by omega
      have d1 : decide (i < i) = false := decide_eq_false c
      have ht : zs.take i = zs := List.take_of_length_le (by rw [HAll.out.len]; exact Nat.le_refl _)
      rw [ht] at hown
      have HO := Lib.hid hown
      clear hown ht c hi'
      go_wp2_with fail
      go_ret
      exact ⟨_, zs, rfl, HAll.out, HO.out.mono HB1.out.size, HB1.out.trans (HBr.out.mono HB1.out.size)⟩
end Go.Proofs.YtgiiiolnagddnaaMar
end
section
namespace Go.Proofs.YtgiiiolnagddnaaMar
open Go.RowKit Go.Maps
set_option linter.unusedSimpArgs false
set_option linter.unusedVariables false
theorem boxes (w : World) (lo hi : Int) : ((w.alloc (.cells #[.int .i64 lo] 3)).alloc (.cells #[.int .i64 hi] 3)).cell? ⟨w.heap.size, 0, none⟩ = some (.int .i64 lo) ∧ ((w.alloc (.cells #[.int .i64 lo] 3)).alloc (.cells #[.int .i64 hi] 3)).cell? ⟨w.heap.size + 1, 0, none⟩ = some (.int .i64 hi) := by
  have h0 := World.alloc_heap_new w (.cells #[.int .i64 lo] 3)
  have h1 := World.alloc_heap_new (w.alloc (.cells #[.int .i64 lo] 3)) (.cells #[.int .i64 hi] 3)
  rw [World.size_alloc] at h1
  have h2 := (Below.heap_alloc (w.alloc (.cells #[.int .i64 lo] 3)) (.cells #[.int .i64 hi] 3) w.heap.size (by simp)).trans h0
  exact ⟨cell_of h2 0, cell_of h1 0⟩
set_option maxRecDepth 100000 in
set_option maxHeartbeats 1000000 in
theorem Over_no {p b N : Nat} {tot : Int} {m : List UInt8 → Option (Int × Int)} (w : World) (h : BookAt w p b tot m N) (lo hi : Int) (hx : ¬ (0 ≤ lo ∧ lo ≤ hi ∧ hi ≤ tot)) :
    Calls Try.prog 13 #[.pointer (some ⟨p, 0, none⟩), .int .i64 lo, .int .i64 hi] w fun e w' => e = .returned (.tuple #[.slice none 0 0, .int .i64 12]) ∧ Below w.heap.size w w' := by
  obtain ⟨x0, x1⟩ := boxes w lo hi
  have hb : Below w.heap.size w ((w.alloc (.cells #[.int .i64 lo] 3)).alloc (.cells #[.int .i64 hi] 3)) := ((Below.refl _ w).alloc (Nat.le_refl _) _).alloc (by simp) _
  have c0 := (h.below hb).c0
  have HB := Lib.hid hb
  clear h hb
  by_cases c1 : lo < 0
  · have d1 : decide (lo < 0) = true := decide_eq_true c1
    go_enter Try.func13, Try.ntmps13
    go_wp2
    go_quiet (fail)
    rename_i nq
    have hq : Below ((w.alloc (.cells #[.int .i64 lo] 3)).alloc (.cells #[.int .i64 hi] 3)).heap.size ((w.alloc (.cells #[.int .i64 lo] 3)).alloc (.cells #[.int .i64 hi] 3)) (((w.alloc (.cells #[.int .i64 lo] 3)).alloc (.cells #[.int .i64 hi] 3)).drewN nq) := ⟨rfl, rfl, rfl, Nat.le_refl _, fun k _ => rfl⟩
    go_wp2
    go_ret2
    exact ⟨rfl, HB.out.trans (hq.mono HB.out.size)⟩
  · have d1 : decide (lo < 0) = false := decide_eq_false c1
    by_cases c2 : hi < lo
    · have d2 : decide (hi < lo) = true := decide_eq_true c2
      go_enter Try.func13, Try.ntmps13
      go_wp2
      go_quiet (fail)
      rename_i nq
      have hq : Below ((w.alloc (.cells #[.int .i64 lo] 3)).alloc (.cells #[.int .i64 hi] 3)).heap.size ((w.alloc (.cells #[.int .i64 lo] 3)).alloc (.cells #[.int .i64 hi] 3)) (((w.alloc (.cells #[.int .i64 lo] 3)).alloc (.cells #[.int .i64 hi] 3)).drewN nq) := ⟨rfl, rfl, rfl, Nat.le_refl _, fun k _ => rfl⟩
      go_wp2
      go_ret2
      exact ⟨rfl, HB.out.trans (hq.mono HB.out.size)⟩
    · have d2 : decide (hi < lo) = false := decide_eq_false c2
      have c3 : tot < hi := by omega
      have d3 : decide (tot < hi) = true := decide_eq_true c3
      go_enter Try.func13, Try.ntmps13
      go_wp2
      go_quiet (fail)
      rename_i nq
      have hq : Below ((w.alloc (.cells #[.int .i64 lo] 3)).alloc (.cells #[.int .i64 hi] 3)).heap.size ((w.alloc (.cells #[.int .i64 lo] 3)).alloc (.cells #[.int .i64 hi] 3)) (((w.alloc (.cells #[.int .i64 lo] 3)).alloc (.cells #[.int .i64 hi] 3)).drewN nq) := ⟨rfl, rfl, rfl, Nat.le_refl _, fun k _ => rfl⟩
      go_wp2
      go_ret2
      exact ⟨rfl, HB.out.trans (hq.mono HB.out.size)⟩
set_option maxRecDepth 100000 in
set_option maxHeartbeats 1000000 in
theorem Over_yes {p b N : Nat} {tot : Int} {m : List UInt8 → Option (Int × Int)} (w : World) (h : BookAt w p b tot m N) (hN : N ≤ 256) (lo hi : Int) (h1 : 0 ≤ lo) (h2 : lo ≤ hi) (h3 : hi ≤ tot) :
    Calls Try.prog 13 #[.pointer (some ⟨p, 0, none⟩), .int .i64 lo, .int .i64 hi] w fun e w' => ∃ v zs, e = .returned (.tuple #[v, .int .i64 0]) ∧ AllOf m N zs ∧ w'.ownsRow w.heap.size 9 1 v (namesOf lo hi zs).length (namesOf lo hi zs) ∧ Below w.heap.size w w' := by
  obtain ⟨x0, x1⟩ := boxes w lo hi
  have hb : Below w.heap.size w ((w.alloc (.cells #[.int .i64 lo] 3)).alloc (.cells #[.int .i64 hi] 3)) := ((Below.refl _ w).alloc (Nat.le_refl _) _).alloc (by simp) _
  have c0 := (h.below hb).c0
  have HB := Lib.hid hb
  have HH := Lib.hid h
  clear h hb
  have d1 : decide (lo < 0) = false := decide_eq_false (by omega)
  have d2 : decide (hi < lo) = false := decide_eq_false (by omega)
  have d3 : decide (tot < hi) = false := decide_eq_false (by omega)
  go_enter Try.func13, Try.ntmps13
  go_wp2
  go_quiet (fail)
  rename_i nq
  have hq : Below ((w.alloc (.cells #[.int .i64 lo] 3)).alloc (.cells #[.int .i64 hi] 3)).heap.size ((w.alloc (.cells #[.int .i64 lo] 3)).alloc (.cells #[.int .i64 hi] 3)) (((w.alloc (.cells #[.int .i64 lo] 3)).alloc (.cells #[.int .i64 hi] 3)).drewN nq) := ⟨rfl, rfl, rfl, Nat.le_refl _, fun k _ => rfl⟩
  have hb2 := HB.out.trans (hq.mono HB.out.size)
  have hsz : w.heap.size + 1 + 1 = (((w.alloc (.cells #[.int .i64 lo] 3)).alloc (.cells #[.int .i64 hi] 3)).drewN nq).heap.size := by
    show w.heap.size + 1 + 1 = ((w.alloc (.cells #[.int .i64 lo] 3)).alloc (.cells #[.int .i64 hi] 3)).heap.size
    simp
  have x0' : (((w.alloc (.cells #[.int .i64 lo] 3)).alloc (.cells #[.int .i64 hi] 3)).drewN nq).cell? ⟨w.heap.size, 0, none⟩ = some (.int .i64 lo) := x0
  have x1' : (((w.alloc (.cells #[.int .i64 lo] 3)).alloc (.cells #[.int .i64 hi] 3)).drewN nq).cell? ⟨w.heap.size + 1, 0, none⟩ = some (.int .i64 hi) := x1
  have hn := named_calls _ (HH.out.below hb2) hN w.heap.size (w.heap.size + 1) lo hi x0' x1' (by rw [← hsz]; omega) (by rw [← hsz]; omega)
  have HN := Lib.hid hn
  have HB2 := Lib.hid hb2
  clear hq hb2 hsz x0' x1' hn
  go_wp2_with (go_at_call 21; refine HN.out.mono ?_; rintro e w2 ⟨v, zs, rfl, hA, hr, hb⟩; have hA := Lib.hid hA; have hr := Lib.hid hr; have hb := Lib.hid hb)
  go_ret2
  exact ⟨v, zs, rfl, hA.out, hr.out.mono HB2.out.size, HB2.out.trans (hb.out.mono HB2.out.size)⟩
end Go.Proofs.YtgiiiolnagddnaaMar
end
section
namespace Go.Proofs.YtgiiiolnagddnaaR
open Go.RowKit Go.Proofs.YtgiiiolnagddnaaW.PrintWords
theorem list_of {α : Type} {p : Nat → α → Prop} : ∀ (n : Nat), (∀ i, i < n → ∃ y, p i y) → ∃ ys : List α, ys.length = n ∧ ∀ i y, ys[i]? = some y → p i y
  | 0, _ => ⟨[], rfl, fun i y h => by simp at h⟩
  | n + 1, h => by
    obtain ⟨ys, hl, hp⟩ := list_of n (fun i hi => h i (by omega))
    obtain ⟨y, hy⟩ := h n (by omega)
    refine ⟨ys ++ [y], by simp [hl], fun i z hz => ?_⟩
    by_cases hi : i < n
    · rw [List.getElem?_append_left (by omega)] at hz
      exact hp i z hz
    · have : i = n := by
        have := (List.getElem?_eq_some_iff.1 hz).1
        simp [hl] at this
        omega
      subst this
      rw [List.getElem?_append_right (by omega)] at hz
      simp [hl] at hz
      subst hz
      exact hy
theorem weightsAll_mem {H : Type} {P : Program} {e : TypeId} : ∀ {ds : List (DataW H)} {d : DataW H}, d ∈ ds → ∀ n ∈ d.weights P e, n ∈ DataW.weightsAll P e ds
  | d0 :: ds, d, hd, n, hn => by
    simp only [DataW.weightsAll, List.mem_append]
    rcases List.mem_cons.1 hd with rfl | hd
    · exact Or.inl hn
    · exact Or.inr (weightsAll_mem hd n hn)
  | [], d, hd, _, _ => by simp at hd
def Reads {α : Type} (P : Program) (t : TypeId) (d : Kd α) (Q : α → Prop) : Prop :=
  ∀ (H : Type) (enc : TypeId × Value → H) (w : World) (base : Nat) (spare : Nat → Bool) (held : Bool) (fuel : Nat) (cs : List Value) (x : DataW H × List MemPlace),
    DataW.trod enc P w base spare held fuel t cs = some x → (∀ n ∈ x.1.weights P t, n ≤ reachBytes) → ∃ y, d.K w y cs ∧ Q y
theorem reads_int {P : Program} {t : TypeId} {k : IntKind} (ht : P.underlying t = some (.int k)) : Reads P t (Kd.int k) (fun n => (Lit.int k n).wf = true) := by
  intro H enc w base spare held fuel cs x h _
  obtain ⟨n, rfl, _, hw⟩ := DataW.trod_int ht h
  exact ⟨n, rfl, hw⟩
theorem reads_slice {α : Type} {P : Program} {t e : TypeId} {d : Kd α} {Q : α → Prop} (ht : P.underlying t = some (.slice e)) (hc : P.cellsOf e = d.sz) {B : Nat} (hB : P.bytesOf e = B) (he : Reads P e d Q) :
    Reads P t (Kd.slice e d) (fun xs => xs.length * B ≤ 140737488351232 ∧ ∀ x ∈ xs, Q x) := by
  intro H enc w base spare held fuel cs x h hb
  rcases Deep.open_slice ht h with ⟨rfl, rfl⟩ | ⟨a, len, cap, m, n, D, Pl, rfl, _, hl, hm, hmm, rfl, hx⟩
  · exact ⟨[], ⟨none, 0, rfl, Nat.le_refl _, ⟨rfl, by simp, fun h0 => absurd h0 (by simp)⟩⟩, by simp, by simp⟩
  · have hlm : len ≤ m := by rw [hmm]; split <;> omega
    have hex : ∀ i, i < len → ∃ y, (∃ cs', w.cells? base (a.add (i * P.cellsOf e)) (P.cellsOf e) = some cs' ∧ d.K w y cs') ∧ Q y := by
      intro i hi
      obtain ⟨cs', h1, h2⟩ := hx i (by omega)
      obtain ⟨y, hy, hq⟩ := he H enc w base spare held n cs' _ h2 (fun k hk => hb k (by
        simp only [DataW.weights, ht, List.mem_cons, List.mem_append]
        refine Or.inr (Or.inl (weightsAll_mem (d := D i) ?_ k hk))
        exact List.mem_map.2 ⟨i, List.mem_range.2 hi, rfl⟩))
      exact ⟨y, ⟨cs', h1, hy⟩, hq⟩
    obtain ⟨ys, hlen, hp⟩ := list_of len hex
    subst hlen
    have hcap : ys.length ≤ 9223372036854775807 := by unfold maxLen at hm; omega
    refine ⟨ys, ⟨some a, cap, rfl, hl, rfl, hcap, fun _ => ⟨a, rfl, fun j p hj => ?_⟩⟩, ?_, fun x hx' => ?_⟩
    · obtain ⟨⟨cs', h1, hK⟩, _⟩ := hp j p hj
      obtain ⟨_, hl2, hcell⟩ := World.cells?_some h1
      rw [hc] at hl2
      refine ⟨cs', hl2, hK, fun i u hu => ?_⟩
      have hi : i < P.cellsOf e := by rw [hc, ← hl2]; exact (List.getElem?_eq_some_iff.1 hu).1
      rw [← add_add, ← hc]
      exact (hcell i hi).trans hu
    · have := hb _ (by simp only [DataW.weights, ht]; exact List.mem_cons_self)
      simp only [List.length_map, List.length_range] at this
      rw [hB] at this
      have e1 : reachBytes = 140737488351232 := rfl
      rw [e1] at this
      refine Nat.le_trans (Nat.mul_le_mul_right _ ?_) this
      omega
    · obtain ⟨i, hi⟩ := List.getElem?_of_mem hx'
      exact (hp i x hi).2
def ReadsL {α : Type} (P : Program) (o : Nat) (fs : List Field) (d : Kd α) (Q : α → Prop) : Prop :=
  ∀ (H : Type) (enc : TypeId × Value → H) (w : World) (base : Nat) (spare : Nat → Bool) (held : Bool) (fuel : Nat) (cs : List Value) (xs : List (DataW H × List MemPlace)),
    xs.length = fs.length → (∀ (i : Nat) (f : Field), fs[i]? = some f → DataW.trod enc P w base spare held fuel f.type ((cs.drop f.offset).take (P.cellsOf f.type)) = xs[i]?) →
    (∀ n ∈ DataW.weightsEach P (fs.map (·.type)) (xs.map (·.1)), n ≤ reachBytes) → o + d.sz ≤ cs.length → ∃ y, d.K w y ((cs.drop o).take d.sz) ∧ Q y
theorem readsL_one {α : Type} {P : Program} {o : Nat} {f : Field} {d : Kd α} {Q : α → Prop} (h : Reads P f.type d Q) (ho : f.offset = o) (hc : P.cellsOf f.type = d.sz) : ReadsL P o [f] d Q := by
  intro H enc w base spare held fuel cs xs hl hx hb _
  match xs, hl with
  | [x], _ =>
    have h0 := hx 0 f rfl
    rw [ho, hc] at h0
    exact h H enc w base spare held fuel _ x h0 (fun n hn => hb n (by simpa [DataW.weightsEach] using hn))
theorem readsL_cons {α β : Type} {P : Program} {o : Nat} {f : Field} {fs : List Field} {a : Kd α} {b : Kd β} {Qa : α → Prop} {Qb : β → Prop} (h : Reads P f.type a Qa) (ho : f.offset = o) (hc : P.cellsOf f.type = a.sz) (ht : ReadsL P (o + a.sz) fs b Qb) :
    ReadsL P o (f :: fs) (Kd.pair a b) (fun y => Qa y.1 ∧ Qb y.2) := by
  intro H enc w base spare held fuel cs xs hl hx hb hlen
  match xs, hl with
  | x :: xs, hl =>
    have h0 := hx 0 f rfl
    rw [ho, hc] at h0
    obtain ⟨y, hy, hq⟩ := h H enc w base spare held fuel _ x h0 (fun n hn => hb n (by simp only [List.map_cons, DataW.weightsEach, List.mem_append]; exact Or.inl hn))
    have hsz : (Kd.pair a b).sz = a.sz + b.sz := rfl
    obtain ⟨z, hz, hr⟩ := ht H enc w base spare held fuel cs xs (by simpa using hl) (fun i g hg => hx (i + 1) g hg) (fun n hn => hb n (by simp only [List.map_cons, DataW.weightsEach, List.mem_append]; exact Or.inr hn)) (by rw [hsz] at hlen; omega)
    refine ⟨(y, z), ⟨_, _, ?_, hy, hz⟩, hq, hr⟩
    rw [hsz, List.take_add, List.drop_drop]
theorem reads_struct {α β : Type} {P : Program} {t : TypeId} {fs : Array Field} {d : Kd α} {Q : α → Prop} {f : β → α} (g : α → β) (hg : ∀ y, f (g y) = y) (ht : P.underlying t = some (.struct fs)) (hc : P.cellsOf t = d.sz) (h : ReadsL P 0 fs.toList d Q) :
    Reads P t (Kd.iso d f) (fun x => Q (f x)) := by
  intro H enc w base spare held fuel cs x hx hb
  obtain ⟨xs, n, rfl, rfl, hl, hlen, hall⟩ := DataW.trod_struct ht hx
  obtain ⟨y, hy, hq⟩ := h H enc w base spare held n cs xs (by simpa using hlen) (fun i f hf => hall i f (by simpa using hf)) (fun k hk => hb k (by simp only [DataW.weights, ht]; exact hk)) (by omega)
  rw [List.drop_zero, List.take_of_length_le (by omega)] at hy
  refine ⟨g y, ?_, ?_⟩
  · show d.K w (f (g y)) cs
    rw [hg]; exact hy
  · show Q (f (g y))
    rw [hg]; exact hq
theorem slice_arg {α : Type} {H : Type} {enc : TypeId × Value → H} {P : Program} {W : World} {base : Nat} {spare : Nat → Bool} {held : Bool} {t e : TypeId} {d : Kd α} {Q : List α → Prop} {a : Option Addr} {len cap : Nat} {D : DataW H} {ps : List MemPlace}
    (h : DataW.Trod enc P W base spare held t (.slice a len cap) D ps) {ts : List TypeId} {ds : List (DataW H)} {j : Nat}
    (hsz : (DataW.weightsEach P ts ds).all (· ≤ reachBytes) = true) (ht : ts[j]? = some t) (hd : ds[j]? = some D) (hR : Reads P t (Kd.slice e d) Q) :
    ∃ xs : List α, len = xs.length ∧ xs.length ≤ cap ∧ d.C W a xs.length xs ∧ Q xs := by
  obtain ⟨fuel, hf⟩ := h
  obtain ⟨xs, ⟨A, c, hc, hl, hC⟩, hq⟩ := hR H enc W base spare held fuel _ _ hf (fun n hn => by
    have := List.all_eq_true.1 hsz n (DataW.weights_mem_each ht hd n hn)
    simpa using this)
  simp [Value.cells] at hc
  obtain ⟨rfl, rfl, rfl⟩ := hc
  exact ⟨xs, rfl, hl, hC, hq⟩
end Go.Proofs.YtgiiiolnagddnaaR
end
section
namespace Go.Proofs.YtgiiiolnagddnaaMar
open Go.RowKit Go.Proofs.YtgiiiolnagddnaaR Go.Proofs.YtgiiiolnagddnaaW.PrintWords
theorem reads3 : Reads Try.prog 3 (Kd.int .i64) (fun n => (Lit.int .i64 n).wf = true) := reads_int (by kernel_rfl)
end Go.Proofs.YtgiiiolnagddnaaMar
end
section
namespace Go.Proofs.YtgiiiolnagddnaaMar
open Go.RowKit Go.Maps Go.Proofs.YtgiiiolnagddnaaW.PrintWords Go.Proofs.YtgiiiolnagddnaaR
set_option linter.unusedSimpArgs false
set_option linter.unusedVariables false
def k45 : Kd (Int × Int) := Kd.iso (Kd.pair (Kd.int .i64) (Kd.int .i64)) (fun x : Int × Int => x)
theorem at_T45 {w : World} {A : Option Addr} {ps : List (Int × Int)} (h : Kd.C k45 w A ps.length ps) {k : Nat} (hk : k < ps.length) : ∃ ad, A = some ad ∧ w.cell? (ad.add (k * 2)) = some (.int .i64 ps[k].1) ∧ w.cell? ⟨(ad.add (k * 2)).block, (ad.add (k * 2)).off + 1, none⟩ = some (.int .i64 ps[k].2) := by
  obtain ⟨ad, c, e, hl, hK, hc⟩ := Kd.C_get h (0, 0) (k : Int) (by omega) (by omega)
  have hx : ps.getD (k : Int).toNat (0, 0) = ps[k] := by simp [hk]
  rw [hx] at hK
  obtain ⟨c0, c1, rfl, h0, h1⟩ := hK
  have h0' : c0 = [.int .i64 ps[k].1] := h0
  have h1' : c1 = [.int .i64 ps[k].2] := h1
  subst h0' h1'
  have hs : k45.sz = 2 := rfl
  refine ⟨ad, e, ?_, ?_⟩
  · have := hc 0 _ rfl
    rw [hs] at this
    simpa using this
  · have := hc 1 _ rfl
    rw [hs, Int.toNat_natCast, add_field _ _ _ (by decide)] at this
    exact this
theorem reads45 : Reads Try.prog 45 k45 (fun _ => True) := by
  have h1 : ReadsL Try.prog 1 [{ name := "Hi", type := 3, offset := 1, embedded := false, tag := "", pkgPath := "", byteOffset := 8 }] (Kd.int .i64) _ := readsL_one reads3 rfl (by kernel_rfl)
  have h0 : ReadsL Try.prog 0 [{ name := "Lo", type := 3, offset := 0, embedded := false, tag := "", pkgPath := "", byteOffset := 0 }, _] (Kd.pair (Kd.int .i64) (Kd.int .i64)) _ := readsL_cons reads3 rfl (by kernel_rfl) h1
  have h2 := reads_struct (f := fun x : Int × Int => x) (fun y => y) (fun _ => rfl) Try.underlying45 (by kernel_rfl) h0
  intro H enc w base spare held fuel cs x h hb
  obtain ⟨y, hy, _⟩ := h2 H enc w base spare held fuel cs x h hb
  exact ⟨y, hy, trivial⟩
def vE (ps : List (Int × Int)) (i : Nat) : Int × Int := ((ps.getD i (0, 0)).1 % 100, (ps.getD i (0, 0)).1 % 100 + 1 + (ps.getD i (0, 0)).2 % (100 - (ps.getD i (0, 0)).1 % 100))
theorem vE_at {ps : List (Int × Int)} {i : Nat} (hi : i < ps.length) : vE ps i = (ps[i].1 % 100, ps[i].1 % 100 + 1 + ps[i].2 % (100 - ps[i].1 % 100)) := by
  unfold vE
  rw [List.getD_eq_getElem?_getD, List.getElem?_eq_getElem hi]
  rfl
theorem vE_bd (ps : List (Int × Int)) (i : Nat) : 0 ≤ (vE ps i).1 ∧ (vE ps i).1 < (vE ps i).2 ∧ (vE ps i).2 ≤ 100 := by
  unfold vE
  dsimp only
  have h0 := Int.emod_nonneg (ps.getD i (0, 0)).1 (show (100 : Int) ≠ 0 by decide)
  have h1 := Int.emod_lt_of_pos (ps.getD i (0, 0)).1 (show (0 : Int) < 100 by decide)
  generalize (ps.getD i (0, 0)).1 % 100 = x at h0 h1 ⊢
  have h2 := Int.emod_nonneg (ps.getD i (0, 0)).2 (show (100 - x : Int) ≠ 0 by omega)
  have h3 := Int.emod_lt_of_pos (ps.getD i (0, 0)).2 (show (0 : Int) < 100 - x by omega)
  omega
theorem over_is {ps : List (Int × Int)} {n : Nat} {zs : List Nm} (hA : AllOf (tabOf nm3 (vE ps) n) n zs) (lo hi : Int) {q : Nm} (hq : q ∈ zs) : overB lo hi q = (decide (lo < hi) && decide (q.2.1 < hi) && decide (lo < q.2.2)) := by
  obtain ⟨k, _, _, hk⟩ := tabOf_some ((hA.mem q).1 hq).2
  have := vE_bd ps k
  rw [← hk] at this
  unfold overB
  rw [Bool.eq_iff_iff]
  simp only [Bool.and_eq_true, decide_eq_true_eq]
  omega
theorem names_at {lo hi : Int} {zs : List Nm} {i : Nat} (hi' : i < zs.length) (h : overB lo hi zs[i] = true) : (namesOf lo hi zs)[(namesOf lo hi (zs.take i)).length]? = some (.string zs[i].1) := by
  have e : zs = zs.take i ++ zs[i] :: zs.drop (i + 1) := by simp
  have e2 : namesOf lo hi zs = namesOf lo hi (zs.take i) ++ (.string zs[i].1 :: namesOf lo hi (zs.drop (i + 1))) := by
    conv => lhs; rw [e]
    unfold namesOf
    rw [List.filter_append, List.map_append, List.filter_cons, if_pos h]
    rfl
  rw [e2, List.getElem?_append_right (Nat.le_refl _), Nat.sub_self]
  rfl
theorem row_name {w : World} {base k : Nat} {v : Value} {xs : List Value} (h : w.ownsRow base 9 1 v k xs) {j : Nat} {u : Value} (hj : xs[j]? = some u) : ∃ g cap cur, v = .slice (some ⟨g, 0, none⟩) k cap ∧ w.heap[g]? = some (.cells cur 9 (0, 0)) ∧ cur[j]? = some u := by
  have hlt := (List.getElem?_eq_some_iff.1 hj).1
  have hl := h.1
  rcases h.2 with ⟨_, h0⟩ | ⟨g, cap, cur, hv, hbg, hh, hnc, hcm, hcs, htake⟩
  · omega
  · refine ⟨g, cap, cur, hv, hh, ?_⟩
    rw [← htake, List.getElem?_take, if_pos (by omega), Array.getElem?_toList] at hj
    exact hj
theorem row_marks {w : World} {base N : Nat} {v : Value} {zs : List Nm} (h : w.ownsRow base 34 3 v N (flat3 zs)) (hl : zs.length = N) (hN : 0 < N) : ∃ g cap, v = .slice (some ⟨g, 0, none⟩) N cap ∧ g < w.heap.size ∧ ∀ W : World, W.heap[g]? = w.heap[g]? → ∀ j (hj : j < zs.length), W.cell? ⟨g, j * 3, none⟩ = some (.string zs[j].1) ∧ W.cell? ⟨g, j * 3 + 1, none⟩ = some (.int .i64 zs[j].2.1) ∧ W.cell? ⟨g, j * 3 + 2, none⟩ = some (.int .i64 zs[j].2.2) := by
  obtain ⟨g, cap, cur, hv, hh, _, _, _⟩ := row_mark h hl hN
  refine ⟨g, cap, hv, (Array.getElem?_eq_some_iff.1 hh).1, fun W hW j hj => ?_⟩
  obtain ⟨g', cap', cur', hv', hh', x0, x1, x2⟩ := row_mark h hl (i := j) (by omega)
  rw [hv] at hv'
  injection hv' with hg
  injection hg with hg
  injection hg with hg
  subst hg
  have e := hW.trans hh'
  exact ⟨(cell_of e _).trans x0, (cell_of e _).trans x1, (cell_of e _).trans x2⟩
theorem conv3 (w : World) (i : Nat) (hi : i < 60) : (convert 36 9 (.slice (some ⟨w.heap.size, 0, none⟩) 3 3)).run Try.prog (w.alloc (.cells #[.int .u8 (97 + (i : Int) % 7), .int .u8 (48 + (i : Int) % 10), .int .u8 (97 + (i : Int) / 7)] 5)) = .ok (.string ⟨(nm3 i).toArray⟩) (w.alloc (.cells #[.int .u8 (97 + (i : Int) % 7), .int .u8 (48 + (i : Int) % 10), .int .u8 (97 + (i : Int) / 7)] 5)) := by
  have h0 := World.alloc_heap_new w (.cells #[.int .u8 (97 + (i : Int) % 7), .int .u8 (48 + (i : Int) % 10), .int .u8 (97 + (i : Int) / 7)] 5)
  have h1 : (UInt8.ofNat (97 + i % 7)).toNat = 97 + i % 7 := u8_nat (by omega)
  have h2 : (UInt8.ofNat (48 + i % 10)).toNat = 48 + i % 10 := u8_nat (by omega)
  have h3 : (UInt8.ofNat (97 + i / 7)).toNat = 97 + i / 7 := u8_nat (by omega)
  refine run_convert_bytes_back (P := Try.prog) _ 36 9 5 ⟨w.heap.size, 0, none⟩ 3 (nm3 i) Try.underlying36 Try.underlying5 Try.underlying9 ?_
  intro j hj
  have e : (⟨w.heap.size, 0, none⟩ : Addr).add j = ⟨w.heap.size, j, none⟩ := by simp [Addr.add]; exact fun e => e.symm
  rw [e, cell_of h0]
  match j, hj with
  | 0, _ =>
    show some (Value.int .u8 (97 + (i : Int) % 7)) = some (.int .u8 ((UInt8.ofNat (97 + i % 7)).toNat : Int))
    rw [h1]
    congr 2
  | 1, _ =>
    show some (Value.int .u8 (48 + (i : Int) % 10)) = some (.int .u8 ((UInt8.ofNat (48 + i % 10)).toNat : Int))
    rw [h2]
    congr 2
  | 2, _ =>
    show some (Value.int .u8 (97 + (i : Int) / 7)) = some (.int .u8 ((UInt8.ofNat (97 + i / 7)).toNat : Int))
    rw [h3]
    congr 2
theorem pick_to (k n r : Int) (hr : k % n = r) (hn : 1 ≤ n) (hn2 : n ≤ 1000) (w : World) : Calls Try.prog 12 #[.int .i64 k, .int .i64 n] w fun e w' => e = .returned (.int .i64 r) ∧ w' = w := hr ▸ pick_calls k n hn hn2 w
end Go.Proofs.YtgiiiolnagddnaaMar
end
section
namespace Go.Proofs.YtgiiiolnagddnaaMar
open Go.RowKit Go.Maps Go.Proofs.YtgiiiolnagddnaaW.PrintWords
set_option linter.unusedSimpArgs false
set_option linter.unusedVariables false
set_option maxRecDepth 100000 in
set_option maxHeartbeats 8000000 in
theorem sorted_calls (ps : List (Int × Int)) (A : Option Addr) (c : Nat) (lo hi : Int) (w : World) (hC : Kd.C k45 w A ps.length ps) (hcap : ps.length ≤ c) (hpl : ps.length ≤ 140737488351232) : Calls Try.prog 5 #[.slice A ps.length c, .int .i64 lo, .int .i64 hi] w fun e w' => e = .returned (.bool true) ∧ Below w.heap.size w w' := by
  have HC := Lib.hid hC
  clear hC
  obtain ⟨p, hp⟩ : ∃ p, p = w.heap.size + 1 := ⟨_, rfl⟩
  obtain ⟨b, hb⟩ : ∃ b, b = w.heap.size := ⟨_, rfl⟩
  have hN := New_calls 100 (by decide) w
  rw [← hp] at hN
  have Hb := Lib.hid hb
  have Hp := Lib.hid hp
  clear hb hp
  go_enter Try.func5, Try.ntmps5
  go_upto_block 0 with (go_at_call 7; refine hN.mono ?_; rintro e w1 ⟨rfl, hK, hBK⟩)
  rw [← Hb.out] at hK
  have HK := Lib.hid hK
  have HB1 := Lib.hid hBK
  clear hN hK hBK
  obtain ⟨n, hn⟩ : ∃ n, n = min ps.length 60 := ⟨_, rfl⟩
  have hnl : n ≤ ps.length := by omega
  have hn6 : n ≤ 60 := by omega
  have HN := Lib.hid (show n = ps.length ∨ n = 60 by omega)
  clear hn
  go_cut [9] from 10 to 84 (fun v9 wx => v9 = .int .i64 (n : Int) ∧ Hid (BookAt wx p b 100 (tabOf nm3 (vE ps) n) n) ∧ Hid (Below w.heap.size w wx))
  case first =>
    go_wp2_with fail
    go_loopw [9, 10] (fun v9 v10 wr => ∃ i : Nat, i ≤ n ∧ v9 = .int .i64 (i : Int) ∧ v10 = .int .i64 (i : Int) ∧ Hid (BookAt wr p b 100 (tabOf nm3 (vE ps) i) i) ∧ Hid (Below w.heap.size w wr)) (fun _ v10 _ => n - (intOf v10).toNat)
    case atStart => exact ⟨0, by omega, rfl, rfl, HK, HB1⟩
    case round =>
      obtain ⟨i, hin, rfl, rfl, HK2, HB2⟩ := hrel
      have ib : (i : Int) ≤ 60 := by omega
      have ia : 0 ≤ (i : Int) := by omega
      by_cases hc : i < n
      · have d1 : decide (i < ps.length) = true := decide_eq_true (by omega)
        have d2 : decide ((i : Int) < 60) = true := decide_eq_true (by omega)
        have d2' : decide (i < 60) = true := decide_eq_true (by omega)
        have hil : i < ps.length := by omega
        obtain ⟨ad, hAd, x0, x1⟩ := at_T45 (Kd.C_below HC.out HB2.out) hil
        have hv := vE_at hil
        have hvb := vE_bd ps i
        obtain ⟨⟨k0, k1⟩, hk⟩ : ∃ k, ps[i] = k := ⟨_, rfl⟩
        rw [hk] at x0 x1 hv
        dsimp only at x0 x1 hv
        obtain ⟨x, hx⟩ : ∃ x, k0 % 100 = x := ⟨_, rfl⟩
        rw [hx] at hv
        obtain ⟨r, hr⟩ : ∃ r, k1 % (100 - x) = r := ⟨_, rfl⟩
        rw [hr] at hv
        rw [hv] at hvb
        dsimp only at hvb
        obtain ⟨vb0, vb1, vb2⟩ := hvb
        have hp1 := pick_to k0 100 x hx (by omega) (by omega) wr
        have hp2 := pick_to k1 (100 - x) r hr (by omega) (by omega) wr
        have hcv := conv3 wr i (by omega)
        have hP := Put_calls _ (HK2.out.below ((Below.refl _ wr).alloc (Nat.le_refl _) (.cells #[.int .u8 (97 + (i : Int) % 7), .int .u8 (48 + (i : Int) % 10), .int .u8 (97 + (i : Int) / 7)] 5))) ⟨(nm3 i).toArray⟩ (by show (nm3 i).length ≤ maxLen; unfold maxLen nm3; simp) x (x + 1 + r)
        rw [show (ByteArray.mk (nm3 i).toArray).data.toList = nm3 i from rfl, putE_ok (nm3_ok (by omega)) (by omega) (tabOf_none (fun k hk e => by have := nm3_inj (by omega) (by omega) e; omega)) (by omega)] at hP
        have HV := Lib.hid hv
        have Hc := Lib.hid hc
        have p0 : (0 ≤ (i : Int)) = True := eq_true (by omega)
        have p1 : ((i : Int) < (ps.length : Int)) = True := eq_true (by omega)
        subst hAd
        clear hx hr hk hv hc hin hn6 hnl hil
        go_wp2_with (first
          | (go_at_call 12; refine hp1.mono ?_; rintro e w' ⟨rfl, rfl⟩; clear hp1)
          | (go_at_call 12; refine hp2.mono ?_; rintro e w' ⟨rfl, rfl⟩; clear hp2)
          | (go_at_call 8; refine hP.mono ?_; rintro e w5 ⟨rfl, hK6, ho6⟩))
        have HK7 : Hid (BookAt w5 p b 100 (tabOf nm3 (vE ps) (i + 1)) (i + 1)) := by
          have e : tabOf nm3 (vE ps) (i + 1) = fun y => if y = nm3 i then some (x, x + 1 + r) else tabOf nm3 (vE ps) i y := by rw [← HV.out]; rfl
          rw [e]
          exact hK6
        have hs := HB2.out.size
        have HB7 : Hid (Below w.heap.size w w5) := (HB2.out.alloc hs _).trans (ho6.below (by simp; omega) (fun j hj => by rw [hj, Hb.out]; exact Nat.le_refl _))
        clear hK6 ho6 hs
        go_roundw
        case rel => exact ⟨i + 1, Hc.out, by go_num, by go_num, HK7, HB7⟩
        case measure => have := Hc.out; simp [intOf]; omega
      · obtain rfl : i = n := by omega
        by_cases hx : i = ps.length
        · have d1 : decide (i < ps.length) = false := decide_eq_false (by omega)
          clear hx
          go_wp2_with fail
          go_meet
          exact ⟨rfl, HK2, HB2⟩
        · have h60 : i = 60 := by
            rcases HN.out with h | h
            · exact absurd h hx
            · exact h
          have d1 : decide (i < ps.length) = true := decide_eq_true (by omega)
          have d2 : decide ((i : Int) < 60) = false := decide_eq_false (by omega)
          have d2' : decide (i < 60) = false := decide_eq_false (by omega)
          have HH := Lib.hid h60
          clear h60 hx
          go_wp2_with fail
          go_meet
          exact ⟨rfl, HK2, HB2⟩
  case rest =>
    obtain ⟨rfl, HK2, HB2⟩ := hcut
    clear HB1 HK HC
    have hM := Marks_calls sortOk sortNil _ HK2.out (by omega)
    obtain ⟨l1, hl1⟩ : ∃ l1, lo % 101 = l1 := ⟨_, rfl⟩
    have l1a : 0 ≤ l1 := by omega
    have l1b : l1 ≤ 100 := by omega
    obtain ⟨r1, hr1⟩ : ∃ r1, hi % (101 - l1) = r1 := ⟨_, rfl⟩
    have r1a : 0 ≤ r1 := by rw [← hr1]; exact Int.emod_nonneg _ (by omega)
    have r1b : r1 < 101 - l1 := by rw [← hr1]; exact Int.emod_lt_of_pos _ (by omega)
    have hp1 := fun W => pick_to lo 101 l1 hl1 (by omega) (by omega) W
    have hp2 := fun W => pick_to hi (101 - l1) r1 hr1 (by omega) (by omega) W
    clear hl1 hr1
    go_upto_region 17 with (first
      | (go_at_call 12; refine (hp1 _).mono ?_; rintro e w' ⟨rfl, rfl⟩; clear hp1)
      | (go_at_call 12; refine (hp2 _).mono ?_; rintro e w' ⟨rfl, rfl⟩; clear hp2)
      | (go_at_call 11; refine hM.mono ?_; rintro e w2 ⟨v2, zs, rfl, hAll, hrow2, hb2⟩; obtain ⟨pp2, cap2, hv2⟩ := row_slice hrow2; subst hv2))
    have hbk2 := HK2.out.below hb2
    have hO := Over_yes w' hbk2 (by omega) l1 (l1 + r1) l1a (by omega) (by omega)
    generalize hh1 : l1 + r1 = h1 at hO ⊢
    have hh1a : l1 ≤ h1 := by omega
    have hh1b : h1 ≤ 100 := by omega
    have hz := hAll.len
    clear hM
    go_upto_block 2 with (go_at_call 13; refine hO.mono ?_; rintro e w3 ⟨v3, zs3, rfl, hAll3, hrow3, hb3⟩; obtain rfl := hAll.uniq hAll3; obtain ⟨pp3, cap3, hv3⟩ := row_slice hrow3; subst hv3)
    clear hO
    have HA := Lib.hid hAll
    have HR2 := Lib.hid hrow2
    have HR3 := Lib.hid hrow3
    have HW2 := Lib.hid hb2
    have HW3 := Lib.hid hb3
    have HBK := Lib.hid (hbk2.below hb3)
    have HZ := Lib.hid hz
    have HNN := Lib.hid hn6
    clear hAll hrow2 hrow3 hb2 hb3 hbk2 hz hh1 r1a r1b hnl hn6
    go_wp2_with fail
    go_loopw [17, 18] (fun v17 v18 wr => ∃ i : Nat, i ≤ n ∧ v17 = .int .i64 ((namesOf l1 h1 (zs3.take i)).length : Int) ∧ v18 = .int .i64 (i : Int) ∧ Hid (Below w3.heap.size w3 wr)) (fun _ v18 _ => n - (intOf v18).toNat)
    case atStart => exact ⟨0, by omega, rfl, rfl, Below.refl _ _⟩
    case round =>
      obtain ⟨i, hin, rfl, rfl, HBr⟩ := hrel
      by_cases hc : i < n
      · have hzl := HA.out.len
        obtain ⟨g, cap', hv, hgl, hcells⟩ := row_marks HR2.out hzl (by omega)
        injection hv with hv _ hcp
        subst hv
        subst hcp
        have hkeep : ∀ W : World, Below w3.heap.size w3 W → W.heap[g]? = w'.heap[g]? := fun W hW => (hW.block g (Nat.lt_of_lt_of_le hgl HW3.out.size)).trans (HW3.out.block g hgl)
        have hcl := fun W hW => hcells W (hkeep W hW)
        have HCL := Lib.hid hcl
        have Hzl := Lib.hid hzl
        have Hc := Lib.hid hc
        have p1 : ((i : Int) < (n : Int)) = True := eq_true (by omega)
        have p0 : (0 ≤ (i : Int)) = True := eq_true (by omega)
        have d0 : decide (i < n) = true := decide_eq_true hc
        have hn60 := HNN.out
        have ib : (i : Int) ≤ 60 := by omega
        clear hcl hcells hkeep hgl hzl hc hin
        go_upto_if 117 with fail
        go_cut [19] from 118 to 170 (fun v19 wx => Hid (Below w3.heap.size w3 wx))
        case first =>
          cases i with
          | zero =>
            go_wp2_with fail
            go_meet
            exact HBr
          | succ j =>
            have hjl : j + 1 < zs3.length := by rw [Hzl.out]; exact Hc.out
            have hord := (List.pairwise_iff_getElem.1 HA.out.sorted) j (j + 1) (by omega) hjl (by omega)
            obtain ⟨y0, y1, y2⟩ := HCL.out wr HBr.out j (by omega)
            have hBq : ∀ o, Below w3.heap.size w3 (wr.alloc o) := fun o => HBr.out.alloc HBr.out.size o
            have hz := fun o => HCL.out (wr.alloc o) (hBq o) (j + 1) hjl
            obtain ⟨⟨s0, a0, b0⟩, hq0⟩ : ∃ q, zs3[j] = q := ⟨_, rfl⟩
            obtain ⟨⟨s1, a1, b1⟩, hq1⟩ : ∃ q, zs3[j + 1] = q := ⟨_, rfl⟩
            rw [hq0] at y0 y1 y2 hord
            rw [hq1] at hord
            simp only [hq1] at hz
            dsimp only at y0 y1 y2 hz
            obtain ⟨z0, z1, z2⟩ := hz (.cells #[.string s0, .int .i64 a0, .int .i64 b0] 34)
            have HB5 : Hid (∀ nq, Below w3.heap.size w3 ((wr.alloc (.cells #[.string s0, .int .i64 a0, .int .i64 b0] 34)).drewN nq)) := fun nq => (hBq _).trans ⟨rfl, rfl, rfl, Nat.le_refl _, fun k _ => rfl⟩
            obtain ⟨I, hI⟩ : ∃ I : Int, ((j + 1 : Nat) : Int) = I := ⟨_, rfl⟩
            rw [hI] at p0 p1 ib ⊢
            have HI := Lib.hid hI
            have I0 : 0 < I := by omega
            have dI : decide (0 < I) = true := decide_eq_true I0
            have t1 : (I - 1).toNat = j := by omega
            have t2 : I.toNat = j + 1 := by omega
            have p3 : (0 ≤ I - 1) = True := eq_true (by omega)
            have p4 : (I - 1 < (n : Int)) = True := eq_true (by have := Hc.out; omega)
            have v1 : wrap64 (I - 1) = I - 1 := small64 (by omega) (by omega)
            clear hz hBq hq0 hq1 hI hjl d0 hn60
            unfold ltN at hord
            dsimp only at hord
            rcases hord with h | ⟨h, h' | ⟨h', h''⟩⟩
            · have e1 : decide (a1 < a0) = false := decide_eq_false (by omega)
              have e2 : (a0 == a1) = false := beq_eq_false_iff_ne.2 (by omega)
              clear h
              go_wp2_with fail
              go_quiet (fail)
              rename_i nq
              go_wp2_with fail
              obtain rfl := HI.out
              go_meet
              exact HB5.out nq
            · subst h
              have e1 : decide (a0 < a0) = false := decide_eq_false (by omega)
              have e3 : decide (b1 < b0) = false := decide_eq_false (by omega)
              have e4 : (b0 == b1) = false := beq_eq_false_iff_ne.2 (by omega)
              clear h'
              go_wp2_with fail
              go_quiet (fail)
              rename_i nq
              go_wp2_with fail
              obtain rfl := HI.out
              go_meet
              exact HB5.out nq
            · subst h
              subst h'
              have e1 : decide (a0 < a0) = false := decide_eq_false (by omega)
              have e3 : decide (b0 < b0) = false := decide_eq_false (by omega)
              have e5 : Op.bytesLess s0.toList s1.toList = true := by
                rw [bytesLess_eq]
                have := decide_eq_true h''
                rwa [Lib.toList_data, Lib.toList_data]
              clear h''
              go_wp2_with fail
              go_quiet (fail)
              rename_i nq
              go_wp2_with fail
              obtain rfl := HI.out
              go_meet
              exact HB5.out nq
        case rest =>
          have HB4 := hcut
          clear HBr
          obtain ⟨z0, z1, z2⟩ := HCL.out wc HB4.out i (by rw [Hzl.out]; exact Hc.out)
          have hil : i < zs3.length := by rw [Hzl.out]; exact Hc.out
          have hov := over_is HA.out l1 h1 (List.getElem_mem hil)
          have hyes := fun h => namesOf_yes (lo := l1) (hi := h1) (zs := zs3) hil h
          have hno := fun h => namesOf_no (lo := l1) (hi := h1) (zs := zs3) hil h
          have hat := fun h => names_at (lo := l1) (hi := h1) (zs := zs3) hil h
          have hKl : (namesOf l1 h1 (zs3.take i)).length ≤ i := Nat.le_trans namesOf_len (by simp; omega)
          obtain ⟨⟨s1, a1, b1⟩, hq1⟩ : ∃ q, zs3[i] = q := ⟨_, rfl⟩
          rw [hq1] at z0 z1 z2 hov hyes hno hat
          dsimp only at z0 z1 z2 hov hyes hno hat
          obtain ⟨ov, ho⟩ : ∃ ov, overB l1 h1 (s1, a1, b1) = ov := ⟨_, rfl⟩
          rw [ho] at hov hyes hno hat
          have HOV := Lib.hid hov
          have HY := Lib.hid hyes
          have HNo := Lib.hid hno
          have HAt := Lib.hid hat
          have HKl := Lib.hid hKl
          clear hq1 hov hyes hno hat ho hKl hil
          obtain ⟨M, hM⟩ : ∃ M, (namesOf l1 h1 zs3).length = M := ⟨_, rfl⟩
          obtain ⟨K, hK⟩ : ∃ K, (namesOf l1 h1 (zs3.take i)).length = K := ⟨_, rfl⟩
          rw [hM, hK]
          have HM := Lib.hid hM
          have HKK := Lib.hid hK
          have HR3' := HR3
          rw [hM] at HR3'
          rw [hK] at HKl
          clear hM hK
          go_upto_region 28 with fail
          go_cut [191] from 171 to 191 (fun v191 wx => v191 = .bool ov ∧ wx = wc)
          case first =>
            by_cases e1 : l1 < h1
            · have f1 : decide (l1 < h1) = true := decide_eq_true e1
              by_cases e2 : a1 < h1
              · have f2 : decide (a1 < h1) = true := decide_eq_true e2
                by_cases e3 : l1 < b1
                · have f3 : decide (l1 < b1) = true := decide_eq_true e3
                  clear e1 e2 e3
                  go_wp2_with fail
                  go_meet
                  exact ⟨by rw [HOV.out, f1, f2, f3]; rfl, rfl⟩
                · have f3 : decide (l1 < b1) = false := decide_eq_false e3
                  clear e1 e2 e3
                  go_wp2_with fail
                  go_meet
                  exact ⟨by rw [HOV.out, f1, f2, f3]; rfl, rfl⟩
              · have f2 : decide (a1 < h1) = false := decide_eq_false e2
                clear e1 e2
                go_wp2_with fail
                go_meet
                exact ⟨by rw [HOV.out, f1, f2]; rfl, rfl⟩
            · have f1 : decide (l1 < h1) = false := decide_eq_false e1
              clear e1
              go_wp2_with fail
              go_meet
              exact ⟨by rw [HOV.out, f1]; rfl, rfl⟩
          case rest =>
            obtain ⟨rfl, rfl⟩ := hcut
            cases ov with
            | false =>
              have hy := Lib.hid (HNo.out rfl)
              have hk := Lib.hid HKK.out
              go_wp2_with fail
              obtain rfl := HM.out
              go_roundw
              case rel => exact ⟨i + 1, Hc.out, by rw [hy.out, hk.out], by go_num, HB4⟩
              case measure => have := Hc.out; simp [intOf]; omega
            | true =>
              have hy := Lib.hid (HY.out rfl)
              have hat := HAt.out rfl
              rw [HKK.out] at hat
              obtain ⟨g3, cap3', cur3, hv3, hh3, hx3⟩ := row_name HR3'.out hat
              have hlt : K < M := by
                have := (List.getElem?_eq_some_iff.1 hat).1
                rw [HM.out] at this
                exact this
              injection hv3 with hv3 _ hc3
              subst hv3
              subst hc3
              have y0 := (cell_of ((HB4.out.block g3 (Array.getElem?_eq_some_iff.1 hh3).1).trans hh3) K).trans hx3
              have k1 : decide (M ≤ K) = false := decide_eq_false (by omega)
              have k2 : (0 ≤ (K : Int)) = True := eq_true (by omega)
              have k3 : ((K : Int) < (M : Int)) = True := eq_true (by omega)
              have k4 : decide ((M : Int) ≤ (K : Int)) = false := decide_eq_false (by omega)
              have kb : (K : Int) ≤ 60 := by have := HKl.out; omega
              clear hh3 hx3 hat hlt
              go_wp2_with fail
              go_quiet (fail)
              rename_i nq
              go_wp2_with fail
              obtain rfl := HM.out
              go_roundw
              case rel => exact ⟨i + 1, Hc.out, by rw [hy.out, List.length_append, HKK.out]; rfl, by go_num, HB4.out.trans ⟨rfl, rfl, rfl, Nat.le_refl _, fun k _ => rfl⟩⟩
              case measure => have := Hc.out; simp [intOf]; omega
      · obtain rfl : i = n := by omega
        have ht : zs3.take i = zs3 := List.take_of_length_le (by rw [HA.out.len]; exact Nat.le_refl _)
        rw [ht]
        have d0 : decide (i < i) = false := decide_eq_false hc
        have hn60 := HNN.out
        have ib : (i : Int) ≤ 60 := by omega
        obtain ⟨K, hK⟩ : ∃ K, (namesOf l1 h1 zs3).length = K := ⟨_, rfl⟩
        rw [hK]
        have hb := HBK.out.below HBr.out
        have ho1 := Over_no wr hb (h1 + 1) h1 (by omega)
        have HB5 := Lib.hid (HB2.out.trans ((HW2.out.trans (HW3.out.mono HW2.out.size)).trans (HBr.out.mono (Nat.le_trans HW2.out.size HW3.out.size)) |>.mono HB2.out.size))
        have HKB := Lib.hid hb
        clear ht hK hc hin hb HBr HK2 HB2 HBK HR2 HR3 HW2 HW3 hAll3 HA
        go_upto_region 33 with (go_at_call 13; refine ho1.mono ?_; rintro e w4 ⟨rfl, hb4⟩)
        have hbk4 := HKB.out.below hb4
        have ho2 := Over_no w4 hbk4 0 101 (by omega)
        clear ho1
        go_upto_region 34 with (go_at_call 13; refine ho2.mono ?_; rintro e w5 ⟨rfl, hb5⟩)
        have hbk5 := hbk4.below hb5
        have hp := Put_calls w5 hbk5 ⟨#[122, 122]⟩ (by decide) 0 1
        rw [show (ByteArray.mk #[122, 122]).data.toList = [122, 122] from rfl, putE_ok (by rfl) (by omega) (tabOf_none (fun k hk e => by simp [nm3] at e)) (by omega)] at hp
        clear ho2
        go_upto_region 35 with (go_at_call 8; refine hp.mono ?_; rintro e w6 ⟨rfl, hbk6, ho6⟩)
        simp only [if_true] at hbk6
        have hM := Marks_calls sortOk sortNil w6 hbk6 (by omega)
        have HB6 : Hid (Below w.heap.size w w6) := (HB5.out.trans ((hb4.trans (hb5.mono hb4.size)).mono HB5.out.size)).trans (ho6.below (Nat.le_trans HB5.out.size (Nat.le_trans hb4.size hb5.size)) (fun j hj => by rw [hj, Hb.out]; exact Nat.le_refl _))
        clear hp hbk4 hbk5 hbk6 hb4 hb5 ho6 HB5 HKB
        go_wp2_with (go_at_call 11; refine hM.mono ?_; rintro e w7 ⟨v, zs, rfl, hA, hrow, hb7⟩; obtain ⟨pp, cap, hv⟩ := row_slice hrow; subst hv; have hb7 := Lib.hid hb7)
        go_ret
        exact ⟨rfl, HB6.out.trans (hb7.out.mono HB6.out.size)⟩
end Go.Proofs.YtgiiiolnagddnaaMar
end
section
namespace Go.Proofs.YtgiiiolnagddnaaMar
open Go.RowKit Go.Proofs.YtgiiiolnagddnaaR Go.Proofs.YtgiiiolnagddnaaW.PrintWords
theorem reads42 : Reads Try.prog 42 (Kd.slice 45 k45) (fun l => l.length * 16 ≤ 140737488351232 ∧ ∀ x ∈ l, True) := reads_slice (B := 16) Try.underlying42 (by kernel_rfl) (by kernel_rfl) reads45
abbrev WfEnds (l : List (Int × Int)) : Prop := l.length * 16 ≤ 140737488351232 ∧ ∀ x ∈ l, True
theorem Sorted_pure (l : List (Int × Int)) (hq : WfEnds l) (lo : Int) (_ : (Lit.int .i64 lo).wf = true) (hi : Int) (_ : (Lit.int .i64 hi).wf = true) : ∃ k : Nat, l.length ≤ k ∧ k ≤ 140737488351232 := ⟨l.length, Nat.le_refl _, by have := hq.1; omega⟩
theorem Sorted.calls (kk : Nat) (A : Option Addr) (c : Nat) (l : List (Int × Int)) (lo hi : Int) (_ : Bool) (W : World) (hC : Kd.C k45 W A l.length l) (hcap : l.length ≤ c) (hk : l.length ≤ kk ∧ kk ≤ 140737488351232) : Calls Try.prog 5 #[.slice A l.length c, .int .i64 lo, .int .i64 hi] W fun e w' => e = .returned (.bool true) ∧ Below W.heap.size W w' :=
  sorted_calls l A c lo hi W hC hcap (Nat.le_trans hk.1 hk.2)
end Go.Proofs.YtgiiiolnagddnaaMar
end
