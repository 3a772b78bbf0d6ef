/- MarksTitles: which names and places a book of marks takes, which error it tells first, that a name may come again, and that there are no more than 256 marks: for every input the statement answers true and reads as it did. -/
import Derived.Maps.OwnSet
import Derived.Below
import Derived.WalkKit
import Derived.KernelRfl
import Derived.Test.YtgiiiolnagddnaaProg
import Derived.Laws.IdiomStrings
import Derived.Tactics
import Derived.IntWalk
import Derived.RangeFuncBox
import Derived.Lib.Hide
import Derived.BigQuiet
import Derived.Laws.Rows
import Derived.Maps.RangeWalk
import Derived.Sort.Walk0
import Derived.Sort.Statements
import Derived.Deep.AppendLies
import Derived.OwnWalk
import Derived.Deep.LoopGhost
import Derived.StillTailTactics
import Derived.Sort.Grow
import Derived.Laws.Cover1
import Derived.Shelf.SlLaysF0
import Derived.Shelf.SlGeneric
import Derived.Ground.SlsfProg
import Derived.Shelf.SlSortCmp.NoneTotal
import Derived.Deep.CutBlock
import Derived.Deep.DeepCutAuto
import Derived.SizedLaws
import Derived.Deep.Slices
import Derived.ChangeArms
import Derived.DataReads
import Derived.Test.YtgiiiolnagddnaaClaimTitlesW0
section
namespace Go.Proofs.YtgiiiolnagddnaaMar
open Go.RowKit Go.Maps
structure ElemK (α : Type) where
  R : Value → Option (DataW Unit × List MemPlace)
  val : α → Value
  dat : α → DataW Unit
  put : ∀ a, R (val a) = some (dat a, [])
  inv : ∀ {v a ps}, R v = some (dat a, ps) → v = val a
structure Only (K : Nat → Prop) (W W' : World) : Prop where
  os : W'.os = W.os
  tape : W'.tape = W.tape
  output : W'.output = W.output
  size : W.heap.size ≤ W'.heap.size
  block : ∀ k, k < W.heap.size → ¬ K k → W'.heap[k]? = W.heap[k]?
theorem Only.refl (K : Nat → Prop) (W : World) : Only K W W := ⟨rfl, rfl, rfl, Nat.le_refl _, fun _ _ _ => rfl⟩
theorem Only.trans {K : Nat → Prop} {A B C : World} (h : Only K A B) (k : Only K B C) : Only K A C :=
  ⟨k.os.trans h.os, k.tape.trans h.tape, k.output.trans h.output, Nat.le_trans h.size k.size, fun i hi hn => (k.block i (Nat.lt_of_lt_of_le hi h.size) hn).trans (h.block i hi hn)⟩
theorem Only.mono {K K' : Nat → Prop} {A B : World} (h : Only K A B) (hk : ∀ i, K i → K' i) : Only K' A B := ⟨h.os, h.tape, h.output, h.size, fun i hi hn => h.block i hi (fun hki => hn (hk i hki))⟩
theorem Only.below {K : Nat → Prop} {A B : World} (h : Only K A B) {n : Nat} (hn : n ≤ A.heap.size) (hk : ∀ i, K i → n ≤ i) : Below n A B :=
  ⟨h.os, h.tape, h.output, h.size, fun i hi => h.block i (Nat.lt_of_lt_of_le hi hn) (fun hki => by have := hk i hki; omega)⟩
theorem Only.of_below {K : Nat → Prop} {A B : World} (h : Below A.heap.size A B) : Only K A B := ⟨h.os, h.tape, h.output, h.size, fun i hi _ => h.block i hi⟩
theorem Only.alloc (K : Nat → Prop) (W : World) (o : Obj) : Only K W (W.alloc o) := Only.of_below ((Below.refl _ W).alloc (Nat.le_refl _) o)
theorem Only.turned {K : Nat → Prop} {A B : World} {b : Nat} (h : A.mapTurned B b) (hk : K b) : Only K A B := by
  obtain ⟨es, clock, es', clock', hb, rfl⟩ := h
  exact ⟨rfl, rfl, rfl, by simp [ChangeMaps.setBlock], fun i _ hn => ChangeMaps.heap_setBlock_other hb _ (fun e => hn (e ▸ hk))⟩
section
variable {α : Type} {P : Program} {tS : TypeId}
def SMap (P : Program) (tS : TypeId) (E : ElemK α) (W : World) (b : Nat) (m : List UInt8 → Option α) (N : Nat) : Prop :=
  ∃ D : DataW Unit, W.ownsMap P tS E.R b N D ∧ Maps.size D = N ∧ ∀ x : List UInt8, x.length ≤ maxLen → match m x with
    | some a => ∀ z, D.atKey (.string x) z = E.dat a
    | none => ∀ z, D.atKey (.string x) z = z
variable {E : ElemK α} {W W' : World} {b N : Nat} {m : List UInt8 → Option α}
theorem owns_size {R : Value → Option (DataW Unit × List MemPlace)} {n : Nat} {D : DataW Unit} (h : W.ownsMap P tS R b n D) : W.ownsMap P tS R b (Maps.size D) D := by
  obtain ⟨es, clock, hb, F, hs, rfl⟩ := h
  exact ⟨es, clock, hb, F, by simp [Maps.size, length_sorted], rfl⟩
theorem SMap.lt (h : SMap P tS E W b m N) : b < W.heap.size := by
  obtain ⟨D, h1, _⟩ := h
  exact h1.lt
theorem SMap.block (h : SMap P tS E W b m N) (hb : W'.heap[b]? = W.heap[b]?) : SMap P tS E W' b m N := by
  obtain ⟨D, ⟨es, clock, h0, h1⟩, h2⟩ := h
  exact ⟨D, ⟨es, clock, hb.trans h0, h1⟩, h2⟩
theorem SMap.isMap (h : SMap P tS E W b m N) : ∃ es clock, W.heap[b]? = some (.map es clock) := by
  obtain ⟨D, ⟨es, clock, h0, _⟩, _⟩ := h
  exact ⟨es, clock, h0⟩
theorem SMap.made (W : World) : SMap P tS E (W.alloc (.map #[] 0)) W.heap.size (fun _ => none) 0 :=
  ⟨_, World.ownsMap_made W P tS E.R, rfl, fun _ _ => fun _ => rfl⟩
theorem strKey (x : List UInt8) : WideAt.IsKeyLit (.string x) := trivial
theorem strNe {x y : List UInt8} (h : x ≠ y) : (Lit.string x) ≠ Lit.string y := fun e => h (by cases e; rfl)
theorem keyOf_str (hS : P.underlying tS = some .string) {s : ByteArray} (hs : s.size ≤ maxLen) : keyOf P tS (.string s) = some (.string s.data.toList) := by
  simp [keyOf, hS, mapKey, hs]
theorem has_of (h : SMap P tS E W b m N) : ∃ D : DataW Unit, W.ownsMap P tS E.R b N D ∧ Maps.size D = N ∧ (∀ x : List UInt8, x.length ≤ maxLen → Maps.has D (.string x) = (m x).isSome) := by
  obtain ⟨D, h1, h2, h3⟩ := h
  refine ⟨D, h1, h2, fun x hx => ?_⟩
  have := h3 x hx
  cases hm : m x with
  | none => rw [hm] at this; rw [has_false_of_atKey this]; rfl
  | some a => rw [hm] at this; rw [has_true_of_atKey this]; rfl
variable {t e : TypeId}
theorem SMap.look (h : SMap P tS E W b m N) (hS : P.underlying tS = some .string) (ht : P.underlying t = some (.map tS e)) {z : α} (hz : (zeroValue e).run P W = .ok (E.val z) W) {s : ByteArray} (hs : s.size ≤ maxLen) :
    (Instr.lookup t (.map (some b)) (.string s) true).run P W = .ok (.tuple #[E.val ((m s.data.toList).getD z), .bool (m s.data.toList).isSome]) W := by
  obtain ⟨D, h1, h0, h2⟩ := h
  obtain ⟨v, ps, hrun, hv⟩ := h1.look_ok (string_keyed hS) ht hz (E.put z) (keyOf_str hS hs)
  have h2 := h2 s.data.toList (by simpa using hs)
  rw [hrun]
  cases hm : m s.data.toList with
  | none =>
    rw [hm] at h2
    simp only at h2
    rw [h2] at hv
    rw [E.inv hv, has_false_of_atKey h2]
    rfl
  | some a =>
    rw [hm] at h2
    simp only at h2
    rw [h2] at hv
    rw [E.inv hv, has_true_of_atKey h2]
    rfl
theorem SMap.len (h : SMap P tS E W b m N) (ht : P.underlying t = some (.map tS e)) (ty : TypeId) : (Builtin.len_ #[t] ty #[.map (some b)]).run P W = .ok (.int .i64 (N : Int)) W := by
  obtain ⟨D, h1, h0, _⟩ := h
  rw [h1.len ht ty, h0]
theorem SMap.store (h : SMap P tS E W b m N) (hS : P.underlying tS = some .string) (ht : P.underlying t = some (.map tS e)) (hn : N < maxLen) {s : ByteArray} (hs : s.size ≤ maxLen) (hnew : m s.data.toList = none) (a : α) :
    ∃ W', (Instr.mapUpdate t (.map (some b)) (.string s) (E.val a)).run P W = .ok () W' ∧ SMap P tS E W' b (fun y => if y = s.data.toList then some a else m y) (N + 1) ∧ W.mapTurned W' b := by
  obtain ⟨D, h1, h0, h2⟩ := h
  have hD := h1.isMap
  obtain ⟨W', hrun, hown, hturn⟩ := h1.store (string_keyed hS) ht hn (keyOf_str hS hs) (E.put a)
  have hx : s.data.toList.length ≤ maxLen := by simpa using hs
  have hno : Maps.has D (.string s.data.toList) = false := by
    have := h2 _ hx
    rw [hnew] at this
    exact has_false_of_atKey this
  have hsz : Maps.size (D.put (.string s.data.toList) (E.dat a)) = N + 1 := by
    rw [size_put (h1.tidy (string_keyed hS)), hno, h0]
    rfl
  refine ⟨W', hrun, ⟨_, hown, hsz, fun y hy => ?_⟩, hturn⟩
  by_cases c : y = s.data.toList
  · subst c
    simp only [if_true]
    exact fun z => atKey_put_same hD (strKey _) _ _
  · simp only [if_neg c]
    have := h2 y hy
    cases hm : m y with
    | none => rw [hm] at this; exact fun z => (atKey_put_other (strNe c) _ _).trans (this z)
    | some a' => rw [hm] at this; exact fun z => (atKey_put_other (strNe c) _ _).trans (this z)
theorem SMap.drop (h : SMap P tS E W b m N) (hS : P.underlying tS = some .string) (ht : P.underlying t = some (.map tS e)) (ty : TypeId) {s : ByteArray} (hs : s.size ≤ maxLen) :
    ∃ W', (Builtin.delete_ #[t, tS] ty #[.map (some b), .string s]).run P W = .ok (.tuple #[]) W' ∧ SMap P tS E W' b (fun y => if y = s.data.toList then none else m y) (if (m s.data.toList).isSome then N - 1 else N) ∧ W.mapTurned W' b := by
  obtain ⟨D', h1', h0', hh⟩ := has_of h
  obtain ⟨D, h1, h0, h2⟩ := h
  obtain ⟨W', hrun, hown, hturn⟩ := h1.drop (string_keyed hS) ht (keyOf_str hS hs) ty
  have hx : s.data.toList.length ≤ maxLen := by simpa using hs
  have hha : Maps.has D (.string s.data.toList) = (m s.data.toList).isSome := by
    have := h2 _ hx
    cases hm : m s.data.toList with
    | none => rw [hm] at this; rw [has_false_of_atKey this]; rfl
    | some a => rw [hm] at this; rw [has_true_of_atKey this]; rfl
  have hsz := size_del (k := .string s.data.toList) (h1.tidy (string_keyed hS))
  rw [hha, h0] at hsz
  have hsz2 : Maps.size (D.del (.string s.data.toList)) = if (m s.data.toList).isSome then N - 1 else N := by
    split at hsz <;> rename_i c <;> simp [c] <;> omega
  refine ⟨W', hrun, ⟨_, by have := owns_size hown; rwa [hsz2] at this, hsz2, fun y hy => ?_⟩, hturn⟩
  by_cases c : y = s.data.toList
  · subst c
    simp only [if_true]
    exact fun z => atKey_del_same _
  · simp only [if_neg c]
    have := h2 y hy
    cases hm : m y with
    | none => rw [hm] at this; exact fun z => (atKey_del_other (strNe c) _).trans (this z)
    | some a' => rw [hm] at this; exact fun z => (atKey_del_other (strNe c) _).trans (this z)
end
end Go.Proofs.YtgiiiolnagddnaaMar
end
section
namespace Go.Proofs.YtgiiiolnagddnaaMar
open Go.RowKit Go.Maps
set_option linter.unusedSimpArgs false
set_option linter.unusedVariables false
def EM : ElemK (Int × Int) where
  R v := match v with
    | .agg cs => match cs.toList with
      | [.int .i64 a, .int .i64 b] => some (.map [(.int .i64 a, .lit (.int .i64 b))], [])
      | _ => none
    | _ => none
  val a := .agg #[.int .i64 a.1, .int .i64 a.2]
  dat a := .map [(.int .i64 a.1, .lit (.int .i64 a.2))]
  put a := rfl
  inv {v a ps} h := by
    cases v <;> simp at h
    rename_i cs
    cases cs with | mk l =>
    split at h
    · rename_i h'
      simp at h h'
      subst h'
      rw [h.1.1, h.1.2]
    · cases h
def BookAt (W : World) (p b : Nat) (tot : Int) (m : List UInt8 → Option (Int × Int)) (N : Nat) : Prop :=
  W.heap[p]? = some (.cells #[.int .i64 tot, .map (some b)] 54 (0, 0)) ∧ SMap Try.prog 9 EM W b m N
section
variable {W W' : World} {p b N : Nat} {tot : Int} {m : List UInt8 → Option (Int × Int)}
theorem BookAt.c0 (h : BookAt W p b tot m N) : W.cell? ⟨p, 0, none⟩ = some (.int .i64 tot) := by simp [World.cell?, h.1]
theorem BookAt.c1 (h : BookAt W p b tot m N) : W.cell? ⟨p, 1, none⟩ = some (.map (some b)) := by simp [World.cell?, h.1]
theorem BookAt.lt (h : BookAt W p b tot m N) : p < W.heap.size := (Array.getElem?_eq_some_iff.1 h.1).1
theorem BookAt.ne (h : BookAt W p b tot m N) : p ≠ b := by
  rintro rfl
  obtain ⟨es, clock, he⟩ := h.2.isMap
  rw [h.1] at he
  cases he
theorem BookAt.only {K : Nat → Prop} (h : BookAt W p b tot m N) (hk : Only K W W') (h1 : ¬ K p) (h2 : ¬ K b) : BookAt W' p b tot m N :=
  ⟨(hk.block p h.lt h1).trans h.1, h.2.block (hk.block b h.2.lt h2)⟩
theorem BookAt.below (h : BookAt W p b tot m N) (hk : Below W.heap.size W W') : BookAt W' p b tot m N := h.only (K := fun _ => False) (Only.of_below hk) (fun h => h) (fun h => h)
theorem BookAt.turn {m' : List UInt8 → Option (Int × Int)} {N' : Nat} (h : BookAt W p b tot m N) (ht : W.mapTurned W' b) (hm : SMap Try.prog 9 EM W' b m' N') : BookAt W' p b tot m' N' :=
  ⟨((Only.turned (K := fun k => k = b) ht rfl).block p h.lt h.ne).trans h.1, hm⟩
end
set_option maxRecDepth 100000 in
set_option maxHeartbeats 4000000 in
theorem New_calls (tot : Int) (h : 0 ≤ tot ∧ tot ≤ 1048576) (w : World) : Calls Try.prog 7 #[.int .i64 tot] w fun e w' => e = .returned (.tuple #[.pointer (some ⟨w.heap.size + 1, 0, none⟩), .int .i64 0]) ∧ BookAt w' (w.heap.size + 1) w.heap.size tot (fun _ => none) 0 ∧ Below w.heap.size w w' := by
  have hmm := @run_makeMap Try.prog
  have d0 : decide (tot < 0) = false := decide_eq_false (by omega)
  have d1 : decide (1048576 < tot) = false := decide_eq_false (by omega)
  have hM := SMap.made (P := Try.prog) (tS := 9) (E := EM) w
  have hb := ((Below.refl w.heap.size w).alloc (Nat.le_refl _) (.map #[] 0)).alloc (by simp) (.cells #[.int .i64 tot, .map (some w.heap.size)] 54)
  have h1 := World.alloc_heap_new (w.alloc (.map #[] 0)) (.cells #[.int .i64 tot, .map (some w.heap.size)] 54)
  rw [World.size_alloc] at h1
  clear h
  go_enter Try.func7, Try.ntmps7
  go_wp2
  go_ret2
  exact ⟨rfl, ⟨h1, hM.block (Below.heap_alloc _ _ _ (by simp))⟩, hb⟩
def okB (c : UInt8) : Bool := (97 ≤ c.toNat && c.toNat ≤ 122) || (48 ≤ c.toNat && c.toNat ≤ 57) || c.toNat == 46 || c.toNat == 45 || c.toNat == 95
def nameB (l : List UInt8) : Bool := decide (1 ≤ l.length) && decide (l.length ≤ 32) && l.all okB
theorem okB_iff (c : UInt8) : okB c = true ↔ (97 ≤ (c.toNat : Int) ∧ (c.toNat : Int) ≤ 122) ∨ (48 ≤ (c.toNat : Int) ∧ (c.toNat : Int) ≤ 57) ∨ (c.toNat : Int) = 46 ∨ (c.toNat : Int) = 45 ∨ (c.toNat : Int) = 95 := by
  unfold okB
  simp only [Bool.or_eq_true, Bool.and_eq_true, decide_eq_true_eq, beq_iff_eq]
  omega
theorem all_take {l : List UInt8} {i : Nat} {c : UInt8} (hi : l[i]? = some c) (h : (l.take i).all okB = true) (hc : okB c = true) : (l.take (i + 1)).all okB = true := by
  rw [List.take_add_one, hi, List.all_append, h]
  simp [hc]
theorem all_fail {l : List UInt8} {i : Nat} {c : UInt8} (hi : l[i]? = some c) (hc : ¬ okB c = true) : nameB l = false := by
  have : l.all okB = false := by
    rw [List.all_eq_false]
    exact ⟨c, List.mem_of_getElem? hi, hc⟩
  simp [nameB, this]
set_option maxRecDepth 100000 in
set_option maxHeartbeats 8000000 in
theorem title_calls (s : ByteArray) (w : World) : Calls Try.prog 15 #[.string s] w fun e w' => e = .returned (.bool (nameB s.data.toList)) ∧ Below w.heap.size w w' := by
  obtain ⟨l, hl⟩ : ∃ l, l = s.data.toList := ⟨_, rfl⟩
  have hls : l.length = s.size := by rw [hl]; simp
  rw [← hl]
  by_cases c1 : s.size < 1
  · have hnb : nameB l = false := by simp [nameB]; omega
    have d0 : decide (s.size < 1) = true := decide_eq_true c1
    have d1 : decide ((s.size : Int) < 1) = true := decide_eq_true (by omega)
    rw [hnb]
    clear hnb hls hl
    go_enter Try.func15, Try.ntmps15
    go_wp2
    go_ret
    exact ⟨rfl, Below.refl _ _⟩
  · by_cases c2 : 32 < s.size
    · have hnb : nameB l = false := by simp [nameB]; omega
      have d1 : decide ((s.size : Int) < 1) = false := decide_eq_false (by omega)
      have d2 : decide ((32 : Int) < (s.size : Int)) = true := decide_eq_true (by omega)
      rw [hnb]
      clear hnb hls hl
      go_enter Try.func15, Try.ntmps15
      go_wp2
      go_ret
      exact ⟨rfl, Below.refl _ _⟩
    · have d1 : decide ((s.size : Int) < 1) = false := decide_eq_false (by omega)
      have d2 : decide ((32 : Int) < (s.size : Int)) = false := decide_eq_false (by omega)
      have hcv := run_bytes_of_string (P := Try.prog) w 9 36 5 s Try.underlying9 Try.underlying36 Try.underlying5
      obtain ⟨cap, hcap⟩ : ∃ cap, cap = grownCap w s.size 0 5 := ⟨_, rfl⟩
      rw [← hcap] at hcv
      obtain ⟨W1, hW1⟩ : ∃ W1, W1 = w.drew.alloc (.cells (bytesRow s cap) 5 ((bytesRow s cap).size, (bytesRow s cap).size + 1)) := ⟨_, rfl⟩
      have hbel : Below w.heap.size w W1 := by rw [hW1]; exact (Below.refl _ w).drew.alloc (Nat.le_refl _) _
      have hcell : ∀ i (hi : i < s.size), W1.cell? ⟨w.heap.size, i, none⟩ = some (.int .u8 (s.data[i].toNat : Int)) := by
        intro i hi
        have h1 : W1.heap[w.heap.size]? = some (.cells (bytesRow s cap) 5 ((bytesRow s cap).size, (bytesRow s cap).size + 1)) := by rw [hW1]; exact World.alloc_heap_new w.drew _
        have h2 := bytesRow_at s cap i hi
        simp [World.cell?, h1, h2]
      rw [← hW1] at hcv
      have hget : ∀ i (hi : i < s.size), l[i]? = some s.data[i] := by
        intro i hi
        rw [hl, Array.getElem?_toList]
        exact Array.getElem?_eq_getElem hi
      have HB := Lib.hid hbel
      have HC := Lib.hid hcell
      have HG := Lib.hid hget
      have HLS := Lib.hid hls
      obtain ⟨r, hr⟩ : ∃ r, r = nameB l := ⟨_, rfl⟩
      rw [← hr]
      have HR := Lib.hid hr
      clear hr
      have hs32 : (s.size : Int) ≤ 32 := by omega
      have hs1 : 1 ≤ s.size := by omega
      clear hW1 hbel hcell hget hls hl hcap c1 c2
      go_enter Try.func15, Try.ntmps15
      go_wp2
      clear d1 d2 hcv
      go_loopw [16] (fun v16 wr => ∃ i : Nat, i ≤ s.size ∧ v16 = .int .i64 (i : Int) ∧ (l.take i).all okB = true ∧ wr = W1) (fun v16 _ => s.size - (intOf v16).toNat)
      case atStart => exact ⟨0, Nat.zero_le _, rfl, by simp, rfl⟩
      case round =>
        obtain ⟨i, hi, rfl, hall, rfl⟩ := hrel
        by_cases hlt : i < s.size
        · have dl : decide (i < s.size) = true := decide_eq_true hlt
          have q2 : ((i : Int) < (s.size : Int)) = True := eq_true (by omega)
          have q3 : (0 ≤ (i : Int)) = True := eq_true (by omega)
          have ib : (i : Int) ≤ 32 := by omega
          have x0 := HC.out i hlt
          have hbd : (s.data[i].toNat : Int) < 256 := by have := s.data[i].toNat_lt; omega
          obtain ⟨x, hx⟩ : ∃ x : Int, x = (s.data[i].toNat : Int) := ⟨_, rfl⟩
          have hx0 : 0 ≤ x := by omega
          rw [← hx] at x0 hbd
          have HA := Lib.hid hall
          clear hall
          rcases (by omega : (97 ≤ x ∧ x ≤ 122) ∨ (97 ≤ x ∧ 122 < x) ∨ (48 ≤ x ∧ x ≤ 57) ∨ (x = 95) ∨ (57 < x ∧ x < 97 ∧ x ≠ 95) ∨ (x = 46) ∨ (x = 45) ∨ (x < 48 ∧ x ≠ 46 ∧ x ≠ 45)) with hc | hc | hc | hc | hc | hc | hc | hc
          · have e0 : decide (97 ≤ x) = true := decide_eq_true (by omega)
            have e1 : decide (x ≤ 122) = true := decide_eq_true (by omega)
            have hok : okB s.data[i] = true := (okB_iff _).2 (by rw [← hx]; omega)
            have HN := Lib.hid (all_take (HG.out i hlt) HA.out hok)
            clear hok
            go_wp2
            go_roundw
            case rel => exact ⟨i + 1, hlt, by go_num, HN.out, trivial⟩
            case measure => simp [intOf]; omega
          · have e0 : decide (97 ≤ x) = true := decide_eq_true (by omega)
            have e1 : decide (x ≤ 122) = false := decide_eq_false (by omega)
            have e2 : decide (48 ≤ x) = true := decide_eq_true (by omega)
            have e3 : decide (x ≤ 57) = false := decide_eq_false (by omega)
            have e4 : (x == 46) = false := beq_eq_false_iff_ne.2 (by omega)
            have e5 : (x == 45) = false := beq_eq_false_iff_ne.2 (by omega)
            have e6 : (x == 95) = false := beq_eq_false_iff_ne.2 (by omega)
            have hno : ¬ okB s.data[i] = true := fun h => by have := (okB_iff _).1 h; rw [← hx] at this; omega
            have hnb := all_fail (HG.out i hlt) hno
            have HNB := Lib.hid hnb
            clear hno hnb
            go_wp2
            go_ret
            exact ⟨by rw [HR.out, HNB.out]; rfl, HB.out⟩
          · have e0 : decide (97 ≤ x) = false := decide_eq_false (by omega)
            have e1 : decide (48 ≤ x) = true := decide_eq_true (by omega)
            have e2 : decide (x ≤ 57) = true := decide_eq_true (by omega)
            have hok : okB s.data[i] = true := (okB_iff _).2 (by rw [← hx]; omega)
            have HN := Lib.hid (all_take (HG.out i hlt) HA.out hok)
            clear hok
            go_wp2
            go_roundw
            case rel => exact ⟨i + 1, hlt, by go_num, HN.out, trivial⟩
            case measure => simp [intOf]; omega
          · have e0 : decide (97 ≤ x) = false := decide_eq_false (by omega)
            have e1 : decide (48 ≤ x) = true := decide_eq_true (by omega)
            have e2 : decide (x ≤ 57) = false := decide_eq_false (by omega)
            have e3 : (x == 46) = false := beq_eq_false_iff_ne.2 (by omega)
            have e4 : (x == 45) = false := beq_eq_false_iff_ne.2 (by omega)
            have e5 : (x == 95) = true := beq_iff_eq.2 (by omega)
            have hok : okB s.data[i] = true := (okB_iff _).2 (by rw [← hx]; omega)
            have HN := Lib.hid (all_take (HG.out i hlt) HA.out hok)
            clear hok
            go_wp2
            go_roundw
            case rel => exact ⟨i + 1, hlt, by go_num, HN.out, trivial⟩
            case measure => simp [intOf]; omega
          · have e0 : decide (97 ≤ x) = false := decide_eq_false (by omega)
            have e1 : decide (48 ≤ x) = true := decide_eq_true (by omega)
            have e2 : decide (x ≤ 57) = false := decide_eq_false (by omega)
            have e3 : (x == 46) = false := beq_eq_false_iff_ne.2 (by omega)
            have e4 : (x == 45) = false := beq_eq_false_iff_ne.2 (by omega)
            have e5 : (x == 95) = false := beq_eq_false_iff_ne.2 (by omega)
            have hno : ¬ okB s.data[i] = true := fun h => by have := (okB_iff _).1 h; rw [← hx] at this; omega
            have hnb := all_fail (HG.out i hlt) hno
            have HNB := Lib.hid hnb
            clear hno hnb
            go_wp2
            go_ret
            exact ⟨by rw [HR.out, HNB.out]; rfl, HB.out⟩
          · have e0 : decide (97 ≤ x) = false := decide_eq_false (by omega)
            have e1 : decide (48 ≤ x) = false := decide_eq_false (by omega)
            have e2 : (x == 46) = true := beq_iff_eq.2 (by omega)
            have hok : okB s.data[i] = true := (okB_iff _).2 (by rw [← hx]; omega)
            have HN := Lib.hid (all_take (HG.out i hlt) HA.out hok)
            clear hok
            go_wp2
            go_roundw
            case rel => exact ⟨i + 1, hlt, by go_num, HN.out, trivial⟩
            case measure => simp [intOf]; omega
          · have e0 : decide (97 ≤ x) = false := decide_eq_false (by omega)
            have e1 : decide (48 ≤ x) = false := decide_eq_false (by omega)
            have e2 : (x == 46) = false := beq_eq_false_iff_ne.2 (by omega)
            have e3 : (x == 45) = true := beq_iff_eq.2 (by omega)
            have hok : okB s.data[i] = true := (okB_iff _).2 (by rw [← hx]; omega)
            have HN := Lib.hid (all_take (HG.out i hlt) HA.out hok)
            clear hok
            go_wp2
            go_roundw
            case rel => exact ⟨i + 1, hlt, by go_num, HN.out, trivial⟩
            case measure => simp [intOf]; omega
          · have e0 : decide (97 ≤ x) = false := decide_eq_false (by omega)
            have e1 : decide (48 ≤ x) = false := decide_eq_false (by omega)
            have e2 : (x == 46) = false := beq_eq_false_iff_ne.2 (by omega)
            have e3 : (x == 45) = false := beq_eq_false_iff_ne.2 (by omega)
            have e4 : (x == 95) = false := beq_eq_false_iff_ne.2 (by omega)
            have hno : ¬ okB s.data[i] = true := fun h => by have := (okB_iff _).1 h; rw [← hx] at this; omega
            have hnb := all_fail (HG.out i hlt) hno
            have HNB := Lib.hid hnb
            clear hno hnb
            go_wp2
            go_ret
            exact ⟨by rw [HR.out, HNB.out]; rfl, HB.out⟩
        · obtain rfl : i = s.size := by omega
          have dl : decide (s.size < s.size) = false := decide_eq_false (Nat.lt_irrefl _)
          have hnb : nameB l = true := by
            have h1 : l.take s.size = l := List.take_of_length_le (by rw [HLS.out]; exact Nat.le_refl _)
            rw [h1] at hall
            have h2 := HLS.out
            simp [nameB, hall]
            omega
          have HNB := Lib.hid hnb
          clear hnb hall hlt hi
          go_wp2
          go_ret
          exact ⟨by rw [HR.out, HNB.out]; rfl, HB.out⟩
end Go.Proofs.YtgiiiolnagddnaaMar
end
section
namespace Go.Proofs.YtgiiiolnagddnaaMar
open Go.RowKit Go.Maps
set_option linter.unusedSimpArgs false
set_option linter.unusedVariables false
theorem look_some {W : World} {p b N : Nat} {tot : Int} {m : List UInt8 → Option (Int × Int)} (h : BookAt W p b tot m N) {s : ByteArray} (hs : s.size ≤ maxLen) {a : Int × Int} (hm : m s.data.toList = some a) :
    (Instr.lookup 52 (.map (some b)) (.string s) true).run Try.prog W = .ok (.tuple #[.agg #[.int .i64 a.1, .int .i64 a.2], .bool true]) W := by
  have := h.2.look Try.underlying9 Try.underlying52 (z := ((0 : Int), (0 : Int))) (Try.zeroValue57 W) hs
  rw [hm] at this
  exact this
theorem look_none {W : World} {p b N : Nat} {tot : Int} {m : List UInt8 → Option (Int × Int)} (h : BookAt W p b tot m N) {s : ByteArray} (hs : s.size ≤ maxLen) (hm : m s.data.toList = none) :
    (Instr.lookup 52 (.map (some b)) (.string s) true).run Try.prog W = .ok (.tuple #[.agg #[.int .i64 0, .int .i64 0], .bool false]) W := by
  have := h.2.look Try.underlying9 Try.underlying52 (z := ((0 : Int), (0 : Int))) (Try.zeroValue57 W) hs
  rw [hm] at this
  exact this
set_option maxRecDepth 100000 in
set_option maxHeartbeats 4000000 in
theorem Drop_calls {p b N : Nat} {tot : Int} {m : List UInt8 → Option (Int × Int)} (w : World) (h : BookAt w p b tot m N) (s : ByteArray) (hs : s.size ≤ maxLen) : Calls Try.prog 9 #[.pointer (some ⟨p, 0, none⟩), .string s] w fun e w' =>
    e = .returned (.int .i64 (if (m s.data.toList).isSome then 0 else 60)) ∧ BookAt w' p b tot (fun y => if y = s.data.toList then none else m y) (if (m s.data.toList).isSome then N - 1 else N) ∧ Only (fun k => k = b) w w' := by
  have c1 := h.c1
  cases hm : m s.data.toList with
  | none =>
    have hl := look_none h hs hm
    simp only [Option.isSome_none, Bool.false_eq_true, if_false]
    go_enter Try.func9, Try.ntmps9
    go_wp2
    go_ret
    have e1 : (fun y => if y = s.data.toList then none else m y) = m := by
      funext y
      by_cases c : y = s.data.toList
      · rw [if_pos c, c, hm]
      · rw [if_neg c]
    refine ⟨rfl, ?_, Only.alloc _ _ _⟩
    rw [e1]
    exact h.below ((Below.refl _ w).alloc (Nat.le_refl _) _)
  | some a =>
    have hl := look_some h hs hm
    simp only [Option.isSome_some, if_true]
    have h2 := h.below ((Below.refl _ w).alloc (Nat.le_refl _) (.cells #[.int .i64 a.1, .int .i64 a.2] 57))
    have c3 := h2.c1
    obtain ⟨W', hrun, hM, ht⟩ := h2.2.drop Try.underlying9 Try.underlying52 0 hs
    rw [hm] at hM
    simp only [Option.isSome_some, if_true] at hM
    go_enter Try.func9, Try.ntmps9
    go_wp2
    go_ret
    exact ⟨rfl, h2.turn ht hM, (Only.alloc _ _ _).trans (Only.turned ht rfl)⟩
theorem box_facts {w w' : World} {p b N : Nat} {tot : Int} {m : List UInt8 → Option (Int × Int)} (h : BookAt w p b tot m N) {s : ByteArray} {lo hi : Int} (h2 : Below (w.alloc (.cells #[.string s, .int .i64 lo, .int .i64 hi] 34)).heap.size (w.alloc (.cells #[.string s, .int .i64 lo, .int .i64 hi] 34)) w') :
    Below w.heap.size w w' ∧ BookAt w' p b tot m N ∧ w'.heap[w.heap.size]? = some (.cells #[.string s, .int .i64 lo, .int .i64 hi] 34 (0, 0)) := by
  have hB : Below w.heap.size w (w.alloc (.cells #[.string s, .int .i64 lo, .int .i64 hi] 34)) := (Below.refl _ w).alloc (Nat.le_refl _) _
  have hb2 := hB.trans (h2.mono (by simp))
  exact ⟨hb2, h.below hb2, (h2.block _ (by simp)).trans (World.alloc_heap_new w _)⟩
theorem cell_of {w : World} {g : Nat} {cs : Array Value} {t : TypeId} {f : Nat × Nat} (h : w.heap[g]? = some (.cells cs t f)) (i : Nat) : w.cell? ⟨g, i, none⟩ = cs[i]? := by
  simp [World.cell?, h]
def putE (tot : Int) (m : List UInt8 → Option (Int × Int)) (N : Nat) (l : List UInt8) (lo hi : Int) : Int :=
  if nameB l = false then 200 else if lo < 0 ∨ hi ≤ lo ∨ tot < hi then 12 else if (m l).isSome then 201 else if 256 ≤ N then 202 else 0
set_option maxRecDepth 100000 in
set_option maxHeartbeats 4000000 in
theorem Put_calls {p b N : Nat} {tot : Int} {m : List UInt8 → Option (Int × Int)} (w : World) (h : BookAt w p b tot m N) (s : ByteArray) (hs : s.size ≤ maxLen) (lo hi : Int) : Calls Try.prog 8 #[.pointer (some ⟨p, 0, none⟩), .agg #[.string s, .int .i64 lo, .int .i64 hi]] w fun e w' =>
    e = .returned (.int .i64 (putE tot m N s.data.toList lo hi)) ∧ BookAt w' p b tot (if putE tot m N s.data.toList lo hi = 0 then fun y => if y = s.data.toList then some (lo, hi) else m y else m) (if putE tot m N s.data.toList lo hi = 0 then N + 1 else N) ∧ Only (fun k => k = b) w w' := by
  have hB : Below w.heap.size w (w.alloc (.cells #[.string s, .int .i64 lo, .int .i64 hi] 34)) := (Below.refl _ w).alloc (Nat.le_refl _) _
  have hnew := World.alloc_heap_new w (.cells #[.string s, .int .i64 lo, .int .i64 hi] 34)
  have ht := title_calls s (w.alloc (.cells #[.string s, .int .i64 lo, .int .i64 hi] 34))
  have n200 : ¬ ((200 : Int) = 0) := by decide
  have n12 : ¬ ((12 : Int) = 0) := by decide
  have n201 : ¬ ((201 : Int) = 0) := by decide
  have n202 : ¬ ((202 : Int) = 0) := by decide
  cases hn : nameB s.data.toList with
  | false =>
    have hp : putE tot m N s.data.toList lo hi = 200 := by simp [putE, hn]
    rw [hn] at ht
    simp only [hp, if_neg n200]
    go_enter Try.func8, Try.ntmps8
    go_wp2_with (go_at_call 15; refine ht.mono ?_; rintro e w' ⟨rfl, h2⟩)
    go_ret
    have hb2 := hB.trans (h2.mono (by simp))
    exact ⟨rfl, h.below hb2, Only.of_below hb2⟩
  | true =>
    rw [hn] at ht
    by_cases c1 : lo < 0
    · have d1 : decide (lo < 0) = true := decide_eq_true c1
      have hp : putE tot m N s.data.toList lo hi = 12 := by simp [putE, hn, c1]
      simp only [hp, if_neg n12]
      go_enter Try.func8, Try.ntmps8
      go_wp2_with (go_at_call 15; refine ht.mono ?_; rintro e w' ⟨rfl, h2⟩; obtain ⟨hb2, h3, hbl⟩ := box_facts h h2; have z0 := cell_of hbl 0; have z1 := cell_of hbl 1; have z2 := cell_of hbl 2; have k0 := h3.c0)
      go_quiet (fail)
      rename_i nq
      have hq : Below w'.heap.size w' (w'.drewN nq) := ⟨rfl, rfl, rfl, Nat.le_refl _, fun k _ => rfl⟩
      go_wp2
      go_ret
      have hb4 := hb2.trans (hq.mono hb2.size)
      exact ⟨rfl, h.below hb4, Only.of_below hb4⟩
    have d1 : decide (lo < 0) = false := decide_eq_false c1
    by_cases c2 : hi ≤ lo
    · have d2 : decide (hi ≤ lo) = true := decide_eq_true c2
      have hp : putE tot m N s.data.toList lo hi = 12 := by simp [putE, hn, c2]
      simp only [hp, if_neg n12]
      go_enter Try.func8, Try.ntmps8
      go_wp2_with (go_at_call 15; refine ht.mono ?_; rintro e w' ⟨rfl, h2⟩; obtain ⟨hb2, h3, hbl⟩ := box_facts h h2; have z0 := cell_of hbl 0; have z1 := cell_of hbl 1; have z2 := cell_of hbl 2; have k0 := h3.c0)
      go_quiet (fail)
      rename_i nq
      have hq : Below w'.heap.size w' (w'.drewN nq) := ⟨rfl, rfl, rfl, Nat.le_refl _, fun k _ => rfl⟩
      go_wp2
      go_ret
      have hb4 := hb2.trans (hq.mono hb2.size)
      exact ⟨rfl, h.below hb4, Only.of_below hb4⟩
    have d2 : decide (hi ≤ lo) = false := decide_eq_false c2
    by_cases c3 : tot < hi
    · have d3 : decide (tot < hi) = true := decide_eq_true c3
      have hp : putE tot m N s.data.toList lo hi = 12 := by simp [putE, hn, c3]
      simp only [hp, if_neg n12]
      go_enter Try.func8, Try.ntmps8
      go_wp2_with (go_at_call 15; refine ht.mono ?_; rintro e w' ⟨rfl, h2⟩; obtain ⟨hb2, h3, hbl⟩ := box_facts h h2; have z0 := cell_of hbl 0; have z1 := cell_of hbl 1; have z2 := cell_of hbl 2; have k0 := h3.c0)
      go_quiet (fail)
      rename_i nq
      have hq : Below w'.heap.size w' (w'.drewN nq) := ⟨rfl, rfl, rfl, Nat.le_refl _, fun k _ => rfl⟩
      go_wp2
      go_ret
      have hb4 := hb2.trans (hq.mono hb2.size)
      exact ⟨rfl, h.below hb4, Only.of_below hb4⟩
    have d3 : decide (tot < hi) = false := decide_eq_false c3
    cases hm : m s.data.toList with
    | some a =>
      have hp : putE tot m N s.data.toList lo hi = 201 := by simp [putE, hn, c1, c2, c3, hm]
      simp only [hp, if_neg n201]
      go_enter Try.func8, Try.ntmps8
      go_wp2_with (go_at_call 15; refine ht.mono ?_; rintro e w' ⟨rfl, h2⟩; obtain ⟨hb2, h3, hbl⟩ := box_facts h h2; have z0 := cell_of hbl 0; have z1 := cell_of hbl 1; have z2 := cell_of hbl 2; have k0 := h3.c0)
      go_quiet (fail)
      rename_i nq
      have hq : Below w'.heap.size w' (w'.drewN nq) := ⟨rfl, rfl, rfl, Nat.le_refl _, fun k _ => rfl⟩
      obtain ⟨X, hX⟩ : ∃ X, X = w'.drewN nq := ⟨_, rfl⟩
      have g1 : Below w.heap.size w X := by rw [hX]; exact hb2.trans (hq.mono hb2.size)
      have g2 : BookAt X p b tot m N := h.below g1
      have g3 : X.heap[w.heap.size]? = some (.cells #[.string s, .int .i64 lo, .int .i64 hi] 34 (0, 0)) := by rw [hX]; exact hbl
      rw [← hX]
      clear hX hq z0 z1 z2 k0 hbl h3 hb2 h2 ht hnew hB w' d1 d2 d3
      have y0 := cell_of g3 0
      have y1 := cell_of g3 1
      have y2 := cell_of g3 2
      have ec := g2.c1
      have h4 : BookAt X.drew p b tot m N := g2.below (Below.refl _ X).drew
      have h5 : ∀ v : Int × Int, BookAt (X.alloc (.cells #[.int .i64 v.1, .int .i64 v.2] 57)).drew p b tot m N := fun v => g2.below (((Below.refl _ X).alloc (Nat.le_refl _) _).drew)
      have h6 : BookAt (X.alloc (.cells #[.int .i64 0, .int .i64 0] 57)).drew p b tot m N := h5 (0, 0)
      have b6 : (X.alloc (.cells #[.int .i64 0, .int .i64 0] 57)).drew.heap[w.heap.size]? = some (.cells #[.string s, .int .i64 lo, .int .i64 hi] 34 (0, 0)) := (Below.heap_alloc X _ _ (Array.getElem?_eq_some_iff.1 g3).1).trans g3
      have x0 := cell_of b6 0
      have hl6 := look_some h6 hs hm
      have ec6 := h6.c1
      have hl4 := look_some h4 hs hm
      have ec4 := h4.c1
      go_wp2
      go_region
      all_goals go_wp2
      all_goals go_ret
      all_goals exact ⟨rfl, h5 a, Only.of_below (g1.trans ((((Below.refl _ X).alloc (Nat.le_refl _) _).drew).mono g1.size))⟩
    | none =>
      by_cases c4 : 256 ≤ N
      · have hp : putE tot m N s.data.toList lo hi = 202 := by simp [putE, hn, c1, c2, c3, hm, c4]
        have d4 : decide (256 ≤ (N : Int)) = true := decide_eq_true (by omega)
        have d4' : decide (256 ≤ N) = true := decide_eq_true c4
        simp only [hp, if_neg n202]
        go_enter Try.func8, Try.ntmps8
        go_wp2_with (go_at_call 15; refine ht.mono ?_; rintro e w' ⟨rfl, h2⟩; obtain ⟨hb2, h3, hbl⟩ := box_facts h h2; have z0 := cell_of hbl 0; have z1 := cell_of hbl 1; have z2 := cell_of hbl 2; have k0 := h3.c0)
        go_quiet (fail)
        rename_i nq
        have hq : Below w'.heap.size w' (w'.drewN nq) := ⟨rfl, rfl, rfl, Nat.le_refl _, fun k _ => rfl⟩
        obtain ⟨X, hX⟩ : ∃ X, X = w'.drewN nq := ⟨_, rfl⟩
        have g1 : Below w.heap.size w X := by rw [hX]; exact hb2.trans (hq.mono hb2.size)
        have g2 : BookAt X p b tot m N := h.below g1
        have g3 : X.heap[w.heap.size]? = some (.cells #[.string s, .int .i64 lo, .int .i64 hi] 34 (0, 0)) := by rw [hX]; exact hbl
        rw [← hX]
        clear hX hq z0 z1 z2 k0 hbl h3 hb2 h2 ht hnew hB w' d1 d2 d3
        have y0 := cell_of g3 0
        have y1 := cell_of g3 1
        have y2 := cell_of g3 2
        have ec := g2.c1
        have h4 : BookAt X.drew p b tot m N := g2.below (Below.refl _ X).drew
        have h5 : BookAt (X.alloc (.cells #[.int .i64 0, .int .i64 0] 57)).drew p b tot m N := g2.below (((Below.refl _ X).alloc (Nat.le_refl _) _).drew)
        have b6 : (X.alloc (.cells #[.int .i64 0, .int .i64 0] 57)).drew.heap[w.heap.size]? = some (.cells #[.string s, .int .i64 lo, .int .i64 hi] 34 (0, 0)) := (Below.heap_alloc X _ _ (Array.getElem?_eq_some_iff.1 g3).1).trans g3
        have gY : Below w.heap.size w (X.alloc (.cells #[.int .i64 0, .int .i64 0] 57)).drew := g1.trans ((((Below.refl _ X).alloc (Nat.le_refl _) _).drew).mono g1.size)
        have x0 := cell_of b6 0
        have x1 := cell_of b6 1
        have x2 := cell_of b6 2
        have hl6 := look_none h5 hs hm
        have ec6 := h5.c1
        have hl4 := look_none h4 hs hm
        have ec4 := h4.c1
        have hlen := h5.2.len Try.underlying52 3
        go_wp2
        go_region
        all_goals go_wp2
        all_goals go_ret
        all_goals exact ⟨rfl, h5, Only.of_below gY⟩
      · have hp : putE tot m N s.data.toList lo hi = 0 := by simp [putE, hn, c1, c2, c3, hm, c4]
        have d4 : decide (256 ≤ (N : Int)) = false := decide_eq_false (by omega)
        have d4' : decide (256 ≤ N) = false := decide_eq_false c4
        simp only [hp, if_true]
        go_enter Try.func8, Try.ntmps8
        go_wp2_with (go_at_call 15; refine ht.mono ?_; rintro e w' ⟨rfl, h2⟩; obtain ⟨hb2, h3, hbl⟩ := box_facts h h2; have z0 := cell_of hbl 0; have z1 := cell_of hbl 1; have z2 := cell_of hbl 2; have k0 := h3.c0)
        go_quiet (fail)
        rename_i nq
        have hq : Below w'.heap.size w' (w'.drewN nq) := ⟨rfl, rfl, rfl, Nat.le_refl _, fun k _ => rfl⟩
        obtain ⟨X, hX⟩ : ∃ X, X = w'.drewN nq := ⟨_, rfl⟩
        have g1 : Below w.heap.size w X := by rw [hX]; exact hb2.trans (hq.mono hb2.size)
        have g2 : BookAt X p b tot m N := h.below g1
        have g3 : X.heap[w.heap.size]? = some (.cells #[.string s, .int .i64 lo, .int .i64 hi] 34 (0, 0)) := by rw [hX]; exact hbl
        rw [← hX]
        clear hX hq z0 z1 z2 k0 hbl h3 hb2 h2 ht hnew hB w' d1 d2 d3
        have y0 := cell_of g3 0
        have y1 := cell_of g3 1
        have y2 := cell_of g3 2
        have ec := g2.c1
        have h4 : BookAt X.drew p b tot m N := g2.below (Below.refl _ X).drew
        have h5 : BookAt (X.alloc (.cells #[.int .i64 0, .int .i64 0] 57)).drew p b tot m N := g2.below (((Below.refl _ X).alloc (Nat.le_refl _) _).drew)
        have b6 : (X.alloc (.cells #[.int .i64 0, .int .i64 0] 57)).drew.heap[w.heap.size]? = some (.cells #[.string s, .int .i64 lo, .int .i64 hi] 34 (0, 0)) := (Below.heap_alloc X _ _ (Array.getElem?_eq_some_iff.1 g3).1).trans g3
        have gY : Below w.heap.size w (X.alloc (.cells #[.int .i64 0, .int .i64 0] 57)).drew := g1.trans ((((Below.refl _ X).alloc (Nat.le_refl _) _).drew).mono g1.size)
        have x0 := cell_of b6 0
        have x1 := cell_of b6 1
        have x2 := cell_of b6 2
        have hl6 := look_none h5 hs hm
        have ec6 := h5.c1
        have hl4 := look_none h4 hs hm
        have ec4 := h4.c1
        have hlen := h5.2.len Try.underlying52 3
        have h7 : BookAt (X.alloc (.cells #[.int .i64 0, .int .i64 0] 57)).drew.drew p b tot m N := h5.below (Below.refl _ _).drew
        have u0 := x0
        have e7 := h7.c1
        obtain ⟨W', hrun, hM, hturn⟩ := h7.2.store Try.underlying9 Try.underlying52 (by unfold maxLen; omega) hs hm (lo, hi)
        rw [show EM.val (lo, hi) = .agg #[.int .i64 lo, .int .i64 hi] from rfl] at hrun
        go_wp2
        go_region
        all_goals go_wp2
        all_goals go_region
        all_goals go_wp2
        all_goals go_ret
        all_goals exact ⟨rfl, h7.turn hturn hM, (Only.of_below gY.drew).trans (Only.turned hturn rfl)⟩
end Go.Proofs.YtgiiiolnagddnaaMar
end
section
namespace Go.Proofs.YtgiiiolnagddnaaMar
open Go.RowKit Go.Maps
set_option linter.unusedSimpArgs false
set_option linter.unusedVariables false
theorem results_row {P : Program} {fn : Func} {p u : Tmp} {ty : TypeId} (h : fn.results = #[.cell p ty, .tmp u]) (tmps : Array Value) (w : World) (g : Nat) (t : TypeId) (cs : Array Value) (fr : Nat × Nat) (d : TypeDesc)
    (hp : tmps.getD p undef = .pointer (some ⟨g, 0, none⟩)) (hg : w.heap[g]? = some (.cells cs t fr))
    (hu : P.underlying ty = some d) (hd : (match d with | .struct _ | .array _ _ => true | _ => false) = true) (hi : (P.info? ty).map (·.size) = some cs.size) :
    (results fn tmps).run P w = .ok (.tuple #[.agg cs, tmps.getD u undef]) w := by
  have hp' : tmps[p]?.getD undef = .pointer (some ⟨g, 0, none⟩) := by simpa using hp
  simp [results, h, hp', asAddr, run_loadVar_row w g t ty cs fr d hg hu hd hi]
set_option maxRecDepth 100000 in
set_option maxHeartbeats 4000000 in
theorem Mark_calls {p b N : Nat} {tot : Int} {m : List UInt8 → Option (Int × Int)} (w : World) (h : BookAt w p b tot m N) (s : ByteArray) (hs : s.size ≤ maxLen) : Calls Try.prog 10 #[.pointer (some ⟨p, 0, none⟩), .string s] w fun e w' =>
    (match m s.data.toList with
    | some a => e = .returned (.tuple #[.agg #[.string s, .int .i64 a.1, .int .i64 a.2], .int .i64 0])
    | none => e = .returned (.tuple #[.agg #[.string ⟨#[]⟩, .int .i64 0, .int .i64 0], .int .i64 60])) ∧ Below w.heap.size w w' := by
  have h2 := h.below ((Below.refl _ w).alloc (Nat.le_refl _) (.cells #[.string ⟨#[]⟩, .int .i64 0, .int .i64 0] 34))
  have c1 := h2.c1
  cases hm : m s.data.toList with
  | none =>
    have hl := look_none h2 hs hm
    simp only
    go_enter Try.func10, Try.ntmps10
    go_wp2
    (try simp only [Exit.inBlock, Exit.then])
    refine bodyPost_ret (results_row rfl _ _ w.heap.size 34 #[.string ⟨#[]⟩, .int .i64 0, .int .i64 0] (0, 0) _ rfl ((Below.heap_alloc _ _ _ (by simp)).trans (World.alloc_heap_new w _)) Try.underlying34 rfl (by kernel_rfl)) rfl ?_
    exact ⟨rfl, ((Below.refl _ w).alloc (Nat.le_refl _) _).alloc (by simp) _⟩
  | some a =>
    have hl := look_some h2 hs hm
    simp only
    go_enter Try.func10, Try.ntmps10
    go_wp2
    (try simp only [Exit.inBlock, Exit.then])
    refine bodyPost_ret (results_row rfl _ _ w.heap.size 34 #[.string s, .int .i64 a.1, .int .i64 a.2] (0, 0) _ rfl ((Below.heap_alloc _ _ _ (by simp)).trans (World.alloc_heap_new w _)) Try.underlying34 rfl (by kernel_rfl)) rfl ?_
    exact ⟨rfl, ((Below.refl _ w).alloc (Nat.le_refl _) _).alloc (by simp) _⟩
end Go.Proofs.YtgiiiolnagddnaaMar
end
section
namespace Go.Proofs.YtgiiiolnagddnaaMar
open Go.RowKit Go.Maps
set_option linter.unusedSimpArgs false
set_option linter.unusedVariables false
theorem keyOf_str_inv {P : Program} {tS : TypeId} (hS : P.underlying tS = some .string) {key : Value} {kl : Lit} (h : keyOf P tS key = some kl) : ∃ s : ByteArray, key = .string s ∧ kl = .string s.data.toList ∧ s.size ≤ maxLen := by
  cases key <;> simp [keyOf, hS, mapKey] at h
  exact ⟨_, rfl, h.2.symm, h.1⟩
theorem keyOf_str_eq {P : Program} {tS : TypeId} (hS : P.underlying tS = some .string) {s : ByteArray} {kl : Lit} (h : keyOf P tS (.string s) = some kl) : kl = .string s.data.toList ∧ s.size ≤ maxLen := by
  obtain ⟨s', h1, h2, h3⟩ := keyOf_str_inv hS h
  cases h1
  exact ⟨h2, h3⟩
theorem sameStr (x y : List UInt8) : (Lit.string x).sameKey (.string y) = decide (x = y) := by
  simp [Lit.sameKey]
  by_cases h : x = y <;> simp [h]
theorem nodup_len {β : Type} : ∀ (l k : List β), l.Nodup → (∀ x ∈ l, x ∈ k) → l.length ≤ k.length := by
  classical
  intro l
  induction l with
  | nil => intro k _ _; exact Nat.zero_le _
  | cons a l ih =>
    intro k hn hs
    have ha := hs a (List.mem_cons_self ..)
    have hn' := List.nodup_cons.1 hn
    have h1 := ih (k.erase a) hn'.2 (fun x hx => (List.mem_erase_of_ne (fun e => hn'.1 (by rw [← e]; exact hx))).2 (hs x (List.mem_cons_of_mem _ hx)))
    have h2 := List.length_erase_of_mem ha
    have h3 : 0 < k.length := List.length_pos_of_mem ha
    simp
    omega
abbrev Nm := ByteArray × (Int × Int)
abbrev nmOf (q : Nm) : List UInt8 := q.1.data.toList
structure Trail (D : DataW Unit) (left : Lit → Bool) (L : List Nm) : Prop where
  nodup : (L.map nmOf).Nodup
  at_ : ∀ q ∈ L, q.1.size ≤ maxLen ∧ ∀ z, D.atKey (.string (nmOf q)) z = EM.dat q.2
  left_ : ∀ z, left z = (Maps.has D z && !(L.any fun q => (Lit.string (nmOf q)).sameKey z))
theorem Trail.start (D : DataW Unit) : Trail D (Maps.has D) [] := ⟨by simp, (by intro q hq; cases hq), (by intro z; simp)⟩
theorem Trail.step {D : DataW Unit} {left : Lit → Bool} {L : List Nm} (h : Trail D left L) {s : ByteArray} (hs : s.size ≤ maxLen) (hl : left (.string s.data.toList) = true) {c : Int × Int} (hc : ∀ z, D.atKey (.string s.data.toList) z = EM.dat c) :
    Trail D (fun z => left z && !z.sameKey (.string s.data.toList)) (L ++ [(s, c)]) := by
  refine ⟨?_, ?_, ?_⟩
  · rw [List.map_append, List.nodup_append]
    refine ⟨h.nodup, by simp, ?_⟩
    intro a ha b hb e
    simp at hb
    subst hb
    subst e
    obtain ⟨q, hq, he⟩ := List.mem_map.1 ha
    rw [h.left_] at hl
    simp only [Bool.and_eq_true, Bool.not_eq_true'] at hl
    have := List.any_eq_false.1 hl.2 q hq
    rw [sameStr] at this
    exact this (decide_eq_true he)
  · intro q hq
    rcases List.mem_append.1 hq with h1 | h1
    · exact h.at_ q h1
    · simp at h1
      subst h1
      exact ⟨hs, hc⟩
  · intro z
    rw [h.left_, List.any_append]
    have hsym : z.sameKey (.string s.data.toList) = (Lit.string s.data.toList).sameKey z := by
      cases z <;> simp [Lit.sameKey]
      exact Bool.beq_comm
    simp [hsym, Bool.and_assoc, nmOf]
theorem Trail.all {W : World} {b N n : Nat} {D : DataW Unit} {left : Lit → Bool} {L : List Nm} (h : Trail D left L) (hl : ∀ z, left z = false) (hown : W.ownsMap Try.prog 9 EM.R b n D) (K : Keyed Try.prog 9) (hsz : Maps.size D = N) : L.length = N := by
  obtain ⟨es, rfl, hne, hkey⟩ := hown.entries K
  have hN : es.length = N := hsz
  have h1 : (es.map (·.1)).length ≤ (L.map fun q => Lit.string (nmOf q)).length := by
    refine nodup_len _ _ (List.pairwise_map.2 hne) ?_
    intro x hx
    obtain ⟨p, hp, rfl⟩ := List.mem_map.1 hx
    have hhas : Maps.has (.map es : DataW Unit) p.1 = true := List.any_eq_true.2 ⟨p, hp, WideAt.sameKey_self (hkey p hp)⟩
    have := hl p.1
    rw [h.left_, hhas] at this
    simp only [Bool.true_and, Bool.not_eq_false'] at this
    obtain ⟨q, hq, he⟩ := List.any_eq_true.1 this
    exact List.mem_map.2 ⟨q, hq, WideAt.sameKey_eq he⟩
  have h2 : (L.map fun q => Lit.string (nmOf q)).length ≤ (es.map (·.1)).length := by
    refine nodup_len _ _ ?_ ?_
    · have := h.nodup
      refine List.pairwise_map.2 ((List.pairwise_map.1 this).imp ?_)
      intro a b hab e
      exact hab (Lit.string.inj e)
    · intro x hx
      obtain ⟨q, hq, rfl⟩ := List.mem_map.1 hx
      have := has_true_of_atKey (h.at_ q hq).2
      obtain ⟨p, hp, he⟩ := List.any_eq_true.1 this
      exact List.mem_map.2 ⟨p, hp, WideAt.sameKey_eq he⟩
  simp at h1 h2
  omega
end Go.Proofs.YtgiiiolnagddnaaMar
end
section
namespace Go.Proofs.YtgiiiolnagddnaaMar
open Go.Sort Go.Maps
set_option linter.unusedSimpArgs false
set_option linter.unusedVariables false
def cmpInt (a b : Int) : Int := if a < b then -1 else if b < a then 1 else 0
def cmpStr (a b : ByteArray) : Int := if Op.bytesLess a.toList b.toList = true then -1 else if Op.bytesLess b.toList a.toList = true then 1 else 0
def or3 (x y z : Int) : Int := if x ≠ 0 then x else if y ≠ 0 then y else z
def cfN (a b : Nm) : Int := or3 (cmpInt a.2.1 b.2.1) (cmpInt a.2.2 b.2.2) (cmpStr a.1 b.1)
def ltN (a b : Nm) : Prop := a.2.1 < b.2.1 ∨ (a.2.1 = b.2.1 ∧ (a.2.2 < b.2.2 ∨ (a.2.2 = b.2.2 ∧ nmOf a < nmOf b)))
theorem cmpStr_lt (a b : ByteArray) : cmpStr a b < 0 ↔ a.data.toList < b.data.toList := by
  unfold cmpStr
  rw [bytesLess_eq, bytesLess_eq, Lib.toList_data, Lib.toList_data]
  by_cases h1 : a.data.toList < b.data.toList
  · simp [h1]
  · by_cases h2 : b.data.toList < a.data.toList <;> simp [h1, h2]
theorem cfN_lt (a b : Nm) : cfN a b < 0 ↔ ltN a b := by
  have hs := cmpStr_lt a.1 b.1
  unfold cfN or3 cmpInt ltN
  rcases Int.lt_trichotomy a.2.1 b.2.1 with h | h | h
  · simp [h]
  · rcases Int.lt_trichotomy a.2.2 b.2.2 with k | k | k
    · simp [h, k]
    · simp [h, k, hs]
    · have : ¬ a.2.2 < b.2.2 := by omega
      have : ¬ a.2.2 = b.2.2 := by omega
      simp [h, *]
  · have : ¬ a.2.1 < b.2.1 := by omega
    have : ¬ a.2.1 = b.2.1 := by omega
    simp [*]
theorem tri (a b : List UInt8) : a < b ∨ a = b ∨ b < a := by
  by_cases h1 : a < b
  · exact .inl h1
  · by_cases h2 : b < a
    · exact .inr (.inr h2)
    · exact .inr (.inl (List.le_antisymm (List.not_lt.1 h2) (List.not_lt.1 h1)))
theorem ltN_tri (a b : Nm) : ltN a b ∨ (a.2 = b.2 ∧ nmOf a = nmOf b) ∨ ltN b a := by
  unfold ltN
  rcases Int.lt_trichotomy a.2.1 b.2.1 with h | h | h
  · exact .inl (.inl h)
  · rcases Int.lt_trichotomy a.2.2 b.2.2 with k | k | k
    · exact .inl (.inr ⟨h, .inl k⟩)
    · rcases tri (nmOf a) (nmOf b) with s | s | s
      · exact .inl (.inr ⟨h, .inr ⟨k, s⟩⟩)
      · exact .inr (.inl ⟨Prod.ext h k, s⟩)
      · exact .inr (.inr (.inr ⟨h.symm, .inr ⟨k.symm, s⟩⟩))
    · exact .inr (.inr (.inr ⟨h.symm, .inl k⟩))
  · exact .inr (.inr (.inl h))
theorem ltN_irrefl (a : Nm) : ¬ ltN a a := by
  unfold ltN
  rintro (h | ⟨_, h | ⟨_, h⟩⟩)
  · omega
  · omega
  · exact List.lt_irrefl _ h
theorem ltN_trans {a b c : Nm} (h1 : ltN a b) (h2 : ltN b c) : ltN a c := by
  unfold ltN at *
  rcases h1 with h1 | ⟨e1, h1⟩ <;> rcases h2 with h2 | ⟨e2, h2⟩
  · exact .inl (by omega)
  · exact .inl (by omega)
  · exact .inl (by omega)
  · refine .inr ⟨by omega, ?_⟩
    rcases h1 with h1 | ⟨f1, h1⟩ <;> rcases h2 with h2 | ⟨f2, h2⟩
    · exact .inl (by omega)
    · exact .inl (by omega)
    · exact .inl (by omega)
    · exact .inr ⟨by omega, List.lt_trans h1 h2⟩
theorem ltN_congr {a b c : Nm} (h : a.2 = b.2 ∧ nmOf a = nmOf b) : ltN a c ↔ ltN b c := by
  unfold ltN
  rw [h.1, h.2]
theorem swoN : SWO (fun x y : Nm => decide (cfN x y < 0)) where
  irrefl x := by simp only [cfN_lt, decide_eq_false_iff_not]; exact ltN_irrefl x
  trans x y z h1 h2 := by simp only [cfN_lt, decide_eq_true_eq] at *; exact ltN_trans h1 h2
  ntrans x y z h1 h2 := by
    simp only [cfN_lt, decide_eq_false_iff_not] at *
    intro h
    rcases ltN_tri x y with k | k | k
    · exact h1 k
    · exact h2 ((ltN_congr k).1 h)
    · exact h2 (ltN_trans k h)
theorem strict_of {l : List Nm} (h : l.Pairwise (fun p q => ¬ ltN q p)) (hn : (l.map nmOf).Nodup) : l.Pairwise ltN := by
  have hn' := List.pairwise_map.1 hn
  refine (h.and hn').imp ?_
  rintro a b ⟨h1, h2⟩
  rcases ltN_tri a b with k | k | k
  · exact k
  · exact absurd k.2 h2
  · exact absurd k h1
theorem dat_inj {a b : Int × Int} (h : EM.dat a = EM.dat b) : a = b := by
  simp [EM] at h
  exact Prod.ext h.1 h.2
theorem nm_ext {p q : Nm} (h : nmOf p = nmOf q) (h2 : p.2 = q.2) : p = q := by
  obtain ⟨⟨⟨a⟩⟩, x⟩ := p
  obtain ⟨⟨⟨b⟩⟩, y⟩ := q
  simp only [nmOf] at h
  subst h
  subst h2
  rfl
def Says (D : DataW Unit) (m : List UInt8 → Option (Int × Int)) : Prop := ∀ x : List UInt8, x.length ≤ maxLen → match m x with
    | some a => ∀ z, D.atKey (.string x) z = EM.dat a
    | none => ∀ z, D.atKey (.string x) z = z
theorem SMap.says {W : World} {b N : Nat} {m : List UInt8 → Option (Int × Int)} (h : SMap Try.prog 9 EM W b m N) : ∃ D : DataW Unit, W.ownsMap Try.prog 9 EM.R b N D ∧ Maps.size D = N ∧ Says D m := by
  obtain ⟨D, h1, h2, h3⟩ := h
  refine ⟨D, h1, h2, fun x hx => ?_⟩
  have := h3 x hx
  cases hm : m x with
  | none => rw [hm] at this; exact this
  | some a => rw [hm] at this; exact this
theorem Trail.mem {m : List UInt8 → Option (Int × Int)} {D : DataW Unit} {L : List Nm} (hS : Says D m) (h : Trail D (fun _ => false) L) (q : Nm) : q ∈ L ↔ (q.1.size ≤ maxLen ∧ m (nmOf q) = some q.2) := by
  have key : ∀ p : Nm, p ∈ L → (p.1.size ≤ maxLen ∧ m (nmOf p) = some p.2) := by
    intro p hp
    obtain ⟨h1, h2⟩ := h.at_ p hp
    refine ⟨h1, ?_⟩
    have h3 := hS (nmOf p) (by simpa [nmOf] using h1)
    cases hm : m (nmOf p) with
    | none =>
      rw [hm] at h3
      have e1 := has_true_of_atKey h2
      have e2 := has_false_of_atKey h3
      rw [e1] at e2
      cases e2
    | some a =>
      rw [hm] at h3
      have := (h3 (EM.dat a)).symm.trans (h2 (EM.dat a))
      rw [dat_inj this]
  refine ⟨key q, fun ⟨h1, h2⟩ => ?_⟩
  have h3 := hS (nmOf q) (by simpa [nmOf] using h1)
  rw [h2] at h3
  have hh := has_true_of_atKey h3
  have hl := h.left_ (.string (nmOf q))
  rw [hh] at hl
  simp only [Bool.true_and] at hl
  have hl' : (L.any fun p => (Lit.string (nmOf p)).sameKey (.string (nmOf q))) = true := by
    cases hx : (L.any fun p => (Lit.string (nmOf p)).sameKey (.string (nmOf q))) with
    | true => rfl
    | false => rw [hx] at hl; cases hl
  obtain ⟨p, hp, he⟩ := List.any_eq_true.1 hl'
  rw [sameStr] at he
  have he := of_decide_eq_true he
  have := (key p hp).2
  rw [he, h2] at this
  have := nm_ext he (Option.some.inj this).symm
  rwa [← this]
end Go.Proofs.YtgiiiolnagddnaaMar
end
section
namespace Go.Proofs.YtgiiiolnagddnaaMar
open Go.RowKit Go.Maps Go.Lib
set_option linter.unusedSimpArgs false
set_option linter.unusedVariables false
theorem EMinv {v : Value} {y : DataW Unit × List MemPlace} (h : EM.R v = some y) : ∃ c, v = EM.val c := by
  cases v <;> simp [EM] at h
  rename_i cs
  cases cs with | mk l =>
  split at h
  · rename_i h'
    simp at h'
    subst h'
    exact ⟨(_, _), rfl⟩
  · cases h
def cells3 (q : Nm) : List Value := [.string q.1, .int .i64 q.2.1, .int .i64 q.2.2]
def flat3 (L : List Nm) : List Value := L.flatMap cells3
theorem flat3_len (L : List Nm) : (flat3 L).length = L.length * 3 := by
  induction L with
  | nil => rfl
  | cons q L ih => simp only [flat3, List.flatMap_cons, List.length_append, List.length_cons] at ih ⊢; rw [ih]; simp [cells3]; omega
theorem flat3_snoc (L : List Nm) (q : Nm) : flat3 (L ++ [q]) = flat3 L ++ cells3 q := by simp [flat3]
theorem info34 : ∃ i, Try.prog.info? 34 = some i ∧ i.zero = some (.agg #[.string ⟨#[]⟩, .int .i64 0, .int .i64 0]) ∧ i.size = 3 ∧ i.bytes = 32 := by
  have h : (Try.prog.info? 34).map (fun i => (i.zero, i.size, i.bytes)) = some (some (.agg #[.string ⟨#[]⟩, .int .i64 0, .int .i64 0]), 3, 32) := by kernel_rfl
  cases hi : Try.prog.info? 34 with
  | none => rw [hi] at h; cases h
  | some i =>
    rw [hi] at h
    simp at h
    exact ⟨i, rfl, h.1, h.2.1, h.2.2⟩
theorem row_ne {w : World} {base b r n : Nat} {v : Value} {k : Nat} {xs : List Value} {D : DataW Unit} {left : Lit → Bool} {cnt : Nat} (hrow : w.ownsRow base 34 3 v k xs) (hr : w.ranges Try.prog 9 EM.R b r n D left cnt) (hb : b < base) : some b ≠ v.ownBlock ∧ some r ≠ v.ownBlock := by
  rcases hrow.2 with ⟨rfl, _⟩ | ⟨g, cap, cur, rfl, hbase, hbl, _⟩
  · exact ⟨by simp [Value.ownBlock], by simp [Value.ownBlock]⟩
  · obtain ⟨es, clock, since, seen, c0, _, _, _, _, hit, _⟩ := hr
    refine ⟨fun e => ?_, fun e => ?_⟩
    · simp [Value.ownBlock] at e
      omega
    · simp [Value.ownBlock] at e
      subst e
      rw [hbl] at hit
      cases hit
theorem below_grown {B : Nat} {a w w' : World} {row : Option Nat} (h : Below B a w) (hB : B ≤ a.heap.size) (hg : w.grownBy w' row) (hr : ∀ j, row = some j → B ≤ j) : Below B a w' :=
  ⟨hg.os.trans h.os, hg.tape.trans h.tape, hg.output.trans h.output, Nat.le_trans h.size hg.size, fun i hi => (hg.block i (Nat.lt_of_lt_of_le (Nat.lt_of_lt_of_le hi hB) h.size) (fun e => by have := hr i e.symm; omega)).trans (h.block i hi)⟩
theorem row_zero {w : World} {base : Nat} {t : TypeId} {c : Nat} {v : Value} {k : Nat} {xs : List Value} (h : w.ownsRow base t c v k xs) (hk : k = 0) : ∃ p cap, v = .slice p 0 cap := by
  subst hk
  rcases h.2 with ⟨hnil, _⟩ | ⟨g, cap, cur, hv, _⟩
  · exact ⟨_, _, hnil⟩
  · exact ⟨_, _, hv⟩
def SortOk : Prop := ∀ (base : Nat) (g cap : Nat) (L : List Nm) (W : World), W.ownsRow base 34 3 (.slice (some ⟨g, 0, none⟩) L.length cap) L.length (flat3 L) → 0 < L.length → L.length ≤ 256 →
  Calls Try.prog 16 #[.slice (some ⟨g, 0, none⟩) L.length cap, .func (.func 17) #[] #[]] W fun e w' => e = .returned (.tuple #[]) ∧ ∃ zs : List Nm, zs.Perm L ∧ zs.Pairwise (fun p q => ¬ ltN q p) ∧ w'.ownsRow base 34 3 (.slice (some ⟨g, 0, none⟩) L.length cap) L.length (flat3 zs) ∧ Below base W w'
def SortNil : Prop := ∀ (W : World) (p : Option Addr) (cap : Nat), Calls Try.prog 16 #[.slice p 0 cap, .func (.func 17) #[] #[]] W fun e w' => e = .returned (.tuple #[]) ∧ w' = W
structure AllOf (m : List UInt8 → Option (Int × Int)) (N : Nat) (zs : List Nm) : Prop where
  len : zs.length = N
  sorted : zs.Pairwise ltN
  mem : ∀ q, q ∈ zs ↔ (q.1.size ≤ maxLen ∧ m (nmOf q) = some q.2)
theorem AllOf.of {m : List UInt8 → Option (Int × Int)} {D : DataW Unit} {L zs : List Nm} (hS : Says D m) (h : Trail D (fun _ => false) L) (hp : zs.Perm L) (hs : zs.Pairwise (fun p q => ¬ ltN q p)) : AllOf m L.length zs :=
  ⟨hp.length_eq, strict_of hs ((hp.map nmOf).nodup_iff.2 h.nodup), fun q => (hp.mem_iff).trans (h.mem hS q)⟩
set_option maxRecDepth 100000 in
set_option maxHeartbeats 1000000 in
theorem Marks_calls (HS : SortOk) (HZ : SortNil) {p b N : Nat} {tot : Int} {m : List UInt8 → Option (Int × Int)} (w : World) (h : BookAt w p b tot m N) (hN : N ≤ 256) : Calls Try.prog 11 #[.pointer (some ⟨p, 0, none⟩)] w fun e w' =>
    ∃ v zs, e = .returned v ∧ AllOf m N zs ∧ w'.ownsRow w.heap.size 34 3 v N (flat3 zs) ∧ Below w.heap.size w w' := by
  have K9 : Keyed Try.prog 9 := string_keyed Try.underlying9
  obtain ⟨i34, hi, hz0, hz1, hz2⟩ := info34
  have c1 := h.c1
  have hblt := h.2.lt
  obtain ⟨D, hown, hsz, hD⟩ := h.2.says
  have HD := Lib.hid hD
  clear hD
  go_enter Try.func11, Try.ntmps11
  go_wp2_with (first
    | (at_range; refine wpList_range_own _ rfl _ 52 rfl 9 57 K9 Try.underlying52 EM.R b N D rfl hown ?_; intro w0 hrg0 hg0 hs0)
    | go_in)
  go_frame
  go_loopw [3] (fun v wr => ∃ (left : Lit → Bool) (cnt : Nat) (L : List Nm), wr.ranges Try.prog 9 EM.R b w.heap.size N D left cnt ∧ wr.ownsRow w.heap.size 34 3 v L.length (flat3 L) ∧ Hid (Trail D left L) ∧ L.length + cnt ≤ N ∧ Hid (Below w.heap.size w wr))
    (fun _ wr => wr.rangeLeft b w.heap.size)
  case atStart =>
    refine ⟨_, _, [], hrg0, World.ownsRow_nil _ _ _ _, Trail.start D, by simp [hsz], ?_⟩
    exact below_grown (Below.refl _ w) (Nat.le_refl _) hg0 (fun j hj => by cases hj)
  case round =>
    obtain ⟨left, cnt, L, hrg, hrow, HT, hlen, HB⟩ := hrel
    go_wp2_with (first
      | (at_next; refine wpList_next_ranges _ rfl _ rfl 9 K9 EM.R Value.string EM.val (fun key kl hk => by obtain ⟨s, hs, _⟩ := keyOf_str_inv Try.underlying9 hk; exact ⟨s, hs⟩) (fun v y hv => EMinv hv) b w.heap.size N _ _ _ rfl hrg ?_ ?_)
      | go_in)
    · intro hc0 hl0
      have hL : L.length = N := HT.out.all hl0 hown K9 hsz
      have hl : left = fun _ => false := funext hl0
      subst hl
      by_cases c0 : L.length = 0
      · have hL0 : L = [] := List.length_eq_zero_iff.1 c0
        subst hL0
        obtain ⟨pp, cap, hvv⟩ := row_zero hrow rfl
        subst hvv
        subst hL
        have HR := Lib.hid hrow
        clear hrg HS hrow
        go_wp2_with (go_at_call 16; refine (HZ _ _ _).mono ?_; rintro e w' ⟨rfl, rfl⟩)
        go_ret
        exact ⟨_, [], rfl, AllOf.of HD.out HT.out (List.Perm.refl _) List.Pairwise.nil, HR.out, HB.out⟩
      rcases hrow.2 with ⟨hnil, hk0⟩ | ⟨g, cap, cur, hv, hbase, hb, h1, h2, h3, h4⟩
      · exact absurd hk0 c0
      · subst hv
        subst hL
        have hcall := HS _ g cap L wr hrow (by omega) hN
        clear hrg HS
        go_wp2_with (go_at_call 16; refine hcall.mono ?_; rintro e w' ⟨rfl, zs, hp, hR, hz, hbz⟩)
        go_ret
        exact ⟨_, zs, rfl, AllOf.of HD.out HT.out hp hR, hz, HB.out.trans hbz⟩
    · intro s c1 c2 kl y1 y2 w1 cnt1 hkey hlk hR hat hrg1 hlt hg1 hs1 hen
      obtain ⟨rfl, hsl⟩ := keyOf_str_eq Try.underlying9 hkey
      have hm0 : wr.rangeLeft b w.heap.size = cnt := hrg.left_eq
      have hy : (y1, y2) = (EM.dat (c1, c2), []) := by rw [EM.put] at hR; exact (Option.some.inj hR).symm
      have hT1 := HT.out.step hsl hlk (c := (c1, c2)) (fun z => (hat z).trans (congrArg Prod.fst hy))
      have HT1 := Lib.hid hT1
      have HB1 : Hid (Below w.heap.size w w1) := below_grown HB.out (Nat.le_refl _) hg1 (fun j hj => by cases hj; exact Nat.le_refl _)
      have hne := row_ne hrow hrg hblt
      have hrow1 := hrow.kept hg1 (Or.inr (fun e => hne.2 e.symm))
      have hval : EM.val (c1, c2) = .agg #[.int .i64 c1, .int .i64 c2] := rfl
      rw [hval] at hen ⊢
      clear hT1 HT hrow hrg hne HB hkey hlk hR hat hy hval HS h
      have hne1 := row_ne hrow1 hrg1 hblt
      have hbel := HB1.out
      have hz1' := hbel.size
      have hW2 : ((w1.alloc (.cells #[.int .i64 c1, .int .i64 c2] 57)).alloc (.cells #[.string s, .int .i64 c1, .int .i64 c2] 34)).heap[w1.heap.size + 1]? = some (.cells #[.string s, .int .i64 c1, .int .i64 c2] 34 (0, 0)) := by
        have := World.alloc_heap_new (w1.alloc (.cells #[.int .i64 c1, .int .i64 c2] 57)) (.cells #[.string s, .int .i64 c1, .int .i64 c2] 34)
        rwa [World.size_alloc] at this
      have hrow3 := (hrow1.alloc (.cells #[.int .i64 c1, .int .i64 c2] 57)).alloc (.cells #[.string s, .int .i64 c1, .int .i64 c2] 34)
      have hrg3 := (hrg1.alloc (.cells #[.int .i64 c1, .int .i64 c2] 57)).alloc (.cells #[.string s, .int .i64 c1, .int .i64 c2] 34)
      have hB3 : Hid (Below w.heap.size w ((w1.alloc (.cells #[.int .i64 c1, .int .i64 c2] 57)).alloc (.cells #[.string s, .int .i64 c1, .int .i64 c2] 34))) := (hbel.alloc hz1' _).alloc (by simp; omega) _
      have hcn : ∀ j u, (cells3 (s, (c1, c2)))[j]? = some u → ((w1.alloc (.cells #[.int .i64 c1, .int .i64 c2] 57)).alloc (.cells #[.string s, .int .i64 c1, .int .i64 c2] 34)).cell? ((⟨w1.heap.size + 1, 0, none⟩ : Addr).add j) = some u := by
        intro j u hj
        have e : (⟨w1.heap.size + 1, 0, none⟩ : Addr).add j = ⟨w1.heap.size + 1, j, none⟩ := by simp [Addr.add]; exact fun e => e.symm
        rw [e, cell_of hW2]
        match j, hj with
        | 0, hj => exact hj
        | 1, hj => exact hj
        | 2, hj => exact hj
      clear hs1 hg1 hne1 hbel hW2 hrow1 hrg1 HB1
      have HCN := Lib.hid hcn
      clear hcn
      go_wp2_with (first
        | (at_builtin; refine wpList_append_lies _ rfl _ _ 39 rfl w.heap.size 34 i34 (.agg #[.string ⟨#[]⟩, .int .i64 0, .int .i64 0]) 3 32 Try.underlying39 hi hz0 hz1 hz2 rfl (by decide) _ L.length (flat3 L) rfl hrow3 ⟨w1.heap.size + 1, 0, none⟩ 1 1 (cells3 (s, (c1, c2))) rfl rfl HCN.out ?c2 (by decide) ?c3 ?c4 ?c5 _ rfl ?_)
        | go_in)
      case c2 => intro u hu; simp [cells3] at hu; rcases hu with rfl | rfl | rfl <;> rfl
      case c3 => unfold maxLen; omega
      case c4 => omega
      case c5 => exact hB3.out.size
      · intro g cap w2 hown2 hgrow hloc hglt
        have hnn := row_ne hrow3 hrg3 hblt
        have hrg4 := hrg3.kept hgrow hnn.1 hnn.2
        have HB4 : Hid (Below w.heap.size w w2) := below_grown hB3.out (Nat.le_refl _) hgrow (fun j hj => (hrow3.lt j hj).1)
        have e1 : (L ++ [(s, (c1, c2))]).length = L.length + 1 := by simp
        have hrow4 : w2.ownsRow w.heap.size 34 3 (.slice (some ⟨g, 0, none⟩) (L.length + 1) cap) (L ++ [(s, (c1, c2))]).length (flat3 (L ++ [(s, (c1, c2))])) := by rw [flat3_snoc, e1]; exact hown2
        clear hown2 hgrow hloc hglt hrg3 hrow3 hB3 hnn HCN
        go_wp2
        go_roundw
        case rel => exact ⟨_, cnt1, L ++ [(s, (c1, c2))], hrg4, hrow4, HT1, by rw [e1]; omega, HB4⟩
        case measure => rw [hrg4.left_eq, hm0]; omega
end Go.Proofs.YtgiiiolnagddnaaMar
end
section
namespace Go.Proofs.YtgiiiolnagddnaaMar
open Go.RowKit Go.Maps Go.Lib
set_option linter.unusedSimpArgs false
set_option linter.unusedVariables false
theorem nanI_calls (x : Int) (w : World) : Calls Try.prog 25 #[.int .i64 x] w fun e w' => e = .returned (.bool false) ∧ w' = w := by
  go_enter Try.func25, Try.ntmps25
  go_wp2
  go_ret
  exact ⟨by simp, rfl⟩
theorem nanS_calls (x : ByteArray) (w : World) : Calls Try.prog 26 #[.string x] w fun e w' => e = .returned (.bool false) ∧ w' = w := by
  go_enter Try.func26, Try.ntmps26
  go_wp2
  go_ret
  exact ⟨by simp, rfl⟩
set_option maxRecDepth 100000 in
theorem cmpI_calls (a b : Int) (w : World) : Calls Try.prog 19 #[.int .i64 a, .int .i64 b] w fun e w' => e = .returned (.int .i64 (cmpInt a b)) ∧ w' = w := by
  unfold cmpInt
  by_cases c1 : a < b
  · have d1 : decide (a < b) = true := decide_eq_true c1
    simp only [if_pos c1]
    clear c1
    go_enter Try.func19, Try.ntmps19
    go_wp2_with (first | (go_at_call 25; refine (nanI_calls _ _).mono ?_; rintro e w' ⟨rfl, rfl⟩) | go_in)
    go_ret
    exact ⟨rfl, rfl⟩
  · have d1 : decide (a < b) = false := decide_eq_false c1
    simp only [if_neg c1]
    by_cases c2 : b < a
    · have d2 : decide (b < a) = true := decide_eq_true c2
      simp only [if_pos c2]
      clear c1 c2
      go_enter Try.func19, Try.ntmps19
      go_wp2_with (first | (go_at_call 25; refine (nanI_calls _ _).mono ?_; rintro e w' ⟨rfl, rfl⟩) | go_in)
      go_ret
      exact ⟨rfl, rfl⟩
    · have d2 : decide (b < a) = false := decide_eq_false c2
      simp only [if_neg c2]
      clear c1 c2
      go_enter Try.func19, Try.ntmps19
      go_wp2_with (first | (go_at_call 25; refine (nanI_calls _ _).mono ?_; rintro e w' ⟨rfl, rfl⟩) | go_in)
      go_ret
      exact ⟨rfl, rfl⟩
set_option maxRecDepth 100000 in
theorem cmpS_calls (a b : ByteArray) (w : World) : Calls Try.prog 20 #[.string a, .string b] w fun e w' => e = .returned (.int .i64 (cmpStr a b)) ∧ w' = w := by
  unfold cmpStr
  cases d1 : Op.bytesLess a.toList b.toList with
  | true =>
    simp only [if_true]
    go_enter Try.func20, Try.ntmps20
    go_wp2_with (first | (go_at_call 26; refine (nanS_calls _ _).mono ?_; rintro e w' ⟨rfl, rfl⟩) | go_in)
    all_goals (try (exfalso; simp_all only [Bool.false_eq_true, Bool.true_eq_false]; done))
    all_goals go_ret
    all_goals exact ⟨rfl, rfl⟩
  | false =>
    have dg : ∀ c : Bool, Op.bytesLess b.toList a.toList = c → (a.toList == b.toList) = !c := by
      intro c hc
      rw [bytesLess_eq] at d1 hc
      have d1' := of_decide_eq_false d1
      cases c with
      | true =>
        have := of_decide_eq_true hc
        refine beq_eq_false_iff_ne.2 (fun e => ?_)
        rw [e] at this
        exact List.lt_irrefl _ this
      | false =>
        have := of_decide_eq_false hc
        exact beq_iff_eq.2 (List.le_antisymm (List.not_lt.1 this) (List.not_lt.1 d1'))
    cases d2 : Op.bytesLess b.toList a.toList with
    | true =>
      have hg : (a.toList == b.toList) = false := dg true d2
      clear dg
      simp only [if_true, Bool.false_eq_true, if_false]
      go_enter Try.func20, Try.ntmps20
      go_wp2_with (first | (go_at_call 26; refine (nanS_calls _ _).mono ?_; rintro e w' ⟨rfl, rfl⟩) | go_in)
      all_goals go_ret
      all_goals exact ⟨rfl, rfl⟩
    | false =>
      have hg : (a.toList == b.toList) = true := dg false d2
      clear dg
      simp only [Bool.false_eq_true, if_false]
      go_enter Try.func20, Try.ntmps20
      go_wp2_with (first | (go_at_call 26; refine (nanS_calls _ _).mono ?_; rintro e w' ⟨rfl, rfl⟩) | go_in)
      all_goals go_ret
      all_goals exact ⟨rfl, rfl⟩
set_option maxRecDepth 100000 in
set_option maxHeartbeats 1000000 in
theorem or_calls (x y z : Int) (w : World) (g : Nat) (t : TypeId) (f : Nat × Nat) (h : w.heap[g]? = some (.cells #[.int .i64 x, .int .i64 y, .int .i64 z] t f)) : Calls Try.prog 18 #[.slice (some ⟨g, 0, none⟩) 3 3] w fun e w' => e = .returned (.int .i64 (or3 x y z)) ∧ w' = w := by
  have z0 : w.cell? ⟨g, 0, none⟩ = some (.int .i64 x) := cell_of h 0
  have z1 : w.cell? ⟨g, 1, none⟩ = some (.int .i64 y) := cell_of h 1
  have z2 : w.cell? ⟨g, 2, none⟩ = some (.int .i64 z) := cell_of h 2
  have HZ := Lib.hid (And.intro z0 (And.intro z1 z2))
  clear z0 z1 z2 h
  obtain ⟨r, hr⟩ : ∃ r, r = or3 x y z := ⟨_, rfl⟩
  rw [← hr]
  have HR := Lib.hid hr
  clear hr
  go_enter Try.func18, Try.ntmps18
  go_wp2
  go_loopw [8] (fun v8 wr => ∃ i : Nat, i ≤ 3 ∧ v8 = .int .i64 (i : Int) ∧ Hid ((1 ≤ i → x = 0) ∧ (2 ≤ i → y = 0) ∧ (3 ≤ i → z = 0)) ∧ wr = w) (fun v8 _ => 3 - (RowKit.intOf v8).toNat)
  case atStart => exact ⟨0, by omega, rfl, ⟨fun h => by omega, fun h => by omega, fun h => by omega⟩, by trivial⟩
  case round =>
    obtain ⟨i, hi, rfl, HI, rfl⟩ := hrel
    obtain ⟨z0, z1, z2⟩ := HZ.out
    rcases (by omega : i = 0 ∨ i = 1 ∨ i = 2 ∨ i = 3) with rfl | rfl | rfl | rfl
    · clear z1 z2
      by_cases c : x = 0
      · subst c
        go_wp2
        go_roundw
        case rel => exact ⟨1, by omega, rfl, ⟨fun _ => by trivial, fun h => by omega, fun h => by omega⟩, by trivial⟩
        case measure => decide
      · have c1 : (x == 0) = false := beq_eq_false_iff_ne.2 c
        have c2 : (x != 0) = true := by simp [c]
        have HC := Lib.hid c
        clear c
        go_wp2
        go_ret
        refine ⟨?_, rfl⟩
        rw [HR.out]
        simp [or3, HC.out]
    · have hx := HI.out.1 (by omega)
      subst hx
      clear z0 z2
      by_cases c : y = 0
      · subst c
        go_wp2
        go_roundw
        case rel => exact ⟨2, by omega, rfl, ⟨fun _ => by trivial, fun _ => by trivial, fun h => by omega⟩, by trivial⟩
        case measure => decide
      · have c1 : (y == 0) = false := beq_eq_false_iff_ne.2 c
        have c2 : (y != 0) = true := by simp [c]
        have HC := Lib.hid c
        clear c
        go_wp2
        go_ret
        refine ⟨?_, rfl⟩
        rw [HR.out]
        simp [or3, HC.out]
    · have hx := HI.out.1 (by omega)
      have hy := HI.out.2.1 (by omega)
      subst hx
      subst hy
      clear z0 z1
      by_cases c : z = 0
      · subst c
        go_wp2
        go_roundw
        case rel => exact ⟨3, by omega, rfl, ⟨fun _ => by trivial, fun _ => by trivial, fun _ => by trivial⟩, by trivial⟩
        case measure => decide
      · have c1 : (z == 0) = false := beq_eq_false_iff_ne.2 c
        have c2 : (z != 0) = true := by simp [c]
        have HC := Lib.hid c
        clear c
        go_wp2
        go_ret
        refine ⟨?_, rfl⟩
        rw [HR.out]
        simp [or3, HC.out]
    · have hx := HI.out.1 (by omega)
      have hy := HI.out.2.1 (by omega)
      have hz := HI.out.2.2 (by omega)
      subst hx
      subst hy
      subst hz
      clear z0 z1 z2
      go_wp2
      go_ret
      refine ⟨?_, rfl⟩
      rw [HR.out]
      rfl
theorem new3 (W : World) (o1 o2 : Obj) (v : Array Value) (t : TypeId) : (((W.alloc o1).alloc o2).alloc (.cells v t)).drew.heap[W.heap.size + 1 + 1]? = some (.cells v t (0, 0)) := by
  have := World.alloc_heap_new ((W.alloc o1).alloc o2) (.cells v t)
  rw [World.size_alloc, World.size_alloc] at this
  exact this
set_option maxRecDepth 100000 in
set_option maxHeartbeats 2000000 in
theorem closure17 (a b : Nm) (W : World) : Calls Try.prog 17 #[.agg #[.string a.1, .int .i64 a.2.1, .int .i64 a.2.2], .agg #[.string b.1, .int .i64 b.2.1, .int .i64 b.2.2]] W fun e w' => e = .returned (.int .i64 (cfN a b)) ∧ ∃ q os', w' = Go.Sort.grow (W.drewN q) os' := by
  obtain ⟨an, al, ah⟩ := a
  obtain ⟨bn, bl, bh⟩ := b
  unfold cfN
  have hrow := new3 W (.cells #[.string an, .int .i64 al, .int .i64 ah] 34) (.cells #[.string bn, .int .i64 bl, .int .i64 bh] 34) #[.int .i64 (cmpInt al bl), .int .i64 (cmpInt ah bh), .int .i64 (cmpStr an bn)] 3
  have hor := or_calls (cmpInt al bl) (cmpInt ah bh) (cmpStr an bn) _ _ _ _ hrow
  have HO := Lib.hid hor
  clear hrow hor
  go_enter Try.func17, Try.ntmps17
  go_wp2
  refine wp_region_still_tail 15 (by kernel_rfl) (by kernel_rfl) ?_
  simp only [List.take_succ_cons, List.take_zero, List.drop_succ_cons, List.drop_zero]
  change wpStill _ _ (World.drew _) _ _ _
  still_step
  still_step
  still_step
  still_step
  still_call (cmpI_calls _ _ _)
  still_step
  still_step
  still_step
  still_step
  still_call (cmpI_calls _ _ _)
  still_step
  still_step
  still_step
  still_step
  still_call (cmpS_calls _ _ _)
  refine wpStill_nil ?_
  change wpList _ _ _ _ _ (World.drew _)
  go_wp2_with (go_at_call 18; refine HO.out.mono ?_; rintro e w' ⟨rfl, rfl⟩)
  go_ret
  exact ⟨rfl, 1, _, by rw [Go.Sort.alloc_eq_grow, Go.Sort.alloc_eq_grow, Go.Sort.alloc_eq_grow, Go.Sort.grow_grow, Go.Sort.grow_grow]; rfl⟩
end Go.Proofs.YtgiiiolnagddnaaMar
end
section
namespace Go.Proofs
open Go.Shelf
def Try.sortR_ren : Go.Shelf.Ren := ⟨fun | 6 => 16 | 15 => 24 | 14 => 23 | 28 => 35 | 29 => 36 | 20 => 27 | 21 => 28 | 22 => 29 | 23 => 30 | 24 => 31 | 25 => 32 | 26 => 33 | 27 => 34 | 46 => 37 | 47 => 38 | 48 => 39 | 49 => 40 | 50 => 41 | 57 => 42 | n => n, fun | 22 => 39 | 24 => 34 | 25 => 62 | 3 => 3 | 39 => 71 | 0 => 0 | 53 => 83 | 55 => 85 | 4 => 4 | 46 => 76 | 45 => 75 | 50 => 80 | 5 => 5 | 9 => 9 | 66 => 86 | 70 => 90 | 76 => 92 | 77 => 93 | n => n, fun | n => n⟩
theorem Try.sortR : Go.Proofs.SlLaysF0.n6 Try.prog Try.sortR_ren := {
  mixed := by kernel_rfl
  f6 := ⟨Try.f16.name, by decide, Try.func16.trans (congrArg some (by kernel_rfl))⟩
  f14 := ⟨Try.f23.name, by decide, Try.func23.trans (congrArg some (by kernel_rfl))⟩
  f15 := Try.func24.trans (congrArg some (by kernel_rfl))
  f20 := ⟨Try.f27.name, by decide, Try.func27.trans (congrArg some (by kernel_rfl))⟩
  f21 := ⟨Try.f28.name, by decide, Try.func28.trans (congrArg some (by kernel_rfl))⟩
  f22 := ⟨Try.f29.name, by decide, Try.func29.trans (congrArg some (by kernel_rfl))⟩
  f23 := ⟨Try.f30.name, by decide, Try.func30.trans (congrArg some (by kernel_rfl))⟩
  f24 := ⟨Try.f31.name, by decide, Try.func31.trans (congrArg some (by kernel_rfl))⟩
  f25 := ⟨Try.f32.name, by decide, Try.func32.trans (congrArg some (by kernel_rfl))⟩
  f26 := ⟨Try.f33.name, by decide, Try.func33.trans (congrArg some (by kernel_rfl))⟩
  f27 := ⟨Try.f34.name, by decide, Try.func34.trans (congrArg some (by kernel_rfl))⟩
  f28 := Try.func35.trans (congrArg some (by kernel_rfl))
  f29 := Try.func36.trans (congrArg some (by kernel_rfl))
  f46 := ⟨Try.f37.name, by decide, Try.func37.trans (congrArg some (by kernel_rfl))⟩
  f47 := Try.func38.trans (congrArg some (by kernel_rfl))
  f48 := Try.func39.trans (congrArg some (by kernel_rfl))
  f49 := ⟨Try.f40.name, by decide, Try.func40.trans (congrArg some (by kernel_rfl))⟩
  f50 := ⟨Try.f41.name, by decide, Try.func41.trans (congrArg some (by kernel_rfl))⟩
  f57 := ⟨Try.f42.name, by decide, Try.func42.trans (congrArg some (by kernel_rfl))⟩
  t0 := Try.underlying0
  a0 := Try.isAgg0
  z0 := Try.sizeOf0
  v0 := Try.zeroValue0
  t3 := Try.underlying3
  a3 := Try.isAgg3
  z3 := Try.sizeOf3
  v3 := Try.zeroValue3
  t4 := Try.underlying4
  a4 := Try.isAgg4
  z4 := Try.sizeOf4
  v4 := Try.zeroValue4
  t5 := Try.underlying5
  a5 := Try.isAgg5
  z5 := Try.sizeOf5
  v5 := Try.zeroValue5
  t9 := Try.underlying9
  a9 := Try.isAgg9
  z9 := Try.sizeOf9
  v9 := Try.zeroValue9
  t22 := Try.underlying39
  a22 := Try.isAgg39
  z22 := Try.sizeOf39
  v22 := Try.zeroValue39
  t25 := Try.underlying62
  a25 := Try.isAgg62
  z25 := Try.sizeOf62
  v25 := Try.zeroValue62
  t39 := Try.underlying71
  a39 := Try.isAgg71
  z39 := Try.sizeOf71
  v39 := Try.zeroValue71
  t45 := Try.underlying75
  a45 := Try.isAgg75
  z45 := Try.sizeOf75
  v45 := Try.zeroValue75
  t46 := Try.underlying76
  a46 := Try.isAgg76
  z46 := Try.sizeOf76
  v46 := Try.zeroValue76
  t50 := Try.underlying80
  a50 := Try.isAgg80
  z50 := Try.sizeOf80
  v50 := Try.zeroValue80
  t53 := Try.underlying83
  a53 := Try.isAgg83
  z53 := Try.sizeOf83
  v53 := Try.zeroValue83
  t55 := Try.underlying85
  a55 := Try.isAgg85
  z55 := Try.sizeOf85
  v55 := Try.zeroValue85
  t66 := Try.underlying86
  a66 := Try.isAgg86
  z66 := Try.sizeOf86
  v66 := Try.zeroValue86
  t70 := Try.underlying90
  a70 := Try.isAgg90
  z70 := Try.sizeOf90
  v70 := Try.zeroValue90
  t76 := Try.underlying92
  a76 := Try.isAgg92
  z76 := Try.sizeOf92
  v76 := Try.zeroValue92
  t77 := Try.underlying93
  a77 := Try.isAgg93
  z77 := Try.sizeOf93
  v77 := Try.zeroValue93 }
end Go.Proofs
end
section
namespace Go.Proofs.YtgiiiolnagddnaaMar
open Go.RowKit Go.Maps Go.Lib Go.Sort
set_option linter.unusedSimpArgs false
set_option linter.unusedVariables false
theorem flat3_get (l : List Nm) (j : Nat) (hj : j < l.length) : (flat3 l)[j * 3]? = some (.string (l[j]).1) ∧ (flat3 l)[j * 3 + 1]? = some (.int .i64 (l[j]).2.1) ∧ (flat3 l)[j * 3 + 2]? = some (.int .i64 (l[j]).2.2) := by
  induction l generalizing j with
  | nil => simp at hj
  | cons r l ih =>
    cases j with
    | zero => exact ⟨rfl, rfl, rfl⟩
    | succ j =>
      have h := ih j (by simpa using hj)
      have e0 : flat3 (r :: l) = cells3 r ++ flat3 l := rfl
      rw [e0]
      have e : (j + 1) * 3 = j * 3 + 3 := by omega
      rw [e]
      exact h
theorem swoL : SWO (ltOf cfN) := swoN
theorem cmpN (blk off size : Nat) (w : World) : CmpLays Try.prog 17 #[] cells3 3 cfN blk off size w := fun _ _ _ _ x y => closure17 x y _
theorem flat_toList (d : Array Nm) : (flatK cells3 3 d).toList = flat3 d.toList := by
  apply List.ext_getElem?
  intro t
  by_cases ht : t < d.size * 3
  · have hj : t / 3 < d.size := by omega
    obtain ⟨g0, g1, g2⟩ := flat3_get d.toList (t / 3) (by simpa using hj)
    have hs : t < (flatK cells3 3 d).size := by rw [size_flatK]; exact ht
    have e1 : (flatK cells3 3 d).toList[t]? = some (flatK cells3 3 d)[t]! := by
      rw [Array.getElem?_toList, Array.getElem?_eq_getElem hs, getElem!_pos _ t hs]
    rw [e1, get_flatK cells3 3 d t ht, getElem!_pos d (t / 3) hj]
    have hv : d.toList[t / 3] = d[t / 3] := by simp
    rw [hv] at g0 g1 g2
    rcases (by omega : t % 3 = 0 ∨ t % 3 = 1 ∨ t % 3 = 2) with hm | hm | hm
    · rw [show t / 3 * 3 = t from by omega] at g0
      rw [hm, g0]; rfl
    · rw [show t / 3 * 3 + 1 = t from by omega] at g1
      rw [hm, g1]; rfl
    · rw [show t / 3 * 3 + 2 = t from by omega] at g2
      rw [hm, g2]; rfl
  · rw [List.getElem?_eq_none (by rw [Array.length_toList, size_flatK]; omega), List.getElem?_eq_none (by rw [flat3_len]; simp; omega)]
theorem put_take (F cur : Array Value) (h : F.size ≤ cur.size) : (putCells id 0 F cur).toList.take F.size = F.toList := by
  apply List.ext_getElem?
  intro t
  rw [List.getElem?_take]
  by_cases ht : t < F.size
  · rw [if_pos ht, Array.getElem?_toList, Array.getElem?_toList, Array.getElem?_eq_getElem ht]
    unfold putCells
    rw [Array.getElem?_mapIdx, Array.getElem?_eq_getElem (by omega)]
    simp [ht]
  · rw [if_neg ht, List.getElem?_eq_none (by rw [Array.length_toList]; omega)]
theorem sortNil : SortNil := fun W p cap => AnyF.slices_SortFunc_none { Try.sortR with } p cap _ W
theorem blk_lt {W : World} {g : Nat} {o : Obj} (h : W.heap[g]? = some o) : g < W.heap.size := (Array.getElem?_eq_some_iff.1 h).1
theorem sortOk : SortOk := by
  intro base g c L W hown _ hl
  rcases hown.2 with ⟨hv, _⟩ | ⟨g', cap, cur, hv, hbg, hh, hnc, hcm, hcs, htake⟩
  · cases hv
  injection hv with hA _ hc
  injection hA with hA
  injection hA with hA
  subst hA
  subst hc
  have hsz : L.toArray.size = L.length := by simp
  have hF : (flatK cells3 3 L.toArray).toList = flat3 L := by rw [flat_toList]
  have hH : HoldsK cells3 3 W g 0 L.toArray := by
    intro j hj
    rw [size_flatK, hsz] at hj
    refine ⟨?_, ?_⟩
    · have e1 : (flatK cells3 3 L.toArray)[j]! = cur[j]! := by
        have hj1 : j < (flatK cells3 3 L.toArray).size := by rw [size_flatK, hsz]; exact hj
        have hj2 : j < cur.size := by rw [hcs]; omega
        have e2 : (flatK cells3 3 L.toArray).toList[j]? = cur.toList[j]? := by
          rw [hF, ← htake, List.getElem?_take, if_pos hj]
        rw [Array.getElem?_toList, Array.getElem?_toList, Array.getElem?_eq_getElem hj1, Array.getElem?_eq_getElem hj2] at e2
        injection e2 with e2
        rw [getElem!_pos _ j hj1, getElem!_pos _ j hj2, e2]
      have hj2 : j < cur.size := by rw [hcs]; omega
      simp only [Nat.zero_add, World.cell?, hh, e1, id]
      rw [getElem!_pos _ j hj2]
      simp [hj2]
    · simp [World.frozen?, hh]
  have hcon := AnyQ.slices_SortFunc Try.sortR 3 Try.isAgg34 Try.sizeOf34 cells3 (fun _ => rfl) (fun x v hv => by simp [cells3] at hv; rcases hv with rfl | rfl | rfl <;> rfl) cfN swoL 17 #[] g 0 c L.toArray W (enters_of Try.func17 (by kernel_rfl) rfl) (cmpN g 0 L.toArray.size W) hH (blk_lt hh) (by omega)
  change Calls Try.prog 16 _ _ _ at hcon
  rw [hsz] at hcon
  refine hcon.mono ?_
  rintro e w' ⟨rfl, d', n, os, ⟨p1, _, p3⟩, hs, rfl⟩
  replace p1 : d'.size = L.length := p1.trans hsz
  have hzl : d'.toList.length = L.length := by rw [Array.length_toList, p1]
  refine ⟨rfl, d'.toList, ?_, ?_, ?_, ?_⟩
  · rw [Array.extract_eq_self_of_le (by omega), Array.extract_eq_self_of_le (by omega)] at p3
    exact p3
  · rw [List.pairwise_iff_getElem]
    intro i j hi hj hij
    simp only [Array.length_toList] at hi hj
    have := hs i j (Nat.zero_le _) hij (by omega)
    rw [getElem!_pos d' i hi, getElem!_pos d' j hj] at this
    unfold ltOf at this
    rw [decide_eq_false_iff_not, cfN_lt] at this
    simpa using this
  · refine ⟨by rw [flat3_len, hzl], .inr ⟨g, c, putCells id 0 (flatK cells3 3 d') cur, rfl, hbg, ?_, by omega, hcm, by simp [putCells, hcs], ?_⟩⟩
    · have hlt := blk_lt hh
      show ((W.heap.modify g (onCells (putCells id 0 (flatK cells3 3 d')))) ++ os)[g]? = _
      rw [Array.getElem?_append_left (by simpa using hlt), Array.getElem?_modify, if_pos rfl, hh]
      rfl
    · rw [← flat_toList, show L.length * 3 = (flatK cells3 3 d').size from by rw [size_flatK, p1]]
      exact put_take _ _ (by rw [size_flatK, p1, hcs]; omega)
  · have hlt := blk_lt hh
    refine ⟨rfl, rfl, rfl, ?_, fun k hk => ?_⟩
    · show W.heap.size ≤ ((W.heap.modify g (onCells (putCells id 0 (flatK cells3 3 d')))) ++ os).size
      simp
    · show ((W.heap.modify g (onCells (putCells id 0 (flatK cells3 3 d')))) ++ os)[k]? = _
      rw [Array.getElem?_append_left (by simp; omega), Array.getElem?_modify, if_neg (by omega)]
end Go.Proofs.YtgiiiolnagddnaaMar
end
section
namespace Go.Proofs.YtgiiiolnagddnaaMar
def tabOf (nm : Nat → List UInt8) (v : Nat → Int × Int) : Nat → List UInt8 → Option (Int × Int)
  | 0 => fun _ => none
  | n + 1 => fun y => if y = nm n then some (v n) else tabOf nm v n y
theorem tabOf_none {nm : Nat → List UInt8} {v : Nat → Int × Int} : ∀ {n : Nat} {y : List UInt8}, (∀ k, k < n → y ≠ nm k) → tabOf nm v n y = none
  | 0, _, _ => rfl
  | n + 1, y, h => by
    unfold tabOf
    rw [if_neg (h n (by omega))]
    exact tabOf_none (fun k hk => h k (by omega))
theorem tabOf_at {nm : Nat → List UInt8} {v : Nat → Int × Int} : ∀ {n k : Nat}, k < n → (∀ i j, i < n → j < n → nm i = nm j → i = j) → tabOf nm v n (nm k) = some (v k)
  | n + 1, k, hk, hi => by
    unfold tabOf
    by_cases e : k = n
    · rw [e, if_pos rfl]
    · rw [if_neg (fun h => e (hi k n hk (by omega) h))]
      exact tabOf_at (by omega) (fun i j h1 h2 => hi i j (by omega) (by omega))
def nm2 (i : Nat) : List UInt8 := [UInt8.ofNat (97 + i / 16), UInt8.ofNat (97 + i % 16)]
theorem u8_inj {a b : Nat} (ha : a < 256) (hb : b < 256) (h : UInt8.ofNat a = UInt8.ofNat b) : a = b := by
  have := congrArg UInt8.toNat h
  simp at this
  omega
theorem u8_nat {a : Nat} (ha : a < 256) : (UInt8.ofNat a).toNat = a := by
  simp
  omega
theorem nm2_inj {i j : Nat} (hi : i < 256) (hj : j < 256) (h : nm2 i = nm2 j) : i = j := by
  unfold nm2 at h
  injection h with h1 h2
  injection h2 with h2
  have := u8_inj (by omega) (by omega) h1
  have := u8_inj (by omega) (by omega) h2
  omega
theorem nm2_ok {i : Nat} (hi : i < 256) : nameB (nm2 i) = true := by
  have h1 : (UInt8.ofNat (97 + i / 16)).toNat = 97 + i / 16 := u8_nat (by omega)
  have h2 : (UInt8.ofNat (97 + i % 16)).toNat = 97 + i % 16 := u8_nat (by omega)
  have g1 : okB (UInt8.ofNat (97 + i / 16)) = true := by unfold okB; rw [h1]; simp; omega
  have g2 : okB (UInt8.ofNat (97 + i % 16)) = true := by unfold okB; rw [h2]; simp; omega
  unfold nameB nm2
  simp only [List.all_cons, List.all_nil, g1, g2, List.length_cons, List.length_nil]
  rfl
end Go.Proofs.YtgiiiolnagddnaaMar
end
section
namespace Go.Proofs.YtgiiiolnagddnaaMar
open Go.RowKit Go.Maps
set_option linter.unusedSimpArgs false
set_option linter.unusedVariables false
theorem putE_far {tot : Int} {m : List UInt8 → Option (Int × Int)} {N : Nat} {l : List UInt8} {lo hi : Int} (h : nameB l = false) : putE tot m N l lo hi = 200 := by simp [putE, h]
theorem putE_out {tot : Int} {m : List UInt8 → Option (Int × Int)} {N : Nat} {l : List UInt8} {lo hi : Int} (h : nameB l = true) (h2 : ¬ (0 ≤ lo ∧ lo < hi ∧ hi ≤ tot)) : putE tot m N l lo hi = 12 := by
  have : lo < 0 ∨ hi ≤ lo ∨ tot < hi := by omega
  simp [putE, h, this]
theorem putE_ok {tot : Int} {m : List UInt8 → Option (Int × Int)} {N : Nat} {l : List UInt8} {lo hi : Int} (h : nameB l = true) (h2 : 0 ≤ lo ∧ lo < hi ∧ hi ≤ tot) (hm : m l = none) (hN : N < 256) : putE tot m N l lo hi = 0 := by
  have : ¬ (lo < 0 ∨ hi ≤ lo ∨ tot < hi) := by omega
  have : ¬ 256 ≤ N := by omega
  simp [putE, h, hm, *]
theorem putE_there {tot : Int} {m : List UInt8 → Option (Int × Int)} {N : Nat} {l : List UInt8} {lo hi : Int} {a : Int × Int} (h : nameB l = true) (h2 : 0 ≤ lo ∧ lo < hi ∧ hi ≤ tot) (hm : m l = some a) : putE tot m N l lo hi = 201 := by
  have : ¬ (lo < 0 ∨ hi ≤ lo ∨ tot < hi) := by omega
  simp [putE, h, hm, *]
theorem putE_full {tot : Int} {m : List UInt8 → Option (Int × Int)} {N : Nat} {l : List UInt8} {lo hi : Int} (h : nameB l = true) (h2 : 0 ≤ lo ∧ lo < hi ∧ hi ≤ tot) (hm : m l = none) (hN : 256 ≤ N) : putE tot m N l lo hi = 202 := by
  have : ¬ (lo < 0 ∨ hi ≤ lo ∨ tot < hi) := by omega
  simp [putE, h, hm, *]
def codes (n f : Bool) : Int × Int × Int := if n = false then (200, 200, 60) else if f = false then (12, 0, 0) else (0, 201, 0)
theorem three (l : List UInt8) (lo hi f g d : Int) (fit : Bool) (hfit : fit = (decide (0 ≤ lo) && decide (lo < hi) && decide (hi ≤ 50)))
    (hf : f = putE 50 (fun _ => none) 0 l lo hi)
    (m1 : List UInt8 → Option (Int × Int)) (hm1 : m1 = if f = 0 then fun y => if y = l then some (lo, hi) else none else fun _ => none)
    (N1 : Nat) (hN1 : N1 = if f = 0 then 0 + 1 else 0)
    (hg : g = putE 50 m1 N1 l 0 1)
    (m2 : List UInt8 → Option (Int × Int)) (hm2 : m2 = if g = 0 then fun y => if y = l then some (0, 1) else m1 y else m1)
    (N2 : Nat) (hN2 : N2 = if g = 0 then N1 + 1 else N1)
    (hd : d = if (m2 l).isSome then 0 else 60) :
    (f, g, d) = codes (nameB l) fit ∧ (fun y => if y = l then none else m2 y) = (fun _ => none) ∧ (if (m2 l).isSome then N2 - 1 else N2) = 0 := by
  unfold codes
  cases hn : nameB l with
  | false =>
    have e1 := putE_far (tot := 50) (m := fun _ => none) (N := 0) (lo := lo) (hi := hi) hn
    rw [e1] at hf
    subst hf
    simp at hm1 hN1
    subst hm1
    subst hN1
    have e2 := putE_far (tot := 50) (m := fun _ => none) (N := 0) (lo := 0) (hi := 1) hn
    rw [e2] at hg
    subst hg
    simp at hm2 hN2
    subst hm2
    subst hN2
    simp at hd
    subst hd
    simp
  | true =>
    cases hfi : fit with
    | false =>
      have h2 : ¬ (0 ≤ lo ∧ lo < hi ∧ hi ≤ 50) := by
        rintro ⟨h1, h2, h3⟩
        rw [hfi] at hfit
        simp [h1, h2, h3] at hfit
      have e1 := putE_out (tot := 50) (m := fun _ => none) (N := 0) (lo := lo) (hi := hi) hn h2
      rw [e1] at hf
      subst hf
      simp at hm1 hN1
      subst hm1
      subst hN1
      have e2 := putE_ok (tot := 50) (m := fun _ => none) (N := 0) (lo := 0) (hi := 1) hn (by omega) rfl (by omega)
      rw [e2] at hg
      subst hg
      simp at hm2 hN2
      subst hm2
      subst hN2
      simp at hd
      subst hd
      simp
      funext y
      by_cases c : y = l <;> simp [c]
    | true =>
      have h2 : 0 ≤ lo ∧ lo < hi ∧ hi ≤ 50 := by
        rw [hfi] at hfit
        have := hfit.symm
        simp only [Bool.and_eq_true, decide_eq_true_eq] at this
        exact ⟨this.1.1, this.1.2, this.2⟩
      have e1 := putE_ok (tot := 50) (m := fun _ => none) (N := 0) (lo := lo) (hi := hi) hn h2 rfl (by omega)
      rw [e1] at hf
      subst hf
      simp at hm1 hN1
      subst hm1
      subst hN1
      have e2 := putE_there (tot := 50) (m := fun y => if y = l then some (lo, hi) else none) (N := 1) (l := l) (lo := 0) (hi := 1) (a := (lo, hi)) hn (by omega) (by simp)
      rw [e2] at hg
      subst hg
      simp at hm2 hN2
      subst hm2
      subst hN2
      simp at hd
      subst hd
      simp
      funext y
      by_cases c : y = l <;> simp [c]
end Go.Proofs.YtgiiiolnagddnaaMar
end
section
namespace Go.Proofs.YtgiiiolnagddnaaMar
open Go.RowKit Go.Maps
set_option linter.unusedSimpArgs false
set_option linter.unusedVariables false
theorem ok_iff (s : ByteArray) (i : Nat) (hi : i < s.size) : okB s.data[i] = true ↔ (97 ≤ (s[i].toNat : Int) ∧ (s[i].toNat : Int) ≤ 122) ∨ (48 ≤ (s[i].toNat : Int) ∧ (s[i].toNat : Int) ≤ 57) ∨ (s[i].toNat : Int) = 46 ∨ (s[i].toNat : Int) = 45 ∨ (s[i].toNat : Int) = 95 := okB_iff _
theorem ok_round {s : ByteArray} {l : List UInt8} {i : Nat} {g : Bool} (hget : ∀ i (hi : i < s.size), l[i]? = some s.data[i]) (hi : i < s.size) (h32 : s.size ≤ 32) (h1 : 1 ≤ s.size) (hall : (l.take i).all okB = true) (hg : okB s.data[i] = g) :
    (g = true → s.size ≤ 32 ∧ 1 ≤ s.size ∧ (l.take (i + 1)).all okB = true) ∧ (g = false → nameB l = false) :=
  ⟨fun h => ⟨h32, h1, all_take (hget i hi) hall (hg.trans h)⟩, fun h => all_fail (hget i hi) (by rw [hg, h]; exact Bool.false_ne_true)⟩
theorem conv2 (w : World) (i : Nat) (hi : i < 256) : (convert 36 9 (.slice (some ⟨w.heap.size, 0, none⟩) 2 2)).run Try.prog (w.alloc (.cells #[.int .u8 (97 + (i : Int) / 16), .int .u8 (97 + (i : Int) % 16)] 5)) = .ok (.string ⟨(nm2 i).toArray⟩) (w.alloc (.cells #[.int .u8 (97 + (i : Int) / 16), .int .u8 (97 + (i : Int) % 16)] 5)) := by
  have h0 := World.alloc_heap_new w (.cells #[.int .u8 (97 + (i : Int) / 16), .int .u8 (97 + (i : Int) % 16)] 5)
  have h1 : (UInt8.ofNat (97 + i / 16)).toNat = 97 + i / 16 := u8_nat (by omega)
  have h2 : (UInt8.ofNat (97 + i % 16)).toNat = 97 + i % 16 := u8_nat (by omega)
  refine run_convert_bytes_back (P := Try.prog) _ 36 9 5 ⟨w.heap.size, 0, none⟩ 2 (nm2 i) Try.underlying36 Try.underlying5 Try.underlying9 ?_
  intro j hj
  have e : (⟨w.heap.size, 0, none⟩ : Addr).add j = ⟨w.heap.size, j, none⟩ := by simp [Addr.add]; exact fun e => e.symm
  rw [e, cell_of h0]
  match j, hj with
  | 0, _ =>
    show some (Value.int .u8 (97 + (i : Int) / 16)) = some (.int .u8 ((UInt8.ofNat (97 + i / 16)).toNat : Int))
    rw [h1]
    congr 2
  | 1, _ =>
    show some (Value.int .u8 (97 + (i : Int) % 16)) = some (.int .u8 ((UInt8.ofNat (97 + i % 16)).toNat : Int))
    rw [h2]
    congr 2
theorem row_slice {w : World} {base : Nat} {t : TypeId} {c : Nat} {v : Value} {k : Nat} {xs : List Value} (h : w.ownsRow base t c v k xs) : ∃ p cap, v = .slice p k cap := by
  rcases h.2 with ⟨hnil, h0⟩ | ⟨g, cap, cur, hv, _⟩
  · subst h0
    exact ⟨_, _, hnil⟩
  · exact ⟨_, _, hv⟩
set_option maxRecDepth 100000 in
set_option maxHeartbeats 4000000 in
theorem titles_calls (s : ByteArray) (hs : s.size ≤ maxLen) (lo hi : Int) (many : Bool) (w : World) : Calls Try.prog 4 #[.agg #[.string s, .int .i64 lo, .int .i64 hi, .bool many]] w fun e w' => e = .returned (.bool true) ∧ Below w.heap.size w w' := by
  obtain ⟨l, hl⟩ : ∃ l, l = s.data.toList := ⟨_, rfl⟩
  have hls : l.length = s.size := by rw [hl]; simp
  have hget : ∀ i (hi : i < s.size), l[i]? = some s.data[i] := by
    intro i hi
    rw [hl, Array.getElem?_toList]
    exact Array.getElem?_eq_getElem hi
  have HG := Lib.hid hget
  have HLS := Lib.hid hls
  have HL := Lib.hid hl
  clear hl hget hls
  go_enter Try.func4, Try.ntmps4
  go_wp2
  go_quiet (fail)
  rename_i nq
  have hb0 : Below w.heap.size w ((w.alloc (.cells #[.string s, .int .i64 lo, .int .i64 hi, .bool many] 28)).drewN nq) := ((Below.refl _ w).alloc (Nat.le_refl _) _).trans ⟨rfl, rfl, rfl, Nat.le_refl _, fun k _ => rfl⟩
  obtain ⟨X0, hX0⟩ : ∃ X, X = (w.alloc (.cells #[.string s, .int .i64 lo, .int .i64 hi, .bool many] 28)).drewN nq := ⟨_, rfl⟩
  rw [← hX0] at hb0 ⊢
  clear hX0
  have HB0 := Lib.hid hb0
  clear hb0
  go_upto_region 5 with (go_at_call 7; refine (New_calls 50 (by decide) _).mono ?_; rintro e w1 ⟨rfl, hK, hBK⟩)
  have HB1 := Lib.hid (HB0.out.trans (hBK.mono HB0.out.size))
  have HS1 := Lib.hid (HB0.out.size)
  have HK := Lib.hid hK
  clear hBK HB0 hK
  obtain ⟨p, hp⟩ : ∃ p, p = X0.heap.size + 1 := ⟨_, rfl⟩
  rw [← hp] at HK ⊢
  clear hp
  go_cut [9] from 41 to 48 (fun v9 wx => v9 = .bool (decide (1 ≤ s.size) && decide (s.size ≤ 32)) ∧ wx = w1)
  case first =>
    by_cases c1 : 1 ≤ s.size
    · have e1 : decide (1 ≤ (s.size : Int)) = true := decide_eq_true (by omega)
      have e1' : decide (1 ≤ s.size) = true := decide_eq_true c1
      by_cases c2 : s.size ≤ 32
      · have e2 : decide ((s.size : Int) ≤ 32) = true := decide_eq_true (by omega)
        have e2' : decide (s.size ≤ 32) = true := decide_eq_true c2
        go_wp2_with fail
        go_meet
        exact ⟨by simp [e1', e2'], rfl⟩
      · have e2 : decide ((s.size : Int) ≤ 32) = false := decide_eq_false (by omega)
        have e2' : decide (s.size ≤ 32) = false := decide_eq_false c2
        go_wp2_with fail
        go_meet
        exact ⟨by simp [e1', e2'], rfl⟩
    · have e1 : decide (1 ≤ (s.size : Int)) = false := decide_eq_false (by omega)
      have e1' : decide (1 ≤ s.size) = false := decide_eq_false c1
      go_wp2_with fail
      go_meet
      exact ⟨by simp [e1'], rfl⟩
  case rest =>
    obtain ⟨rfl, rfl⟩ := hcut
    obtain ⟨g0, hg0⟩ : ∃ g0, g0 = (decide (1 ≤ s.size) && decide (s.size ≤ 32)) := ⟨_, rfl⟩
    rw [← hg0]
    have HG0 := Lib.hid hg0
    clear hg0
    go_upto_block 0 with fail
    go_cut [9] from 10 to 86 (fun v9 wx => v9 = .bool (nameB l) ∧ wx = wc)
    case first =>
      go_wp2_with fail
      go_loopw [9, 10] (fun v9 v10 wr => ∃ (i : Nat) (g : Bool), i ≤ s.size ∧ v10 = .int .i64 (i : Int) ∧ v9 = .bool g ∧ Hid ((g = true → s.size ≤ 32 ∧ 1 ≤ s.size ∧ (l.take i).all okB = true) ∧ (g = false → nameB l = false)) ∧ wr = wc) (fun v9 v10 _ => s.size - (intOf v10).toNat)
      case atStart => exact ⟨0, g0, by omega, rfl, rfl, ⟨fun h => by
          rw [HG0.out] at h
          simp only [Bool.and_eq_true, decide_eq_true_eq] at h
          exact ⟨h.2, h.1, by simp⟩, fun h => by
          rw [HG0.out] at h
          unfold nameB
          rw [HLS.out, h]
          rfl⟩, rfl⟩
      case round =>
        obtain ⟨i, g, hi, rfl, rfl, HR, rfl⟩ := hrel
        cases g with
        | false =>
          have HN := Lib.hid (HR.out.2 rfl)
          clear HR
          by_cases c : i < s.size
          · have d : decide ((i : Int) < (s.size : Int)) = true := decide_eq_true (by omega)
            have d' : decide (i < s.size) = true := decide_eq_true c
            go_wp2_with fail
            go_meet
            exact ⟨by rw [HN.out], rfl⟩
          · have d : decide ((i : Int) < (s.size : Int)) = false := decide_eq_false (by omega)
            have d' : decide (i < s.size) = false := decide_eq_false c
            go_wp2_with fail
            go_meet
            exact ⟨by rw [HN.out], rfl⟩
        | true =>
          obtain ⟨hs32, hs1, hall⟩ := HR.out.1 rfl
          have HA := Lib.hid hall
          have HH := Lib.hid hs1
          clear HR hall hs1
          by_cases c : i < s.size
          · have d : decide ((i : Int) < (s.size : Int)) = true := decide_eq_true (by omega)
            have d' : decide (i < s.size) = true := decide_eq_true c
            have q2 : ((i : Int) < (s.size : Int)) = True := eq_true (by omega)
            have q3 : (0 ≤ (i : Int)) = True := eq_true (by omega)
            have ib : (i : Int) ≤ 32 := by omega
            go_wp2_with fail
            all_goals go_roundw
            all_goals first
              | (refine ⟨i + 1, _, c, by go_num, rfl, ok_round HG.out c hs32 HH.out HA.out ?_, by trivial⟩
                 rw [Bool.eq_iff_iff, ok_iff s i c]
                 simp only [Bool.or_eq_true, Bool.and_eq_true, decide_eq_true_eq, beq_iff_eq, true_iff, Bool.false_eq_true, false_iff, iff_true, iff_false]
                 omega)
              | (simp [intOf]; omega)
          · obtain rfl : i = s.size := by omega
            have d : decide ((s.size : Int) < (s.size : Int)) = false := decide_eq_false (by omega)
            have d' : decide (s.size < s.size) = false := decide_eq_false c
            have hnb : nameB l = true := by
              have h1 : l.take s.size = l := List.take_of_length_le (by rw [HLS.out]; exact Nat.le_refl _)
              have h2 := HA.out
              rw [h1] at h2
              have h3 := HLS.out
              have h4 := HH.out
              simp [nameB, h2]
              omega
            have HN := Lib.hid hnb
            clear hnb
            go_wp2_with fail
            go_meet
            exact ⟨by rw [HN.out], rfl⟩
    case rest =>
      obtain ⟨rfl, rfl⟩ := hcut
      clear HG HG0 HLS
      go_upto_region 11 with fail
      go_cut [12] from 87 to 97 (fun v12 wx => v12 = .bool (decide (0 ≤ lo) && decide (lo < hi) && decide (hi ≤ 50)) ∧ wx = wc)
      case first =>
        by_cases c1 : 0 ≤ lo
        · have e1 : decide (0 ≤ lo) = true := decide_eq_true c1
          by_cases c2 : lo < hi
          · have e2 : decide (lo < hi) = true := decide_eq_true c2
            by_cases c3 : hi ≤ 50
            · have e3 : decide (hi ≤ 50) = true := decide_eq_true c3
              go_wp2_with fail
              go_meet
              exact ⟨by simp [e1, e2, e3], rfl⟩
            · have e3 : decide (hi ≤ 50) = false := decide_eq_false c3
              go_wp2_with fail
              go_meet
              exact ⟨by simp [e1, e2, e3], rfl⟩
          · have e2 : decide (lo < hi) = false := decide_eq_false c2
            go_wp2_with fail
            go_meet
            exact ⟨by simp [e1, e2], rfl⟩
        · have e1 : decide (0 ≤ lo) = false := decide_eq_false c1
          go_wp2_with fail
          go_meet
          exact ⟨by simp [e1], rfl⟩
      case rest =>
        obtain ⟨rfl, rfl⟩ := hcut
        obtain ⟨fit, hfit⟩ : ∃ fit, fit = (decide (0 ≤ lo) && decide (lo < hi) && decide (hi ≤ 50)) := ⟨_, rfl⟩
        rw [← hfit]
        have HF := Lib.hid hfit
        clear hfit
        have hp1 := Put_calls _ HK.out s hs lo hi
        rw [← HL.out] at hp1
        obtain ⟨f, hf⟩ : ∃ f, f = putE 50 (fun _ => none) 0 l lo hi := ⟨_, rfl⟩
        rw [← hf] at hp1
        obtain ⟨m1, hm1⟩ : ∃ m1 : List UInt8 → Option (Int × Int), m1 = if f = 0 then fun y => if y = l then some (lo, hi) else none else fun _ => none := ⟨_, rfl⟩
        obtain ⟨N1, hN1⟩ : ∃ N1, N1 = if f = 0 then 0 + 1 else 0 := ⟨_, rfl⟩
        rw [← hm1, ← hN1] at hp1
        have Hf := Lib.hid hf
        have Hm1 := Lib.hid hm1
        have HN1 := Lib.hid hN1
        clear hf hm1 hN1
        go_upto_region 13 with (go_at_call 8; refine hp1.mono ?_; rintro e w2 ⟨rfl, hK2, ho2⟩)
        have hp2 := Put_calls _ hK2 s hs 0 1
        rw [← HL.out] at hp2
        obtain ⟨g, hg⟩ : ∃ g, g = putE 50 m1 N1 l 0 1 := ⟨_, rfl⟩
        rw [← hg] at hp2
        obtain ⟨m2, hm2⟩ : ∃ m2 : List UInt8 → Option (Int × Int), m2 = if g = 0 then fun y => if y = l then some (0, 1) else m1 y else m1 := ⟨_, rfl⟩
        obtain ⟨N2, hN2⟩ : ∃ N2, N2 = if g = 0 then N1 + 1 else N1 := ⟨_, rfl⟩
        rw [← hm2, ← hN2] at hp2
        have Hg := Lib.hid hg
        have Hm2 := Lib.hid hm2
        have HN2 := Lib.hid hN2
        clear hp1 hg hm2 hN2
        go_upto_region 14 with (go_at_call 8; refine hp2.mono ?_; rintro e w3 ⟨rfl, hK3, ho3⟩)
        have hp3 := Drop_calls _ hK3 s hs
        rw [← HL.out] at hp3
        obtain ⟨d, hd⟩ : ∃ d : Int, d = if (m2 l).isSome then 0 else 60 := ⟨_, rfl⟩
        rw [← hd] at hp3
        obtain ⟨hcodes, hno, hze⟩ := three l lo hi f g d fit HF.out Hf.out m1 Hm1.out N1 HN1.out Hg.out m2 Hm2.out N2 HN2.out hd
        rw [hno, hze] at hp3
        have HC := Lib.hid hcodes
        clear hp2 hcodes hno hze hd Hm2 HN2 Hg Hm1 HN1 Hf HF hK3 hK2
        go_upto_block 2 with (go_at_call 9; refine hp3.mono ?_; rintro e w4 ⟨rfl, hK4, ho4⟩)
        have HB4 := Lib.hid (HB1.out.trans (((ho2.trans (ho3.trans ho4)).below HB1.out.size (fun i hi => by rw [hi]; exact HS1.out))))
        have HK4 := Lib.hid hK4
        clear hK4 ho2 ho3 ho4 hp3 HK HB1
        go_cut [9] from 111 to 146 (fun v9 wx => wx = w4)
        case first =>
          have hc := HC.out
          unfold codes at hc
          cases hn : nameB l with
          | false =>
            rw [hn] at hc
            simp at hc
            obtain ⟨rfl, rfl, rfl⟩ := hc
            go_wp2_with fail
            go_meet
            exact rfl
          | true =>
            cases fit with
            | false =>
              rw [hn] at hc
              simp at hc
              obtain ⟨rfl, rfl, rfl⟩ := hc
              go_wp2_with fail
              go_meet
              exact rfl
            | true =>
              rw [hn] at hc
              simp at hc
              obtain ⟨rfl, rfl, rfl⟩ := hc
              go_wp2_with fail
              go_meet
              exact rfl
        case rest =>
          subst hcut
          clear HC
          cases many with
          | false =>
            have hp := Put_calls _ HK4.out ⟨#[108, 97, 115, 116]⟩ (by decide) 0 1
            rw [putE_ok (by rfl) (by omega) rfl (by omega)] at hp
            go_wp2_with fail
            refine wp_loop_rounds 1 ?_
            rw [rounds_succ]
            go_wp2_with (go_at_call 8; refine hp.mono ?_; rintro e w5 ⟨rfl, hK5, ho5⟩)
            go_ret
            exact ⟨rfl, HB4.out.trans (ho5.below HB4.out.size (fun i hi => by rw [hi]; exact HS1.out))⟩
          | true =>
            go_wp2_with fail
            go_loopw [16] (fun v16 wr => ∃ i : Nat, i ≤ 256 ∧ v16 = .int .i64 (i : Int) ∧ Hid (BookAt wr p X0.heap.size 50 (tabOf nm2 (fun i => ((i : Int) % 50, 50)) i) i) ∧ Hid (Below w.heap.size w wr)) (fun v16 _ => 256 - (intOf v16).toNat)
            case atStart => exact ⟨0, by omega, rfl, HK4, HB4⟩
            case round =>
              obtain ⟨i, hi, rfl, HK5, HB5⟩ := hrel
              by_cases c : i < 256
              · have d1 : decide ((i : Int) < 256) = true := decide_eq_true (by omega)
                have d1' : decide (i < 256) = true := decide_eq_true c
                have ib : (i : Int) < 256 := by omega
                have ia : 0 ≤ (i : Int) := by omega
                have hcv := conv2 wr i c
                have hp := Put_calls _ (HK5.out.below ((Below.refl _ wr).alloc (Nat.le_refl _) (.cells #[.int .u8 (97 + (i : Int) / 16), .int .u8 (97 + (i : Int) % 16)] 5))) ⟨(nm2 i).toArray⟩ (by show (nm2 i).length ≤ maxLen; unfold maxLen nm2; simp) ((i : Int) % 50) 50
                rw [show (ByteArray.mk (nm2 i).toArray).data.toList = nm2 i from rfl, putE_ok (nm2_ok c) (by omega) (tabOf_none (fun k hk e => by have := nm2_inj c (by omega) e; omega)) c] at hp
                go_wp2_with (go_at_call 8; refine hp.mono ?_; rintro e w5 ⟨rfl, hK6, ho6⟩)
                go_roundw
                case rel => exact ⟨i + 1, c, by go_num, hK6, (HB5.out.alloc HB5.out.size _).trans (ho6.below (by simp; exact Nat.le_trans HB5.out.size (Nat.le_succ _)) (fun j hj => by rw [hj]; exact HS1.out))⟩
                case measure => simp [intOf]; omega
              · obtain rfl : i = 256 := by omega
                have d1 : decide ((256 : Int) < 256) = false := rfl
                have hcd : tabOf nm2 (fun i => ((i : Int) % 50, 50)) 256 [99, 100] = some (35, 50) := tabOf_at (n := 256) (k := 35) (by omega) (fun i j h1 h2 => nm2_inj h1 h2)
                have hla : tabOf nm2 (fun i => ((i : Int) % 50, 50)) 256 [108, 97, 115, 116] = none := tabOf_none (fun k hk e => by simp [nm2] at e)
                have hp := Put_calls _ HK5.out ⟨#[108, 97, 115, 116]⟩ (by decide) 0 1
                rw [show (ByteArray.mk #[108, 97, 115, 116]).data.toList = [108, 97, 115, 116] from rfl, putE_full (by rfl) (by omega) hla (by omega)] at hp
                clear c hi
                go_upto_region 32 with (go_at_call 8; refine hp.mono ?_; rintro e w5 ⟨rfl, hK6, ho6⟩)
                rw [if_neg (by decide), if_neg (by decide)] at hK6
                have hp2 := Drop_calls _ hK6 ⟨#[99, 100]⟩ (by decide)
                rw [show (ByteArray.mk #[99, 100]).data.toList = [99, 100] from rfl, hcd] at hp2
                simp only [Option.isSome_some, if_true] at hp2
                clear hp
                go_upto_region 33 with (go_at_call 9; refine hp2.mono ?_; rintro e w6 ⟨rfl, hK7, ho7⟩)
                have hp3 := Put_calls _ hK7 ⟨#[108, 97, 115, 116]⟩ (by decide) 0 1
                rw [show (ByteArray.mk #[108, 97, 115, 116]).data.toList = [108, 97, 115, 116] from rfl, putE_ok (by rfl) (by omega) (by rw [if_neg (by decide)]; exact hla) (by omega)] at hp3
                clear hp2
                go_upto_region 34 with (go_at_call 8; refine hp3.mono ?_; rintro e w7 ⟨rfl, hK8, ho8⟩)
                simp only [if_true] at hK8
                have hp4 := Mark_calls _ hK8 ⟨#[99, 100]⟩ (by decide)
                rw [show (ByteArray.mk #[99, 100]).data.toList = [99, 100] from rfl, if_neg (by decide), if_pos rfl] at hp4
                simp only at hp4
                clear hp3
                go_upto_region 35 with (go_at_call 10; refine hp4.mono ?_; rintro e w8 ⟨rfl, hb8⟩)
                have hK9 := hK8.below hb8
                have hK10 := (hK9.below ((Below.refl _ w8).alloc (Nat.le_refl _) (.cells #[.string ⟨#[]⟩, .int .i64 0, .int .i64 0] 34)))
                have hM := Marks_calls sortOk sortNil _ hK10 (by omega)
                have hB8 : Below w.heap.size w w8 := HB5.out.trans ((((ho6.trans (ho7.trans ho8)).below HB5.out.size (fun j hj => by rw [hj]; exact HS1.out))).trans (hb8.mono (Nat.le_trans HB5.out.size ((ho6.trans (ho7.trans ho8)).size))))
                have HB8 := Lib.hid hB8
                clear hp4 hB8 hK9 hK10 hK8 hK7 hK6 hb8 ho6 ho7 ho8 HB5 HK5
                go_wp2_with (go_at_call 11; refine hM.mono ?_; rintro e w9 ⟨v, zs, rfl, hA, hrow, hb9⟩; obtain ⟨pp, cap, hv⟩ := row_slice hrow; subst hv; have hb9 := Lib.hid hb9)
                go_ret
                exact ⟨rfl, (HB8.out.alloc HB8.out.size _).trans (hb9.out.mono (by simp; exact Nat.le_trans HB8.out.size (Nat.le_succ _)))⟩
end Go.Proofs.YtgiiiolnagddnaaMar
end
section
namespace Go.Proofs.YtgiiiolnagddnaaR
open Go.RowKit Go.Proofs.YtgiiiolnagddnaaW.PrintWords
def Reads {α : Type} (P : Program) (t : TypeId) (d : Kd α) (Q : α → Prop) : Prop :=
  ∀ (H : Type) (enc : TypeId × Value → H) (w : World) (base : Nat) (spare : Nat → Bool) (held : Bool) (fuel : Nat) (cs : List Value) (x : DataW H × List MemPlace),
    DataW.trod enc P w base spare held fuel t cs = some x → (∀ n ∈ x.1.weights P t, n ≤ reachBytes) → ∃ y, d.K w y cs ∧ Q y
theorem reads_int {P : Program} {t : TypeId} {k : IntKind} (ht : P.underlying t = some (.int k)) : Reads P t (Kd.int k) (fun n => (Lit.int k n).wf = true) := by
  intro H enc w base spare held fuel cs x h _
  obtain ⟨n, rfl, _, hw⟩ := DataW.trod_int ht h
  exact ⟨n, rfl, hw⟩
theorem reads_bool {P : Program} {t : TypeId} (ht : P.underlying t = some .bool) : Reads P t Kd.bool (fun _ => True) := by
  intro H enc w base spare held fuel cs x h _
  obtain ⟨n, rfl, _⟩ := DataW.trod_bool ht h
  exact ⟨n, rfl, trivial⟩
theorem reads_string {P : Program} {t : TypeId} (ht : P.underlying t = some .string) : Reads P t Kd.string (fun s => s.size ≤ 140737488351232) := by
  intro H enc w base spare held fuel cs x h hb
  obtain ⟨s, rfl, rfl, _⟩ := DataW.trod_string ht h
  refine ⟨s, rfl, ?_⟩
  have := hb s.data.toList.length (by simp [DataW.weights])
  have e : reachBytes = 140737488351232 := rfl
  rw [e, data_length] at this
  exact this
def ReadsL {α : Type} (P : Program) (o : Nat) (fs : List Field) (d : Kd α) (Q : α → Prop) : Prop :=
  ∀ (H : Type) (enc : TypeId × Value → H) (w : World) (base : Nat) (spare : Nat → Bool) (held : Bool) (fuel : Nat) (cs : List Value) (xs : List (DataW H × List MemPlace)),
    xs.length = fs.length → (∀ (i : Nat) (f : Field), fs[i]? = some f → DataW.trod enc P w base spare held fuel f.type ((cs.drop f.offset).take (P.cellsOf f.type)) = xs[i]?) →
    (∀ n ∈ DataW.weightsEach P (fs.map (·.type)) (xs.map (·.1)), n ≤ reachBytes) → o + d.sz ≤ cs.length → ∃ y, d.K w y ((cs.drop o).take d.sz) ∧ Q y
theorem readsL_one {α : Type} {P : Program} {o : Nat} {f : Field} {d : Kd α} {Q : α → Prop} (h : Reads P f.type d Q) (ho : f.offset = o) (hc : P.cellsOf f.type = d.sz) : ReadsL P o [f] d Q := by
  intro H enc w base spare held fuel cs xs hl hx hb _
  match xs, hl with
  | [x], _ =>
    have h0 := hx 0 f rfl
    rw [ho, hc] at h0
    exact h H enc w base spare held fuel _ x h0 (fun n hn => hb n (by simpa [DataW.weightsEach] using hn))
theorem readsL_cons {α β : Type} {P : Program} {o : Nat} {f : Field} {fs : List Field} {a : Kd α} {b : Kd β} {Qa : α → Prop} {Qb : β → Prop} (h : Reads P f.type a Qa) (ho : f.offset = o) (hc : P.cellsOf f.type = a.sz) (ht : ReadsL P (o + a.sz) fs b Qb) :
    ReadsL P o (f :: fs) (Kd.pair a b) (fun y => Qa y.1 ∧ Qb y.2) := by
  intro H enc w base spare held fuel cs xs hl hx hb hlen
  match xs, hl with
  | x :: xs, hl =>
    have h0 := hx 0 f rfl
    rw [ho, hc] at h0
    obtain ⟨y, hy, hq⟩ := h H enc w base spare held fuel _ x h0 (fun n hn => hb n (by simp only [List.map_cons, DataW.weightsEach, List.mem_append]; exact Or.inl hn))
    have hsz : (Kd.pair a b).sz = a.sz + b.sz := rfl
    obtain ⟨z, hz, hr⟩ := ht H enc w base spare held fuel cs xs (by simpa using hl) (fun i g hg => hx (i + 1) g hg) (fun n hn => hb n (by simp only [List.map_cons, DataW.weightsEach, List.mem_append]; exact Or.inr hn)) (by rw [hsz] at hlen; omega)
    refine ⟨(y, z), ⟨_, _, ?_, hy, hz⟩, hq, hr⟩
    rw [hsz, List.take_add, List.drop_drop]
theorem reads_struct {α β : Type} {P : Program} {t : TypeId} {fs : Array Field} {d : Kd α} {Q : α → Prop} {f : β → α} (g : α → β) (hg : ∀ y, f (g y) = y) (ht : P.underlying t = some (.struct fs)) (hc : P.cellsOf t = d.sz) (h : ReadsL P 0 fs.toList d Q) :
    Reads P t (Kd.iso d f) (fun x => Q (f x)) := by
  intro H enc w base spare held fuel cs x hx hb
  obtain ⟨xs, n, rfl, rfl, hl, hlen, hall⟩ := DataW.trod_struct ht hx
  obtain ⟨y, hy, hq⟩ := h H enc w base spare held n cs xs (by simpa using hlen) (fun i f hf => hall i f (by simpa using hf)) (fun k hk => hb k (by simp only [DataW.weights, ht]; exact hk)) (by omega)
  rw [List.drop_zero, List.take_of_length_le (by omega)] at hy
  refine ⟨g y, ?_, ?_⟩
  · show d.K w (f (g y)) cs
    rw [hg]; exact hy
  · show Q (f (g y))
    rw [hg]; exact hq
theorem agg_arg {α : Type} {H : Type} {enc : TypeId × Value → H} {P : Program} {W : World} {base : Nat} {spare : Nat → Bool} {held : Bool} {t : TypeId} {d : Kd α} {Q : α → Prop} {v : Value} {D : DataW H} {ps : List MemPlace}
    (h : DataW.Trod enc P W base spare held t v D ps) {ts : List TypeId} {ds : List (DataW H)} {j : Nat}
    (hsz : (DataW.weightsEach P ts ds).all (· ≤ reachBytes) = true) (ht : ts[j]? = some t) (hd : ds[j]? = some D) (hR : Reads P t d Q) :
    ∃ x : α, d.K W x v.cells.toList ∧ Q x := by
  obtain ⟨fuel, hf⟩ := h
  exact hR H enc W base spare held fuel _ _ hf (fun n hn => by
    have := List.all_eq_true.1 hsz n (DataW.weights_mem_each ht hd n hn)
    simpa using this)
end Go.Proofs.YtgiiiolnagddnaaR
end
section
namespace Go.Proofs.YtgiiiolnagddnaaMar
open Go.RowKit Go.Proofs.YtgiiiolnagddnaaR Go.Proofs.YtgiiiolnagddnaaW.PrintWords
abbrev STitle : Type := ByteArray × Int × Int × Bool
abbrev kTitle : Kd STitle := Kd.pair Kd.string (Kd.pair (Kd.int .i64) (Kd.pair (Kd.int .i64) Kd.bool))
theorem reads3 : Reads Try.prog 3 (Kd.int .i64) (fun n => (Lit.int .i64 n).wf = true) := reads_int (by kernel_rfl)
theorem reads4 : Reads Try.prog 4 Kd.bool (fun _ => True) := reads_bool (by kernel_rfl)
theorem reads9 : Reads Try.prog 9 Kd.string (fun s => s.size ≤ 140737488351232) := reads_string (by kernel_rfl)
abbrev WfTitle (x : STitle) : Prop := x.1.size ≤ 140737488351232 ∧ (Lit.int .i64 x.2.1).wf = true ∧ (Lit.int .i64 x.2.2.1).wf = true ∧ True
theorem reads28 : Reads Try.prog 28 (Kd.iso kTitle (fun x : STitle => x)) WfTitle := by
  have h3 : ReadsL Try.prog 3 [{ name := "Many", type := 4, offset := 3, embedded := false, tag := "", pkgPath := "", byteOffset := 32 }] Kd.bool _ := readsL_one reads4 rfl (by kernel_rfl)
  have h2 : ReadsL Try.prog 2 [{ name := "Hi", type := 3, offset := 2, embedded := false, tag := "", pkgPath := "", byteOffset := 24 }, _] (Kd.pair (Kd.int .i64) Kd.bool) _ := readsL_cons reads3 rfl (by kernel_rfl) h3
  have h1 : ReadsL Try.prog 1 [{ name := "Lo", type := 3, offset := 1, embedded := false, tag := "", pkgPath := "", byteOffset := 16 }, _, _] (Kd.pair (Kd.int .i64) (Kd.pair (Kd.int .i64) Kd.bool)) _ := readsL_cons reads3 rfl (by kernel_rfl) h2
  have h0 : ReadsL Try.prog 0 [{ name := "Name", type := 9, offset := 0, embedded := false, tag := "", pkgPath := "", byteOffset := 0 }, _, _, _] kTitle _ := readsL_cons reads9 rfl (by kernel_rfl) h1
  exact reads_struct (fun y => y) (fun _ => rfl) Try.underlying28 (by kernel_rfl) h0
theorem agg_of_cells4 {v a b c d : Value} (h : v.cells.toList = [a, b, c, d]) : v = .agg #[a, b, c, d] := by
  cases v <;> simp [Value.cells] at h
  rename_i arr
  cases arr
  simp_all
theorem open28 {w : World} {x : STitle} {v : Value} (h : (Kd.iso kTitle (fun x : STitle => x)).K w x v.cells.toList) : v = .agg #[.string x.1, .int .i64 x.2.1, .int .i64 x.2.2.1, .bool x.2.2.2] := by
  obtain ⟨_, _, hv, rfl, _, _, rfl, rfl, _, _, rfl, rfl, rfl⟩ := h
  exact agg_of_cells4 hv
end Go.Proofs.YtgiiiolnagddnaaMar
end
section
namespace Go.Proofs.YtgiiiolnagddnaaMar
open Go.RowKit Go.Proofs.YtgiiiolnagddnaaR Go.Proofs.YtgiiiolnagddnaaW.PrintWords
theorem Titles_pure (x : STitle) (_ : WfTitle x) : ∃ k : Nat, k = k := ⟨0, rfl⟩
theorem Titles.calls (kk : Nat) (s : ByteArray) (lo hi : Int) (many : Bool) (r : Bool) (W : World) (hs : s.size ≤ 140737488351232) (hk : kk = kk) : Calls Try.prog 4 #[.agg #[.string s, .int .i64 lo, .int .i64 hi, .bool many]] W fun e w' => e = .returned (.bool true) ∧ Below W.heap.size W w' :=
  titles_calls s (Nat.le_trans hs (by decide)) lo hi many W
end Go.Proofs.YtgiiiolnagddnaaMar
end
