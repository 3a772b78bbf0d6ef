/- MarksGrow: an insert at or ahead of the first cell of a mark moves the mark, one between its first and its last cell is a part of it, one behind its last cell leaves it, and a Hide, a Show and nothing leave all marks: for every input the statement answers true and reads as it did. -/
import Derived.Lib.MapLaws
import Derived.Laws.RangeAny
import Derived.Lib.OthersKept
import Derived.Lib.RuneBytes
import Derived.Maps.OwnSet
import Derived.Below
import Derived.WalkKit
import Derived.KernelRfl
import Derived.Test.YtgiiiolnagddnaaDoorProg
import Derived.Laws.IdiomStrings
import Derived.Tactics
import Derived.IntWalk
import Derived.RangeFuncBox
import Derived.Lib.Hide
import Derived.Maps.RangeWalk
import Derived.LoopTactic
import Derived.OwnWalk
import Derived.Outline
import Derived.Lib.IndexBytes
import Derived.Laws.Rows
import Derived.Laws.DeepBits32
import Derived.Laws.BitsLemmas
import Derived.WalkLawsBesides
import Derived.Test.YtgiiiolnagddnaaDoorRows
import Derived.ProofKit
import Derived.LaidMore
import Derived.OpenShut
import Derived.Stop.Joined
import Derived.BigQuiet
import Derived.StillTailTactics
import Derived.Deep.LoopGhost
import Derived.Deep.CutBlock
import Derived.Deep.DeepCutAuto
section
namespace Go.Proofs.YtgiiiolnagddnaaDoorMar
open Go.Lib
set_option linter.unusedSimpArgs false
set_option linter.unusedVariables false
def Rn (r : Int) : Prop := 0 ≤ r ∧ r ≤ 1114111 ∧ ¬ (55296 ≤ r ∧ r ≤ 57343)
def utf (l : List Int) : List UInt8 := l.flatMap encodeRune
def txt (l : List Int) : ByteArray := ⟨(utf l).toArray⟩
def wid (r : Int) : Nat := (encodeRune r).length
theorem u8n {x : Int} (h0 : 0 ≤ x) (h1 : x < 256) : (x.toNat.toUInt8).toNat = x.toNat := by
  simp; omega
theorem decode_utf {r : Int} (h : Rn r) (t : List UInt8) : decodeL (encodeRune r ++ t) = (r.toNat, wid r) := by
  obtain ⟨h0, h1, h2⟩ := h
  rw [decodeL_N, wid]
  by_cases c1 : r ≤ 127
  · have e : encodeRune r = [r.toNat.toUInt8] := by rw [encodeRune, encodeRuneZ_one h0 c1]; rfl
    rw [e]
    simp only [List.cons_append, List.nil_append, List.getD_cons_zero, List.length_cons, List.length_nil]
    rw [u8n h0 (by omega)]
    unfold decodeN
    rw [if_pos (by omega)]
  · by_cases c2 : r ≤ 2047
    · have e : encodeRune r = [(192 + r / 64).toNat.toUInt8, (128 + r % 64).toNat.toUInt8] := by rw [encodeRune, encodeRuneZ_two (by omega) c2]; rfl
      rw [e]
      simp only [List.cons_append, List.nil_append, List.getD_cons_zero, List.getD_cons_succ, List.length_cons, List.length_nil]
      rw [u8n (x := 192 + r / 64) (by omega) (by omega), u8n (x := 128 + r % 64) (by omega) (by omega)]
      unfold decodeN
      rw [if_neg (by omega), if_pos ⟨by omega, by omega, by omega⟩, if_pos (by omega)]
      exact Prod.ext (by dsimp only; omega) rfl
    · by_cases c3 : r ≤ 65535
      · have e : encodeRune r = [(224 + r / 4096).toNat.toUInt8, (128 + r / 64 % 64).toNat.toUInt8, (128 + r % 64).toNat.toUInt8] := by rw [encodeRune, encodeRuneZ_three (by omega)]; rfl
        rw [e]
        simp only [List.cons_append, List.nil_append, List.getD_cons_zero, List.getD_cons_succ, List.length_cons, List.length_nil]
        rw [u8n (x := 224 + r / 4096) (by omega) (by omega), u8n (x := 128 + r / 64 % 64) (by omega) (by omega), u8n (x := 128 + r % 64) (by omega) (by omega)]
        unfold decodeN
        rw [if_neg (by omega), if_neg (by omega), if_pos ⟨by omega, ⟨by omega, by omega⟩, by omega, by omega⟩, if_pos ⟨by omega, by omega⟩]
        exact Prod.ext (by dsimp only; omega) rfl
      · have e : encodeRune r = [(240 + r / 262144).toNat.toUInt8, (128 + r / 4096 % 64).toNat.toUInt8, (128 + r / 64 % 64).toNat.toUInt8, (128 + r % 64).toNat.toUInt8] := by rw [encodeRune, encodeRuneZ_four (by omega) (by omega)]; rfl
        rw [e]
        simp only [List.cons_append, List.nil_append, List.getD_cons_zero, List.getD_cons_succ, List.length_cons, List.length_nil]
        rw [u8n (x := 240 + r / 262144) (by omega) (by omega), u8n (x := 128 + r / 4096 % 64) (by omega) (by omega), u8n (x := 128 + r / 64 % 64) (by omega) (by omega), u8n (x := 128 + r % 64) (by omega) (by omega)]
        unfold decodeN
        rw [if_neg (by omega), if_neg (by omega), if_neg (by omega), if_pos ⟨by omega, ⟨by omega, by omega⟩, ⟨by omega, by omega⟩, by omega, by omega⟩, if_pos ⟨by omega, by omega⟩]
        exact Prod.ext (by dsimp only; omega) rfl
theorem wid_pos (r : Int) : 1 ≤ wid r ∧ wid r ≤ 4 := by
  have := encodeRuneZ_length r
  simpa [wid, encodeRune] using this
theorem utf_append (a b : List Int) : utf (a ++ b) = utf a ++ utf b := by simp [utf]
theorem utf_cons (r : Int) (b : List Int) : utf (r :: b) = encodeRune r ++ utf b := by simp [utf]
theorem txt_size (l : List Int) : (txt l).size = (utf l).length := by simp [txt, ByteArray.size]
theorem txt_list (l : List Int) : (txt l).data.toList = utf l := by simp [txt]
theorem decode_txt {a : List Int} {r : Int} {b : List Int} (h : Rn r) : Utf8.decode (txt (a ++ r :: b)) (utf a).length = (r.toNat, wid r) := by
  rw [← decodeL_drop, txt_list, utf_append, List.drop_left, utf_cons]
  exact decode_utf h _
theorem txt_lt {a : List Int} {r : Int} {b : List Int} : (utf a).length < (txt (a ++ r :: b)).size := by
  rw [txt_size, utf_append, utf_cons, List.length_append, List.length_append]
  have := wid_pos r
  unfold wid at this
  omega
theorem utf_snoc (a : List Int) (r : Int) : (utf (a ++ [r])).length = (utf a).length + wid r := by
  rw [utf_append, List.length_append, wid]
  simp [utf]
theorem txt_end (a : List Int) : ¬ (utf a).length < (txt a).size := by rw [txt_size]; omega
end Go.Proofs.YtgiiiolnagddnaaDoorMar
end
section
namespace Go.Proofs.YtgiiiolnagddnaaDoorMar
open Go.RowKit Go.Maps
structure ElemK (α : Type) where
  R : Value → Option (DataW Unit × List MemPlace)
  val : α → Value
  dat : α → DataW Unit
  put : ∀ a, R (val a) = some (dat a, [])
  inv : ∀ {v a ps}, R v = some (dat a, ps) → v = val a
structure Only (K : Nat → Prop) (W W' : World) : Prop where
  os : W'.os = W.os
  tape : W'.tape = W.tape
  output : W'.output = W.output
  size : W.heap.size ≤ W'.heap.size
  block : ∀ k, k < W.heap.size → ¬ K k → W'.heap[k]? = W.heap[k]?
theorem Only.refl (K : Nat → Prop) (W : World) : Only K W W := ⟨rfl, rfl, rfl, Nat.le_refl _, fun _ _ _ => rfl⟩
theorem Only.trans {K : Nat → Prop} {A B C : World} (h : Only K A B) (k : Only K B C) : Only K A C :=
  ⟨k.os.trans h.os, k.tape.trans h.tape, k.output.trans h.output, Nat.le_trans h.size k.size, fun i hi hn => (k.block i (Nat.lt_of_lt_of_le hi h.size) hn).trans (h.block i hi hn)⟩
theorem Only.mono {K K' : Nat → Prop} {A B : World} (h : Only K A B) (hk : ∀ i, K i → K' i) : Only K' A B := ⟨h.os, h.tape, h.output, h.size, fun i hi hn => h.block i hi (fun hki => hn (hk i hki))⟩
theorem Only.below {K : Nat → Prop} {A B : World} (h : Only K A B) {n : Nat} (hn : n ≤ A.heap.size) (hk : ∀ i, K i → n ≤ i) : Below n A B :=
  ⟨h.os, h.tape, h.output, h.size, fun i hi => h.block i (Nat.lt_of_lt_of_le hi hn) (fun hki => by have := hk i hki; omega)⟩
theorem Only.of_below {K : Nat → Prop} {A B : World} (h : Below A.heap.size A B) : Only K A B := ⟨h.os, h.tape, h.output, h.size, fun i hi _ => h.block i hi⟩
theorem Only.alloc (K : Nat → Prop) (W : World) (o : Obj) : Only K W (W.alloc o) := Only.of_below ((Below.refl _ W).alloc (Nat.le_refl _) o)
theorem Only.setCell (K : Nat → Prop) (W : World) (p : Addr) (v : Value) (hk : K p.block) : Only K W (W.setCell p v) :=
  ⟨rfl, rfl, rfl, by simp [World.setCell], fun i _ hn => Below.heap_setCell _ _ _ _ (fun e => hn (e ▸ hk))⟩
theorem Only.turned {K : Nat → Prop} {A B : World} {b : Nat} (h : A.mapTurned B b) (hk : K b) : Only K A B := by
  obtain ⟨es, clock, es', clock', hb, rfl⟩ := h
  exact ⟨rfl, rfl, rfl, by simp [ChangeMaps.setBlock], fun i _ hn => ChangeMaps.heap_setBlock_other hb _ (fun e => hn (e ▸ hk))⟩
section
variable {α : Type} {P : Program} {tS : TypeId}
def SMap (P : Program) (tS : TypeId) (E : ElemK α) (W : World) (b : Nat) (m : List UInt8 → Option α) (N : Nat) : Prop :=
  ∃ D : DataW Unit, W.ownsMap P tS E.R b N D ∧ Maps.size D = N ∧ ∀ x : List UInt8, x.length ≤ maxLen → match m x with
    | some a => ∀ z, D.atKey (.string x) z = E.dat a
    | none => ∀ z, D.atKey (.string x) z = z
variable {E : ElemK α} {W W' : World} {b N : Nat} {m : List UInt8 → Option α}
theorem owns_size {R : Value → Option (DataW Unit × List MemPlace)} {n : Nat} {D : DataW Unit} (h : W.ownsMap P tS R b n D) : W.ownsMap P tS R b (Maps.size D) D := by
  obtain ⟨es, clock, hb, F, hs, rfl⟩ := h
  exact ⟨es, clock, hb, F, by simp [Maps.size, length_sorted], rfl⟩
theorem SMap.lt (h : SMap P tS E W b m N) : b < W.heap.size := by
  obtain ⟨D, h1, _⟩ := h
  exact h1.lt
theorem SMap.block (h : SMap P tS E W b m N) (hb : W'.heap[b]? = W.heap[b]?) : SMap P tS E W' b m N := by
  obtain ⟨D, ⟨es, clock, h0, h1⟩, h2⟩ := h
  exact ⟨D, ⟨es, clock, hb.trans h0, h1⟩, h2⟩
theorem SMap.isMap (h : SMap P tS E W b m N) : ∃ es clock, W.heap[b]? = some (.map es clock) := by
  obtain ⟨D, ⟨es, clock, h0, _⟩, _⟩ := h
  exact ⟨es, clock, h0⟩
theorem SMap.made (W : World) : SMap P tS E (W.alloc (.map #[] 0)) W.heap.size (fun _ => none) 0 :=
  ⟨_, World.ownsMap_made W P tS E.R, rfl, fun _ _ => fun _ => rfl⟩
theorem strKey (x : List UInt8) : WideAt.IsKeyLit (.string x) := trivial
theorem strNe {x y : List UInt8} (h : x ≠ y) : (Lit.string x) ≠ Lit.string y := fun e => h (by cases e; rfl)
theorem keyOf_str (hS : P.underlying tS = some .string) {s : ByteArray} (hs : s.size ≤ maxLen) : keyOf P tS (.string s) = some (.string s.data.toList) := by
  simp [keyOf, hS, mapKey, hs]
theorem has_of (h : SMap P tS E W b m N) : ∃ D : DataW Unit, W.ownsMap P tS E.R b N D ∧ Maps.size D = N ∧ (∀ x : List UInt8, x.length ≤ maxLen → Maps.has D (.string x) = (m x).isSome) := by
  obtain ⟨D, h1, h2, h3⟩ := h
  refine ⟨D, h1, h2, fun x hx => ?_⟩
  have := h3 x hx
  cases hm : m x with
  | none => rw [hm] at this; rw [has_false_of_atKey this]; rfl
  | some a => rw [hm] at this; rw [has_true_of_atKey this]; rfl
variable {t e : TypeId}
theorem SMap.look (h : SMap P tS E W b m N) (hS : P.underlying tS = some .string) (ht : P.underlying t = some (.map tS e)) {z : α} (hz : (zeroValue e).run P W = .ok (E.val z) W) {s : ByteArray} (hs : s.size ≤ maxLen) :
    (Instr.lookup t (.map (some b)) (.string s) true).run P W = .ok (.tuple #[E.val ((m s.data.toList).getD z), .bool (m s.data.toList).isSome]) W := by
  obtain ⟨D, h1, h0, h2⟩ := h
  obtain ⟨v, ps, hrun, hv⟩ := h1.look_ok (string_keyed hS) ht hz (E.put z) (keyOf_str hS hs)
  have h2 := h2 s.data.toList (by simpa using hs)
  rw [hrun]
  cases hm : m s.data.toList with
  | none =>
    rw [hm] at h2
    simp only at h2
    rw [h2] at hv
    rw [E.inv hv, has_false_of_atKey h2]
    rfl
  | some a =>
    rw [hm] at h2
    simp only at h2
    rw [h2] at hv
    rw [E.inv hv, has_true_of_atKey h2]
    rfl
theorem SMap.len (h : SMap P tS E W b m N) (ht : P.underlying t = some (.map tS e)) (ty : TypeId) : (Builtin.len_ #[t] ty #[.map (some b)]).run P W = .ok (.int .i64 (N : Int)) W := by
  obtain ⟨D, h1, h0, _⟩ := h
  rw [h1.len ht ty, h0]
theorem SMap.store (h : SMap P tS E W b m N) (hS : P.underlying tS = some .string) (ht : P.underlying t = some (.map tS e)) (hn : N < maxLen) {s : ByteArray} (hs : s.size ≤ maxLen) (hnew : m s.data.toList = none) (a : α) :
    ∃ W', (Instr.mapUpdate t (.map (some b)) (.string s) (E.val a)).run P W = .ok () W' ∧ SMap P tS E W' b (fun y => if y = s.data.toList then some a else m y) (N + 1) ∧ W.mapTurned W' b := by
  obtain ⟨D, h1, h0, h2⟩ := h
  have hD := h1.isMap
  obtain ⟨W', hrun, hown, hturn⟩ := h1.store (string_keyed hS) ht hn (keyOf_str hS hs) (E.put a)
  have hx : s.data.toList.length ≤ maxLen := by simpa using hs
  have hno : Maps.has D (.string s.data.toList) = false := by
    have := h2 _ hx
    rw [hnew] at this
    exact has_false_of_atKey this
  have hsz : Maps.size (D.put (.string s.data.toList) (E.dat a)) = N + 1 := by
    rw [size_put (h1.tidy (string_keyed hS)), hno, h0]
    rfl
  refine ⟨W', hrun, ⟨_, hown, hsz, fun y hy => ?_⟩, hturn⟩
  by_cases c : y = s.data.toList
  · subst c
    simp only [if_true]
    exact fun z => atKey_put_same hD (strKey _) _ _
  · simp only [if_neg c]
    have := h2 y hy
    cases hm : m y with
    | none => rw [hm] at this; exact fun z => (atKey_put_other (strNe c) _ _).trans (this z)
    | some a' => rw [hm] at this; exact fun z => (atKey_put_other (strNe c) _ _).trans (this z)
theorem SMap.drop (h : SMap P tS E W b m N) (hS : P.underlying tS = some .string) (ht : P.underlying t = some (.map tS e)) (ty : TypeId) {s : ByteArray} (hs : s.size ≤ maxLen) :
    ∃ W', (Builtin.delete_ #[t, tS] ty #[.map (some b), .string s]).run P W = .ok (.tuple #[]) W' ∧ SMap P tS E W' b (fun y => if y = s.data.toList then none else m y) (if (m s.data.toList).isSome then N - 1 else N) ∧ W.mapTurned W' b := by
  obtain ⟨D', h1', h0', hh⟩ := has_of h
  obtain ⟨D, h1, h0, h2⟩ := h
  obtain ⟨W', hrun, hown, hturn⟩ := h1.drop (string_keyed hS) ht (keyOf_str hS hs) ty
  have hx : s.data.toList.length ≤ maxLen := by simpa using hs
  have hha : Maps.has D (.string s.data.toList) = (m s.data.toList).isSome := by
    have := h2 _ hx
    cases hm : m s.data.toList with
    | none => rw [hm] at this; rw [has_false_of_atKey this]; rfl
    | some a => rw [hm] at this; rw [has_true_of_atKey this]; rfl
  have hsz := size_del (k := .string s.data.toList) (h1.tidy (string_keyed hS))
  rw [hha, h0] at hsz
  have hsz2 : Maps.size (D.del (.string s.data.toList)) = if (m s.data.toList).isSome then N - 1 else N := by
    split at hsz <;> rename_i c <;> simp [c] <;> omega
  refine ⟨W', hrun, ⟨_, by have := owns_size hown; rwa [hsz2] at this, hsz2, fun y hy => ?_⟩, hturn⟩
  by_cases c : y = s.data.toList
  · subst c
    simp only [if_true]
    exact fun z => atKey_del_same _
  · simp only [if_neg c]
    have := h2 y hy
    cases hm : m y with
    | none => rw [hm] at this; exact fun z => (atKey_del_other (strNe c) _).trans (this z)
    | some a' => rw [hm] at this; exact fun z => (atKey_del_other (strNe c) _).trans (this z)
end
end Go.Proofs.YtgiiiolnagddnaaDoorMar
end
section
namespace Go.Proofs.YtgiiiolnagddnaaDoorMar
open Go.RowKit Go.Maps
set_option linter.unusedSimpArgs false
set_option linter.unusedVariables false
def EM : ElemK (Int × Int) where
  R v := match v with
    | .agg cs => match cs.toList with
      | [.int .i64 a, .int .i64 b] => some (.map [(.int .i64 a, .lit (.int .i64 b))], [])
      | _ => none
    | _ => none
  val a := .agg #[.int .i64 a.1, .int .i64 a.2]
  dat a := .map [(.int .i64 a.1, .lit (.int .i64 a.2))]
  put a := rfl
  inv {v a ps} h := by
    cases v <;> simp at h
    rename_i cs
    cases cs with | mk l =>
    split at h
    · rename_i h'
      simp at h h'
      subst h'
      rw [h.1.1, h.1.2]
    · cases h
def BookAt (W : World) (p b : Nat) (tot : Int) (m : List UInt8 → Option (Int × Int)) (N : Nat) : Prop :=
  W.heap[p]? = some (.cells #[.int .i64 tot, .map (some b)] 47 (0, 0)) ∧ SMap Tryd.prog 9 EM W b m N
section
variable {W W' : World} {p b N : Nat} {tot : Int} {m : List UInt8 → Option (Int × Int)}
theorem BookAt.c0 (h : BookAt W p b tot m N) : W.cell? ⟨p, 0, none⟩ = some (.int .i64 tot) := by simp [World.cell?, h.1]
theorem BookAt.c1 (h : BookAt W p b tot m N) : W.cell? ⟨p, 1, none⟩ = some (.map (some b)) := by simp [World.cell?, h.1]
theorem BookAt.lt (h : BookAt W p b tot m N) : p < W.heap.size := (Array.getElem?_eq_some_iff.1 h.1).1
theorem BookAt.ne (h : BookAt W p b tot m N) : p ≠ b := by
  rintro rfl
  obtain ⟨es, clock, he⟩ := h.2.isMap
  rw [h.1] at he
  cases he
theorem BookAt.only {K : Nat → Prop} (h : BookAt W p b tot m N) (hk : Only K W W') (h1 : ¬ K p) (h2 : ¬ K b) : BookAt W' p b tot m N :=
  ⟨(hk.block p h.lt h1).trans h.1, h.2.block (hk.block b h.2.lt h2)⟩
theorem BookAt.below (h : BookAt W p b tot m N) (hk : Below W.heap.size W W') : BookAt W' p b tot m N := h.only (K := fun _ => False) (Only.of_below hk) (fun h => h) (fun h => h)
theorem BookAt.turn {m' : List UInt8 → Option (Int × Int)} {N' : Nat} (h : BookAt W p b tot m N) (ht : W.mapTurned W' b) (hm : SMap Tryd.prog 9 EM W' b m' N') : BookAt W' p b tot m' N' :=
  ⟨((Only.turned (K := fun k => k = b) ht rfl).block p h.lt h.ne).trans h.1, hm⟩
end
set_option maxRecDepth 100000 in
set_option maxHeartbeats 4000000 in
theorem New_calls (tot : Int) (h : 0 ≤ tot ∧ tot ≤ 1048576) (w : World) : Calls Tryd.prog 5 #[.int .i64 tot] w fun e w' => e = .returned (.tuple #[.pointer (some ⟨w.heap.size + 1, 0, none⟩), .int .i64 0]) ∧ BookAt w' (w.heap.size + 1) w.heap.size tot (fun _ => none) 0 ∧ Below w.heap.size w w' := by
  have hmm := @run_makeMap Tryd.prog
  have d0 : decide (tot < 0) = false := decide_eq_false (by omega)
  have d1 : decide (1048576 < tot) = false := decide_eq_false (by omega)
  have hM := SMap.made (P := Tryd.prog) (tS := 9) (E := EM) w
  have hb := ((Below.refl w.heap.size w).alloc (Nat.le_refl _) (.map #[] 0)).alloc (by simp) (.cells #[.int .i64 tot, .map (some w.heap.size)] 47)
  have h1 := World.alloc_heap_new (w.alloc (.map #[] 0)) (.cells #[.int .i64 tot, .map (some w.heap.size)] 47)
  rw [World.size_alloc] at h1
  clear h
  go_enter Tryd.func5, Tryd.ntmps5
  go_wp2
  go_ret2
  exact ⟨rfl, ⟨h1, hM.block (Below.heap_alloc _ _ _ (by simp))⟩, hb⟩
def okB (c : UInt8) : Bool := (97 ≤ c.toNat && c.toNat ≤ 122) || (48 ≤ c.toNat && c.toNat ≤ 57) || c.toNat == 46 || c.toNat == 45 || c.toNat == 95
def nameB (l : List UInt8) : Bool := decide (1 ≤ l.length) && decide (l.length ≤ 32) && l.all okB
theorem okB_iff (c : UInt8) : okB c = true ↔ (97 ≤ (c.toNat : Int) ∧ (c.toNat : Int) ≤ 122) ∨ (48 ≤ (c.toNat : Int) ∧ (c.toNat : Int) ≤ 57) ∨ (c.toNat : Int) = 46 ∨ (c.toNat : Int) = 45 ∨ (c.toNat : Int) = 95 := by
  unfold okB
  simp only [Bool.or_eq_true, Bool.and_eq_true, decide_eq_true_eq, beq_iff_eq]
  omega
theorem all_take {l : List UInt8} {i : Nat} {c : UInt8} (hi : l[i]? = some c) (h : (l.take i).all okB = true) (hc : okB c = true) : (l.take (i + 1)).all okB = true := by
  rw [List.take_add_one, hi, List.all_append, h]
  simp [hc]
theorem all_fail {l : List UInt8} {i : Nat} {c : UInt8} (hi : l[i]? = some c) (hc : ¬ okB c = true) : nameB l = false := by
  have : l.all okB = false := by
    rw [List.all_eq_false]
    exact ⟨c, List.mem_of_getElem? hi, hc⟩
  simp [nameB, this]
set_option maxRecDepth 100000 in
set_option maxHeartbeats 8000000 in
theorem title_calls (s : ByteArray) (w : World) : Calls Tryd.prog 10 #[.string s] w fun e w' => e = .returned (.bool (nameB s.data.toList)) ∧ Below w.heap.size w w' := by
  obtain ⟨l, hl⟩ : ∃ l, l = s.data.toList := ⟨_, rfl⟩
  have hls : l.length = s.size := by rw [hl]; simp
  rw [← hl]
  by_cases c1 : s.size < 1
  · have hnb : nameB l = false := by simp [nameB]; omega
    have d0 : decide (s.size < 1) = true := decide_eq_true c1
    have d1 : decide ((s.size : Int) < 1) = true := decide_eq_true (by omega)
    rw [hnb]
    clear hnb hls hl
    go_enter Tryd.func10, Tryd.ntmps10
    go_wp2
    go_ret
    exact ⟨rfl, Below.refl _ _⟩
  · by_cases c2 : 32 < s.size
    · have hnb : nameB l = false := by simp [nameB]; omega
      have d1 : decide ((s.size : Int) < 1) = false := decide_eq_false (by omega)
      have d2 : decide ((32 : Int) < (s.size : Int)) = true := decide_eq_true (by omega)
      rw [hnb]
      clear hnb hls hl
      go_enter Tryd.func10, Tryd.ntmps10
      go_wp2
      go_ret
      exact ⟨rfl, Below.refl _ _⟩
    · have d1 : decide ((s.size : Int) < 1) = false := decide_eq_false (by omega)
      have d2 : decide ((32 : Int) < (s.size : Int)) = false := decide_eq_false (by omega)
      have hcv := run_bytes_of_string (P := Tryd.prog) w 9 55 5 s Tryd.underlying9 Tryd.underlying55 Tryd.underlying5
      obtain ⟨cap, hcap⟩ : ∃ cap, cap = grownCap w s.size 0 5 := ⟨_, rfl⟩
      rw [← hcap] at hcv
      obtain ⟨W1, hW1⟩ : ∃ W1, W1 = w.drew.alloc (.cells (bytesRow s cap) 5 ((bytesRow s cap).size, (bytesRow s cap).size + 1)) := ⟨_, rfl⟩
      have hbel : Below w.heap.size w W1 := by rw [hW1]; exact (Below.refl _ w).drew.alloc (Nat.le_refl _) _
      have hcell : ∀ i (hi : i < s.size), W1.cell? ⟨w.heap.size, i, none⟩ = some (.int .u8 (s.data[i].toNat : Int)) := by
        intro i hi
        have h1 : W1.heap[w.heap.size]? = some (.cells (bytesRow s cap) 5 ((bytesRow s cap).size, (bytesRow s cap).size + 1)) := by rw [hW1]; exact World.alloc_heap_new w.drew _
        have h2 := bytesRow_at s cap i hi
        simp [World.cell?, h1, h2]
      rw [← hW1] at hcv
      have hget : ∀ i (hi : i < s.size), l[i]? = some s.data[i] := by
        intro i hi
        rw [hl, Array.getElem?_toList]
        exact Array.getElem?_eq_getElem hi
      have HB := Lib.hid hbel
      have HC := Lib.hid hcell
      have HG := Lib.hid hget
      have HLS := Lib.hid hls
      obtain ⟨r, hr⟩ : ∃ r, r = nameB l := ⟨_, rfl⟩
      rw [← hr]
      have HR := Lib.hid hr
      clear hr
      have hs32 : (s.size : Int) ≤ 32 := by omega
      have hs1 : 1 ≤ s.size := by omega
      clear hW1 hbel hcell hget hls hl hcap c1 c2
      go_enter Tryd.func10, Tryd.ntmps10
      go_wp2
      clear d1 d2 hcv
      go_loopw [16] (fun v16 wr => ∃ i : Nat, i ≤ s.size ∧ v16 = .int .i64 (i : Int) ∧ (l.take i).all okB = true ∧ wr = W1) (fun v16 _ => s.size - (intOf v16).toNat)
      case atStart => exact ⟨0, Nat.zero_le _, rfl, by simp, rfl⟩
      case round =>
        obtain ⟨i, hi, rfl, hall, rfl⟩ := hrel
        by_cases hlt : i < s.size
        · have dl : decide (i < s.size) = true := decide_eq_true hlt
          have q2 : ((i : Int) < (s.size : Int)) = True := eq_true (by omega)
          have q3 : (0 ≤ (i : Int)) = True := eq_true (by omega)
          have ib : (i : Int) ≤ 32 := by omega
          have x0 := HC.out i hlt
          have hbd : (s.data[i].toNat : Int) < 256 := by have := s.data[i].toNat_lt; omega
          obtain ⟨x, hx⟩ : ∃ x : Int, x = (s.data[i].toNat : Int) := ⟨_, rfl⟩
          have hx0 : 0 ≤ x := by omega
          rw [← hx] at x0 hbd
          have HA := Lib.hid hall
          clear hall
          rcases (by omega : (97 ≤ x ∧ x ≤ 122) ∨ (97 ≤ x ∧ 122 < x) ∨ (48 ≤ x ∧ x ≤ 57) ∨ (x = 95) ∨ (57 < x ∧ x < 97 ∧ x ≠ 95) ∨ (x = 46) ∨ (x = 45) ∨ (x < 48 ∧ x ≠ 46 ∧ x ≠ 45)) with hc | hc | hc | hc | hc | hc | hc | hc
          · have e0 : decide (97 ≤ x) = true := decide_eq_true (by omega)
            have e1 : decide (x ≤ 122) = true := decide_eq_true (by omega)
            have hok : okB s.data[i] = true := (okB_iff _).2 (by rw [← hx]; omega)
            have HN := Lib.hid (all_take (HG.out i hlt) HA.out hok)
            clear hok
            go_wp2
            go_roundw
            case rel => exact ⟨i + 1, hlt, by go_num, HN.out, trivial⟩
            case measure => simp [intOf]; omega
          · have e0 : decide (97 ≤ x) = true := decide_eq_true (by omega)
            have e1 : decide (x ≤ 122) = false := decide_eq_false (by omega)
            have e2 : decide (48 ≤ x) = true := decide_eq_true (by omega)
            have e3 : decide (x ≤ 57) = false := decide_eq_false (by omega)
            have e4 : (x == 46) = false := beq_eq_false_iff_ne.2 (by omega)
            have e5 : (x == 45) = false := beq_eq_false_iff_ne.2 (by omega)
            have e6 : (x == 95) = false := beq_eq_false_iff_ne.2 (by omega)
            have hno : ¬ okB s.data[i] = true := fun h => by have := (okB_iff _).1 h; rw [← hx] at this; omega
            have hnb := all_fail (HG.out i hlt) hno
            have HNB := Lib.hid hnb
            clear hno hnb
            go_wp2
            go_ret
            exact ⟨by rw [HR.out, HNB.out]; rfl, HB.out⟩
          · have e0 : decide (97 ≤ x) = false := decide_eq_false (by omega)
            have e1 : decide (48 ≤ x) = true := decide_eq_true (by omega)
            have e2 : decide (x ≤ 57) = true := decide_eq_true (by omega)
            have hok : okB s.data[i] = true := (okB_iff _).2 (by rw [← hx]; omega)
            have HN := Lib.hid (all_take (HG.out i hlt) HA.out hok)
            clear hok
            go_wp2
            go_roundw
            case rel => exact ⟨i + 1, hlt, by go_num, HN.out, trivial⟩
            case measure => simp [intOf]; omega
          · have e0 : decide (97 ≤ x) = false := decide_eq_false (by omega)
            have e1 : decide (48 ≤ x) = true := decide_eq_true (by omega)
            have e2 : decide (x ≤ 57) = false := decide_eq_false (by omega)
            have e3 : (x == 46) = false := beq_eq_false_iff_ne.2 (by omega)
            have e4 : (x == 45) = false := beq_eq_false_iff_ne.2 (by omega)
            have e5 : (x == 95) = true := beq_iff_eq.2 (by omega)
            have hok : okB s.data[i] = true := (okB_iff _).2 (by rw [← hx]; omega)
            have HN := Lib.hid (all_take (HG.out i hlt) HA.out hok)
            clear hok
            go_wp2
            go_roundw
            case rel => exact ⟨i + 1, hlt, by go_num, HN.out, trivial⟩
            case measure => simp [intOf]; omega
          · have e0 : decide (97 ≤ x) = false := decide_eq_false (by omega)
            have e1 : decide (48 ≤ x) = true := decide_eq_true (by omega)
            have e2 : decide (x ≤ 57) = false := decide_eq_false (by omega)
            have e3 : (x == 46) = false := beq_eq_false_iff_ne.2 (by omega)
            have e4 : (x == 45) = false := beq_eq_false_iff_ne.2 (by omega)
            have e5 : (x == 95) = false := beq_eq_false_iff_ne.2 (by omega)
            have hno : ¬ okB s.data[i] = true := fun h => by have := (okB_iff _).1 h; rw [← hx] at this; omega
            have hnb := all_fail (HG.out i hlt) hno
            have HNB := Lib.hid hnb
            clear hno hnb
            go_wp2
            go_ret
            exact ⟨by rw [HR.out, HNB.out]; rfl, HB.out⟩
          · have e0 : decide (97 ≤ x) = false := decide_eq_false (by omega)
            have e1 : decide (48 ≤ x) = false := decide_eq_false (by omega)
            have e2 : (x == 46) = true := beq_iff_eq.2 (by omega)
            have hok : okB s.data[i] = true := (okB_iff _).2 (by rw [← hx]; omega)
            have HN := Lib.hid (all_take (HG.out i hlt) HA.out hok)
            clear hok
            go_wp2
            go_roundw
            case rel => exact ⟨i + 1, hlt, by go_num, HN.out, trivial⟩
            case measure => simp [intOf]; omega
          · have e0 : decide (97 ≤ x) = false := decide_eq_false (by omega)
            have e1 : decide (48 ≤ x) = false := decide_eq_false (by omega)
            have e2 : (x == 46) = false := beq_eq_false_iff_ne.2 (by omega)
            have e3 : (x == 45) = true := beq_iff_eq.2 (by omega)
            have hok : okB s.data[i] = true := (okB_iff _).2 (by rw [← hx]; omega)
            have HN := Lib.hid (all_take (HG.out i hlt) HA.out hok)
            clear hok
            go_wp2
            go_roundw
            case rel => exact ⟨i + 1, hlt, by go_num, HN.out, trivial⟩
            case measure => simp [intOf]; omega
          · have e0 : decide (97 ≤ x) = false := decide_eq_false (by omega)
            have e1 : decide (48 ≤ x) = false := decide_eq_false (by omega)
            have e2 : (x == 46) = false := beq_eq_false_iff_ne.2 (by omega)
            have e3 : (x == 45) = false := beq_eq_false_iff_ne.2 (by omega)
            have e4 : (x == 95) = false := beq_eq_false_iff_ne.2 (by omega)
            have hno : ¬ okB s.data[i] = true := fun h => by have := (okB_iff _).1 h; rw [← hx] at this; omega
            have hnb := all_fail (HG.out i hlt) hno
            have HNB := Lib.hid hnb
            clear hno hnb
            go_wp2
            go_ret
            exact ⟨by rw [HR.out, HNB.out]; rfl, HB.out⟩
        · obtain rfl : i = s.size := by omega
          have dl : decide (s.size < s.size) = false := decide_eq_false (Nat.lt_irrefl _)
          have hnb : nameB l = true := by
            have h1 : l.take s.size = l := List.take_of_length_le (by rw [HLS.out]; exact Nat.le_refl _)
            rw [h1] at hall
            have h2 := HLS.out
            simp [nameB, hall]
            omega
          have HNB := Lib.hid hnb
          clear hnb hall hlt hi
          go_wp2
          go_ret
          exact ⟨by rw [HR.out, HNB.out]; rfl, HB.out⟩
end Go.Proofs.YtgiiiolnagddnaaDoorMar
end
section
namespace Go.Proofs.YtgiiiolnagddnaaDoorMar
open Go.RowKit Go.Maps
set_option linter.unusedSimpArgs false
set_option linter.unusedVariables false
theorem keyOf_str_inv {P : Program} {tS : TypeId} (hS : P.underlying tS = some .string) {key : Value} {kl : Lit} (h : keyOf P tS key = some kl) : ∃ s : ByteArray, key = .string s ∧ kl = .string s.data.toList ∧ s.size ≤ maxLen := by
  cases key <;> simp [keyOf, hS, mapKey] at h
  exact ⟨_, rfl, h.2.symm, h.1⟩
theorem keyOf_str_eq {P : Program} {tS : TypeId} (hS : P.underlying tS = some .string) {s : ByteArray} {kl : Lit} (h : keyOf P tS (.string s) = some kl) : kl = .string s.data.toList ∧ s.size ≤ maxLen := by
  obtain ⟨s', h1, h2, h3⟩ := keyOf_str_inv hS h
  cases h1
  exact ⟨h2, h3⟩
theorem sameStr (x y : List UInt8) : (Lit.string x).sameKey (.string y) = decide (x = y) := by
  simp [Lit.sameKey]
  by_cases h : x = y <;> simp [h]
theorem nodup_len {β : Type} : ∀ (l k : List β), l.Nodup → (∀ x ∈ l, x ∈ k) → l.length ≤ k.length := by
  classical
  intro l
  induction l with
  | nil => intro k _ _; exact Nat.zero_le _
  | cons a l ih =>
    intro k hn hs
    have ha := hs a (List.mem_cons_self ..)
    have hn' := List.nodup_cons.1 hn
    have h1 := ih (k.erase a) hn'.2 (fun x hx => (List.mem_erase_of_ne (fun e => hn'.1 (by rw [← e]; exact hx))).2 (hs x (List.mem_cons_of_mem _ hx)))
    have h2 := List.length_erase_of_mem ha
    have h3 : 0 < k.length := List.length_pos_of_mem ha
    simp
    omega
abbrev Nm := ByteArray × (Int × Int)
abbrev nmOf (q : Nm) : List UInt8 := q.1.data.toList
structure Trail (D : DataW Unit) (left : Lit → Bool) (L : List Nm) : Prop where
  nodup : (L.map nmOf).Nodup
  at_ : ∀ q ∈ L, q.1.size ≤ maxLen ∧ ∀ z, D.atKey (.string (nmOf q)) z = EM.dat q.2
  left_ : ∀ z, left z = (Maps.has D z && !(L.any fun q => (Lit.string (nmOf q)).sameKey z))
theorem Trail.start (D : DataW Unit) : Trail D (Maps.has D) [] := ⟨by simp, (by intro q hq; cases hq), (by intro z; simp)⟩
theorem Trail.step {D : DataW Unit} {left : Lit → Bool} {L : List Nm} (h : Trail D left L) {s : ByteArray} (hs : s.size ≤ maxLen) (hl : left (.string s.data.toList) = true) {c : Int × Int} (hc : ∀ z, D.atKey (.string s.data.toList) z = EM.dat c) :
    Trail D (fun z => left z && !z.sameKey (.string s.data.toList)) (L ++ [(s, c)]) := by
  refine ⟨?_, ?_, ?_⟩
  · rw [List.map_append, List.nodup_append]
    refine ⟨h.nodup, by simp, ?_⟩
    intro a ha b hb e
    simp at hb
    subst hb
    subst e
    obtain ⟨q, hq, he⟩ := List.mem_map.1 ha
    rw [h.left_] at hl
    simp only [Bool.and_eq_true, Bool.not_eq_true'] at hl
    have := List.any_eq_false.1 hl.2 q hq
    rw [sameStr] at this
    exact this (decide_eq_true he)
  · intro q hq
    rcases List.mem_append.1 hq with h1 | h1
    · exact h.at_ q h1
    · simp at h1
      subst h1
      exact ⟨hs, hc⟩
  · intro z
    rw [h.left_, List.any_append]
    have hsym : z.sameKey (.string s.data.toList) = (Lit.string s.data.toList).sameKey z := by
      cases z <;> simp [Lit.sameKey]
      exact Bool.beq_comm
    simp [hsym, Bool.and_assoc, nmOf]
theorem Trail.all {W : World} {b N n : Nat} {D : DataW Unit} {left : Lit → Bool} {L : List Nm} (h : Trail D left L) (hl : ∀ z, left z = false) (hown : W.ownsMap Tryd.prog 9 EM.R b n D) (K : Keyed Tryd.prog 9) (hsz : Maps.size D = N) : L.length = N := by
  obtain ⟨es, rfl, hne, hkey⟩ := hown.entries K
  have hN : es.length = N := hsz
  have h1 : (es.map (·.1)).length ≤ (L.map fun q => Lit.string (nmOf q)).length := by
    refine nodup_len _ _ (List.pairwise_map.2 hne) ?_
    intro x hx
    obtain ⟨p, hp, rfl⟩ := List.mem_map.1 hx
    have hhas : Maps.has (.map es : DataW Unit) p.1 = true := List.any_eq_true.2 ⟨p, hp, WideAt.sameKey_self (hkey p hp)⟩
    have := hl p.1
    rw [h.left_, hhas] at this
    simp only [Bool.true_and, Bool.not_eq_false'] at this
    obtain ⟨q, hq, he⟩ := List.any_eq_true.1 this
    exact List.mem_map.2 ⟨q, hq, WideAt.sameKey_eq he⟩
  have h2 : (L.map fun q => Lit.string (nmOf q)).length ≤ (es.map (·.1)).length := by
    refine nodup_len _ _ ?_ ?_
    · have := h.nodup
      refine List.pairwise_map.2 ((List.pairwise_map.1 this).imp ?_)
      intro a b hab e
      exact hab (Lit.string.inj e)
    · intro x hx
      obtain ⟨q, hq, rfl⟩ := List.mem_map.1 hx
      have := has_true_of_atKey (h.at_ q hq).2
      obtain ⟨p, hp, he⟩ := List.any_eq_true.1 this
      exact List.mem_map.2 ⟨p, hp, WideAt.sameKey_eq he⟩
  simp at h1 h2
  omega
end Go.Proofs.YtgiiiolnagddnaaDoorMar
end
section
namespace Go.Proofs.YtgiiiolnagddnaaDoorMar
open Go.Maps
set_option linter.unusedSimpArgs false
set_option linter.unusedVariables false
theorem dat_inj {a b : Int × Int} (h : EM.dat a = EM.dat b) : a = b := by
  simp [EM] at h
  exact Prod.ext h.1 h.2
theorem nm_ext {p q : Nm} (h : nmOf p = nmOf q) (h2 : p.2 = q.2) : p = q := by
  obtain ⟨⟨⟨a⟩⟩, x⟩ := p
  obtain ⟨⟨⟨b⟩⟩, y⟩ := q
  simp only [nmOf] at h
  subst h
  subst h2
  rfl
def Says (D : DataW Unit) (m : List UInt8 → Option (Int × Int)) : Prop := ∀ x : List UInt8, x.length ≤ maxLen → match m x with
    | some a => ∀ z, D.atKey (.string x) z = EM.dat a
    | none => ∀ z, D.atKey (.string x) z = z
theorem SMap.says {W : World} {b N : Nat} {m : List UInt8 → Option (Int × Int)} (h : SMap Tryd.prog 9 EM W b m N) : ∃ D : DataW Unit, W.ownsMap Tryd.prog 9 EM.R b N D ∧ Maps.size D = N ∧ Says D m := by
  obtain ⟨D, h1, h2, h3⟩ := h
  refine ⟨D, h1, h2, fun x hx => ?_⟩
  have := h3 x hx
  cases hm : m x with
  | none => rw [hm] at this; exact this
  | some a => rw [hm] at this; exact this
theorem Trail.mem {m : List UInt8 → Option (Int × Int)} {D : DataW Unit} {L : List Nm} (hS : Says D m) (h : Trail D (fun _ => false) L) (q : Nm) : q ∈ L ↔ (q.1.size ≤ maxLen ∧ m (nmOf q) = some q.2) := by
  have key : ∀ p : Nm, p ∈ L → (p.1.size ≤ maxLen ∧ m (nmOf p) = some p.2) := by
    intro p hp
    obtain ⟨h1, h2⟩ := h.at_ p hp
    refine ⟨h1, ?_⟩
    have h3 := hS (nmOf p) (by simpa [nmOf] using h1)
    cases hm : m (nmOf p) with
    | none =>
      rw [hm] at h3
      have e1 := has_true_of_atKey h2
      have e2 := has_false_of_atKey h3
      rw [e1] at e2
      cases e2
    | some a =>
      rw [hm] at h3
      have := (h3 (EM.dat a)).symm.trans (h2 (EM.dat a))
      rw [dat_inj this]
  refine ⟨key q, fun ⟨h1, h2⟩ => ?_⟩
  have h3 := hS (nmOf q) (by simpa [nmOf] using h1)
  rw [h2] at h3
  have hh := has_true_of_atKey h3
  have hl := h.left_ (.string (nmOf q))
  rw [hh] at hl
  simp only [Bool.true_and] at hl
  have hl' : (L.any fun p => (Lit.string (nmOf p)).sameKey (.string (nmOf q))) = true := by
    cases hx : (L.any fun p => (Lit.string (nmOf p)).sameKey (.string (nmOf q))) with
    | true => rfl
    | false => rw [hx] at hl; cases hl
  obtain ⟨p, hp, he⟩ := List.any_eq_true.1 hl'
  rw [sameStr] at he
  have he := of_decide_eq_true he
  have := (key p hp).2
  rw [he, h2] at this
  have := nm_ext he (Option.some.inj this).symm
  rwa [← this]
end Go.Proofs.YtgiiiolnagddnaaDoorMar
end
section
namespace Go.Proofs.YtgiiiolnagddnaaDoorMar
open Go.RowKit
set_option linter.unusedSimpArgs false
set_option linter.unusedVariables false
def IterAt (W : World) (B : Nat) (l : List Int) (k : Nat) : Prop := W.heap[B]? = some (.stringIter (txt l) (utf (l.take k)).length)
def NextAt (W W1 : World) (B : Nat) (l : List Int) (k : Nat) (p : Nat) (r : Int) : Prop :=
  (∃ h : k < l.length, r = l[k]) ∧ p = (utf (l.take k)).length ∧ IterAt W1 B l (k + 1) ∧ (∀ j, j ≠ B → W1.heap[j]? = W.heap[j]?) ∧ W1.heap.size = W.heap.size ∧ (∀ {n : Nat} {a : World}, Below n a W → n ≤ B → Below n a W1)
theorem take_snoc' {l : List Int} {k : Nat} (h : k < l.length) : l.take (k + 1) = l.take k ++ [l[k]] := by
  rw [List.take_succ_eq_append_getElem h]
theorem split_at {l : List Int} {k : Nat} (h : k < l.length) : l = l.take k ++ l[k] :: l.drop (k + 1) := by
  rw [← List.drop_eq_getElem_cons h, List.take_append_drop]
theorem next_txt {P : Program} {W : World} {B : Nat} {l : List Int} {k : Nat} (hl : ∀ r ∈ l, Rn r) (hk : IterAt W B l k) (hlt : k < l.length) :
    ∃ W1 p r, (∀ ty, (Instr.next (.pointer (some ⟨B, 0, none⟩)) true ty).run P W = .ok (.tuple #[.bool true, .int .i64 (p : Nat), .int .i32 r]) W1) ∧ NextAt W W1 B l k p r := by
  have hr : Rn l[k] := hl _ (List.getElem_mem hlt)
  have hp : (utf (l.take k)).length < (txt l).size := by
    have := txt_lt (a := l.take k) (r := l[k]) (b := l.drop (k + 1))
    rwa [← split_at hlt] at this
  have hd : Utf8.decode (txt l) (utf (l.take k)).length = ((l[k]).toNat, wid l[k]) := by
    have := decode_txt (a := l.take k) (r := l[k]) (b := l.drop (k + 1)) hr
    rwa [← split_at hlt] at this
  have hs : (utf (l.take k)).length + wid l[k] = (utf (l.take (k + 1))).length := by rw [take_snoc' hlt, utf_snoc]
  refine ⟨W.iterAt B (txt l) ((utf (l.take k)).length + wid l[k]), _, l[k], fun ty => ?_, ⟨hlt, rfl⟩, rfl, ?_, fun j hj => Lib.iterAt_other _ _ _ _ _ hj, Lib.iterAt_size _ _ _ _, fun hb hn => Lib.below_iterAt hb hn _ _⟩
  · rw [Lib.run_next_any_at W B (txt l) _ ty hk hp, hd]
    have : (((l[k]).toNat : Nat) : Int) = l[k] := Int.toNat_of_nonneg hr.1
    rw [this]
  · unfold IterAt
    rw [← hs]
    exact Lib.iterAt_heap W B (txt l) _ _ hk
theorem next_txt_end {P : Program} {W : World} {B : Nat} {l : List Int} {k : Nat} (hk : IterAt W B l k) (hge : l.length ≤ k) (ty : TypeId) :
    (Instr.next (.pointer (some ⟨B, 0, none⟩)) true ty).run P W = .ok (.tuple #[.bool false]) W := by
  refine Lib.run_next_end_at W B (txt l) _ ty hk ?_
  rw [List.take_of_length_le hge]
  exact txt_end l
theorem iter_start (w : World) (l : List Int) : IterAt (w.iter (txt l) 0) w.heap.size l 0 := by
  unfold IterAt
  simpa [utf] using World.iter_heap w (txt l) 0
def leftOf (W : World) (B : Nat) (l : List Int) : Nat := (txt l).size - W.iterPos B
theorem left_at {W : World} {B : Nat} {l : List Int} {k : Nat} (h : IterAt W B l k) : leftOf W B l = (utf l).length - (utf (l.take k)).length := by
  unfold leftOf World.iterPos
  rw [h, txt_size]
theorem left_less {W W1 : World} {B : Nat} {l : List Int} {k : Nat} (h : IterAt W B l k) (h1 : IterAt W1 B l (k + 1)) (hlt : k < l.length) : leftOf W1 B l < leftOf W B l := by
  rw [left_at h, left_at h1, take_snoc' hlt, utf_snoc]
  have := wid_pos l[k]
  have h3 : (utf (l.take k)).length < (txt l).size := by
    have := txt_lt (a := l.take k) (r := l[k]) (b := l.drop (k + 1))
    rwa [← split_at hlt] at this
  rw [txt_size] at h3
  omega
theorem IterAt.below {W W1 : World} {B : Nat} {l : List Int} {k : Nat} (h : IterAt W B l k) (hb : Below W.heap.size W W1) : IterAt W1 B l k := (hb.block B (new_lt' h)).trans h
  where new_lt' {W : World} {g : Nat} {o : Obj} (h : W.heap[g]? = some o) : g < W.heap.size := (Array.getElem?_eq_some_iff.1 h).1
end Go.Proofs.YtgiiiolnagddnaaDoorMar
end
section
namespace Go.Proofs.YtgiiiolnagddnaaDoorMar
open Go.RowKit
set_option linter.unusedSimpArgs false
set_option linter.unusedVariables false
abbrev barCells : Array Value := #[.int .i32 0, .int .i32 8, .int .i32 11, .int .i32 31, .int .i32 127, .int .i32 159, .int .i32 64976, .int .i32 65007, .int .i32 65279, .int .i32 65279]
def BarsAt (W : World) : Prop := ∃ t fr, W.heap[0]? = some (.cells barCells t fr)
theorem BarsAt.below {W W1 : World} (h : BarsAt W) (hb : Below W.heap.size W W1) : BarsAt W1 := by
  obtain ⟨t, fr, h⟩ := h
  exact ⟨t, fr, (hb.block 0 (Array.getElem?_eq_some_iff.1 h).1).trans h⟩
theorem BarsAt.lt {W : World} (h : BarsAt W) : 0 < W.heap.size := by
  obtain ⟨t, fr, h⟩ := h
  exact (Array.getElem?_eq_some_iff.1 h).1
structure Let (r : Int) : Prop where
  h0 : 0 ≤ r ∧ r ≤ 1114111
  hs : ¬ (55296 ≤ r ∧ r ≤ 57343)
  b0 : r < 0 ∨ (0 ≤ r ∧ 8 < r)
  b1 : r < 11 ∨ (11 ≤ r ∧ 31 < r)
  b2 : r < 127 ∨ (127 ≤ r ∧ 159 < r)
  b3 : r < 64976 ∨ (64976 ≤ r ∧ 65007 < r)
  b4 : r < 65279 ∨ (65279 ≤ r ∧ 65279 < r)
  he : r % 65536 < 65534
theorem Let.rn {r : Int} (h : Let r) : Rn r := ⟨h.h0.1, h.h0.2, h.hs⟩
theorem bar0 (W : World) : (Instr.index 68 (.agg barCells) (.int .i64 0)).run Tryd.prog W = .ok (.agg #[.int .i32 0, .int .i32 8]) W := by kernel_rfl
theorem bar1 (W : World) : (Instr.index 68 (.agg barCells) (.int .i64 1)).run Tryd.prog W = .ok (.agg #[.int .i32 11, .int .i32 31]) W := by kernel_rfl
theorem bar2 (W : World) : (Instr.index 68 (.agg barCells) (.int .i64 2)).run Tryd.prog W = .ok (.agg #[.int .i32 127, .int .i32 159]) W := by kernel_rfl
theorem bar3 (W : World) : (Instr.index 68 (.agg barCells) (.int .i64 3)).run Tryd.prog W = .ok (.agg #[.int .i32 64976, .int .i32 65007]) W := by kernel_rfl
theorem bar4 (W : World) : (Instr.index 68 (.agg barCells) (.int .i64 4)).run Tryd.prog W = .ok (.agg #[.int .i32 65279, .int .i32 65279]) W := by kernel_rfl
theorem low16 (n : Int) : bits .and .i32 n 65535 = n % 65536 := by
  have h127 : (BitVec.ofInt 32 65535).toNat = 2 ^ 16 - 1 := by decide
  have key : (BitVec.ofInt 32 n &&& BitVec.ofInt 32 65535).toNat = (n % ((2 ^ 32 : Nat) : Int)).toNat % 2 ^ 16 := by
    rw [BitVec.toNat_and, BitVec.toNat_ofInt, h127, Nat.and_two_pow_sub_one_eq_mod]
  show IntKind.i32.wrap ((BitVec.ofInt 32 n &&& BitVec.ofInt 32 65535).toNat : Nat) = n % 65536
  rw [key, wrap_i32_small _ (by omega) (by omega)]
  omega
theorem ret_bool {a b : Bool} (h : a = b) : Ending.returned (.bool a) = .returned (.bool b) := by rw [h]
set_option maxRecDepth 100000 in
set_option maxHeartbeats 4000000 in
theorem letIn_yes {r : Int} (h : Let r) {w : World} (hw : BarsAt w) : Calls Tryd.prog 21 #[.int .i32 r] w fun e w' => e = .returned (.bool true) ∧ Below w.heap.size w w' := by
  have hlt := hw.lt
  obtain ⟨tt, fr, hg⟩ := hw
  obtain ⟨⟨h01, h02⟩, _, hb0, hb1, hb2, hb3, hb4, he⟩ := h
  have i0 := bar0
  have i1 := bar1
  have i2 := bar2
  have i3 := bar3
  have i4 := bar4
  have HE := Lib.hid he
  clear he
  go_enter Tryd.func21, Tryd.ntmps21
  go_wp2_with (refine wpList_load_row rfl 68 _ rfl 0 rfl tt _ fr _ hg Tryd.underlying68 rfl (by kernel_rfl) ?_)
  clear hg
  go_loopw [6] (fun i wr => ∃ k : Int, i = .int .i64 k ∧ (k = 0 ∨ k = 1 ∨ k = 2 ∨ k = 3 ∨ k = 4 ∨ k = 5) ∧ Below w.heap.size w wr) (fun i _ => 5 - (intOf i).toNat)
  case atStart => exact ⟨0, rfl, .inl rfl, Below.refl _ _⟩
  case round =>
    obtain ⟨k, rfl, hk, hB⟩ := hrel
    rcases hk with rfl | rfl | rfl | rfl | rfl | rfl
    · rcases hb0 with hA | ⟨hA, hC⟩
      · exact absurd hA (by omega)
      · have d1 : decide ((0 : Int) ≤ r) = true := decide_eq_true (by omega)
        have d2 : decide (r ≤ 8) = false := decide_eq_false (by omega)
        go_wp2
        go_roundw
        case rel => exact ⟨1, rfl, by simp, hB.alloc hB.size _⟩
        case measure => simp [intOf]
    · rcases hb1 with hA | ⟨hA, hC⟩
      · have d1 : decide ((11 : Int) ≤ r) = false := decide_eq_false (by omega)
        go_wp2
        go_roundw
        case rel => exact ⟨2, rfl, by simp, hB.alloc hB.size _⟩
        case measure => simp [intOf]
      · have d1 : decide ((11 : Int) ≤ r) = true := decide_eq_true (by omega)
        have d2 : decide (r ≤ 31) = false := decide_eq_false (by omega)
        go_wp2
        go_roundw
        case rel => exact ⟨2, rfl, by simp, hB.alloc hB.size _⟩
        case measure => simp [intOf]
    · rcases hb2 with hA | ⟨hA, hC⟩
      · have d1 : decide ((127 : Int) ≤ r) = false := decide_eq_false (by omega)
        go_wp2
        go_roundw
        case rel => exact ⟨3, rfl, by simp, hB.alloc hB.size _⟩
        case measure => simp [intOf]
      · have d1 : decide ((127 : Int) ≤ r) = true := decide_eq_true (by omega)
        have d2 : decide (r ≤ 159) = false := decide_eq_false (by omega)
        go_wp2
        go_roundw
        case rel => exact ⟨3, rfl, by simp, hB.alloc hB.size _⟩
        case measure => simp [intOf]
    · rcases hb3 with hA | ⟨hA, hC⟩
      · have d1 : decide ((64976 : Int) ≤ r) = false := decide_eq_false (by omega)
        go_wp2
        go_roundw
        case rel => exact ⟨4, rfl, by simp, hB.alloc hB.size _⟩
        case measure => simp [intOf]
      · have d1 : decide ((64976 : Int) ≤ r) = true := decide_eq_true (by omega)
        have d2 : decide (r ≤ 65007) = false := decide_eq_false (by omega)
        go_wp2
        go_roundw
        case rel => exact ⟨4, rfl, by simp, hB.alloc hB.size _⟩
        case measure => simp [intOf]
    · rcases hb4 with hA | ⟨hA, hC⟩
      · have d1 : decide ((65279 : Int) ≤ r) = false := decide_eq_false (by omega)
        go_wp2
        go_roundw
        case rel => exact ⟨5, rfl, by simp, hB.alloc hB.size _⟩
        case measure => simp [intOf]
      · have d1 : decide ((65279 : Int) ≤ r) = true := decide_eq_true (by omega)
        have d2 : decide (r ≤ 65279) = false := decide_eq_false (by omega)
        go_wp2
        go_roundw
        case rel => exact ⟨5, rfl, by simp, hB.alloc hB.size _⟩
        case measure => simp [intOf]
    · go_wp2
      go_ret
      refine ⟨ret_bool ?_, hB⟩
      rw [low16]
      exact decide_eq_true HE.out
def Lets (l : List Int) : Prop := ∀ r ∈ l, Let r
theorem Lets.rns {l : List Int} (h : Lets l) : ∀ r ∈ l, Rn r := fun r hr => (h r hr).rn
theorem begins_other (s : ByteArray) (i r : Int) (hr : r ≠ 65533) (w : World) : Calls Tryd.prog 20 #[.string s, .int .i64 i, .int .i32 r] w fun e w' => e = .returned (.bool true) ∧ w' = w := by
  have d1 : (r == 65533) = false := beq_eq_false_iff_ne.2 hr
  have d2 : (r != 65533) = true := by simp [hr]
  clear hr
  go_enter Tryd.func20, Tryd.ntmps20
  go_wp2
  go_ret
  exact ⟨rfl, rfl⟩
set_option maxRecDepth 100000 in
set_option maxHeartbeats 4000000 in
theorem check_yes {l : List Int} (hl : Lets l) (hx0 : ∀ r ∈ l, r ≠ 65533) (hn : l.length ≤ 1073741824) {w : World} (hw : BarsAt w) : Calls Tryd.prog 18 #[.string (txt l)] w fun e w' => e = .returned (.tuple #[.int .i64 (l.length : Int), .int .i64 0, .int .i64 0]) ∧ Below w.heap.size w w' := by
  have hk0 := iter_start w l
  have hb0 : Below w.heap.size w (w.iter (txt l) 0) := (Below.refl _ w).alloc (Nat.le_refl _) _
  go_enter Tryd.func18, Tryd.ntmps18
  go_wp2
  go_loopw [5] (fun v wr => ∃ k : Nat, k ≤ l.length ∧ v = .int .i64 (k : Int) ∧ IterAt wr w.heap.size l k ∧ Below w.heap.size w wr)
    (fun _ wr => leftOf wr w.heap.size l)
  case atStart => exact ⟨0, Nat.zero_le _, rfl, hk0, hb0⟩
  case round =>
    obtain ⟨k, hkl, rfl, hk, hB⟩ := hrel
    clear hk0 hb0
    by_cases hlt : k < l.length
    · obtain ⟨W1, p, r, hnext, ⟨hx, hr⟩, hp, hi1, ho1, hs1, hbl1⟩ := next_txt (P := Tryd.prog) hl.rns hk hlt
      have hbe : r ≠ 65533 := hr ▸ hx0 _ (List.getElem_mem hlt)
      have hle : Let r := hr ▸ hl _ (List.getElem_mem hlt)
      have hB1 := hbl1 hB (Nat.le_refl _)
      have hw1 : BarsAt W1 := hw.below hB1
      have HK := Lib.hid hk
      have HBe := Lib.hid hbe
      have hz1 : w.heap.size < W1.heap.size := IterAt.below.new_lt' hi1
      have HI := Lib.hid hi1
      clear hk hp ho1 hB hi1 hr hs1 hbl1 hbe hw
      go_wp2_with (first
        | (go_at_call 20; refine (begins_other _ _ _ HBe.out _).mono ?_; rintro e w2 ⟨rfl, rfl⟩)
        | (go_at_call 21; refine (letIn_yes hle hw1).mono ?_; rintro e w3 ⟨rfl, hB3⟩))
      have hI3 : IterAt w3 w.heap.size l (k + 1) := HI.out.below hB3
      have hB4 := hB1.trans (Below.mono hB3 (Nat.le_of_lt hz1))
      have hm := left_less HK.out hI3 hlt
      clear hB1 hz1 hB3
      go_wp2
      go_roundw
      case rel => exact ⟨k + 1, hlt, by go_num, hI3, hB4⟩
      case measure => exact hm
    · have hnext := fun ty => next_txt_end (P := Tryd.prog) hk (by omega) ty
      have he : (k : Int) = (l.length : Int) := by omega
      have HE := Lib.hid he
      clear he
      go_wp2
      go_ret3
      exact ⟨congrArg (fun x : Int => Ending.returned (.tuple #[.int .i64 x, .int .i64 0, .int .i64 0])) HE.out, hB⟩
end Go.Proofs.YtgiiiolnagddnaaDoorMar
end
section
namespace Go.Proofs.YtgiiiolnagddnaaDoorLaid
open Go.ChangeShapes Go.WideShapes Go.ChangeAt Go.RowKit Go.Proofs.YtgiiiolnagddnaaDoor
theorem own : ownKnob Tryd.prog.godebug = none := by kernel_rfl
theorem gBars : Tryd.prog.globalNamed "redraft/utext.bars" = some 0 := by kernel_rfl
theorem tBars : (Tryd.prog.globals[0]?).map (·.type) = some 68 := by kernel_rfl
abbrev laidL : List (String × DataW Unit) := [("redraft/utext.bars", Rows.laid_redraft_utext_bars)]
theorem door_met (os : Os) (args : Array Value) : laidMetH Tryd.prog laidL ((World.doorLaid Tryd.prog 19 os).forCall (fun _ _ => 0) ⟨#[], args, []⟩).memory :=
  laidMetH_of_parts3 (fuel := 8) (laidMet_of_run' 8 (by kernel_rfl) (by kernel_rfl)) (by kernel_rfl) (by kernel_rfl)
theorem c68 : Tryd.prog.cellsOf 68 = 10 := by kernel_rfl
theorem c67 : Tryd.prog.cellsOf 67 = 2 := by kernel_rfl
theorem c21 : Tryd.prog.cellsOf 21 = 1 := by kernel_rfl
theorem bar_of {H : Type} {enc : TypeId × Value → H} {W : World} {sp : Nat → Bool} {held : Bool} {m : Nat} {a b : Value} {x : DataW H × List MemPlace} {lo hi : Int} (h : DataW.trod enc Tryd.prog W 0 sp held m 67 [a, b] = some x) (e : x.1 = .agg [.lit (.int .i32 lo), .lit (.int .i32 hi)]) : a = .int .i32 lo ∧ b = .int .i32 hi := by
  obtain ⟨y0, y1, n, rfl, _, h0, h1⟩ := trod_struct2 Tryd.underlying67 h
  simp only [c21] at h0 h1
  obtain ⟨k0, e0, e2, _⟩ := DataW.trod_int Tryd.underlying21 h0
  obtain ⟨k1, e1, e3, _⟩ := DataW.trod_int Tryd.underlying21 h1
  simp at e0 e1
  simp only [e2, e3, DataW.agg.injEq, List.cons.injEq, DataW.lit.injEq, Lit.int.injEq, true_and, and_true] at e
  obtain ⟨rfl, rfl⟩ := e
  exact ⟨e0, e1⟩
set_option maxRecDepth 100000 in
theorem bars_of_laid {W : World} (h : laidMetH Tryd.prog laidL W) : Go.Proofs.YtgiiiolnagddnaaDoorMar.BarsAt W := by
  rw [MakeChecks.laidMetH_plain _ _ _ (by kernel_rfl)] at h
  obtain ⟨ps, ⟨g0, t0, cs0, f0, p0, q0, hg0, ht0, hv0, hd0, _, _⟩, _, _⟩ := h
  obtain rfl := Option.some.inj (gBars.symm.trans hg0)
  obtain rfl := Option.some.inj (tBars.symm.trans ht0)
  have hblk : ∃ t fr, W.heap[0]? = some (.cells cs0 t fr) := by
    unfold World.var? at hv0
    rw [gBars] at hv0
    simp only [Option.bind_some] at hv0
    split at hv0
    · rename_i cs t fr hh
      injection hv0 with hv0
      subst hv0
      exact ⟨_, _, hh⟩
    · cases hv0
  obtain ⟨t, fr, hh⟩ := hblk
  refine ⟨t, fr, ?_⟩
  rw [hh]
  obtain ⟨xs, m1, rfl, hx1, hlen, hn3, hel⟩ := DataW.trod_array Tryd.underlying68 hd0
  rw [c68] at hlen
  simp only [c67] at hel
  obtain ⟨l⟩ := cs0
  simp only at hlen hel
  obtain ⟨a0, b0, a1, b1, a2, b2, a3, b3, a4, b4, rfl⟩ : ∃ a0 b0 a1 b1 a2 b2 a3 b3 a4 b4, l = [a0, b0, a1, b1, a2, b2, a3, b3, a4, b4] := by
    match l, hlen with
    | [a0, b0, a1, b1, a2, b2, a3, b3, a4, b4], _ => exact ⟨a0, b0, a1, b1, a2, b2, a3, b3, a4, b4, rfl⟩
  obtain ⟨y0, y1, y2, y3, y4, rfl⟩ : ∃ y0 y1 y2 y3 y4, xs = [y0, y1, y2, y3, y4] := by
    match xs, hn3 with
    | [y0, y1, y2, y3, y4], _ => exact ⟨y0, y1, y2, y3, y4, rfl⟩
  simp only [Prod.mk.injEq, Rows.laid_redraft_utext_bars, DataW.agg.injEq, List.map_cons, List.map_nil, List.cons.injEq, and_true] at hx1
  obtain ⟨⟨z0, z1, z2, z3, z4⟩, _⟩ := hx1
  obtain ⟨rfl, rfl⟩ := bar_of (hel 0 (by decide)) z0.symm
  obtain ⟨rfl, rfl⟩ := bar_of (hel 1 (by decide)) z1.symm
  obtain ⟨rfl, rfl⟩ := bar_of (hel 2 (by decide)) z2.symm
  obtain ⟨rfl, rfl⟩ := bar_of (hel 3 (by decide)) z3.symm
  obtain ⟨rfl, rfl⟩ := bar_of (hel 4 (by decide)) z4.symm
  rfl
end Go.Proofs.YtgiiiolnagddnaaDoorLaid
end
section
namespace Go.Proofs.YtgiiiolnagddnaaDoorMar
open Go.RowKit Go.Maps
set_option linter.unusedSimpArgs false
set_option linter.unusedVariables false
theorem look_some {W : World} {p b N : Nat} {tot : Int} {m : List UInt8 → Option (Int × Int)} (h : BookAt W p b tot m N) {s : ByteArray} (hs : s.size ≤ maxLen) {a : Int × Int} (hm : m s.data.toList = some a) :
    (Instr.lookup 45 (.map (some b)) (.string s) true).run Tryd.prog W = .ok (.tuple #[.agg #[.int .i64 a.1, .int .i64 a.2], .bool true]) W := by
  have := h.2.look Tryd.underlying9 Tryd.underlying45 (z := ((0 : Int), (0 : Int))) (Tryd.zeroValue50 W) hs
  rw [hm] at this
  exact this
theorem look_none {W : World} {p b N : Nat} {tot : Int} {m : List UInt8 → Option (Int × Int)} (h : BookAt W p b tot m N) {s : ByteArray} (hs : s.size ≤ maxLen) (hm : m s.data.toList = none) :
    (Instr.lookup 45 (.map (some b)) (.string s) true).run Tryd.prog W = .ok (.tuple #[.agg #[.int .i64 0, .int .i64 0], .bool false]) W := by
  have := h.2.look Tryd.underlying9 Tryd.underlying45 (z := ((0 : Int), (0 : Int))) (Tryd.zeroValue50 W) hs
  rw [hm] at this
  exact this
theorem box_facts {w w' : World} {p b N : Nat} {tot : Int} {m : List UInt8 → Option (Int × Int)} (h : BookAt w p b tot m N) {s : ByteArray} {lo hi : Int} (h2 : Below (w.alloc (.cells #[.string s, .int .i64 lo, .int .i64 hi] 29)).heap.size (w.alloc (.cells #[.string s, .int .i64 lo, .int .i64 hi] 29)) w') :
    Below w.heap.size w w' ∧ BookAt w' p b tot m N ∧ w'.heap[w.heap.size]? = some (.cells #[.string s, .int .i64 lo, .int .i64 hi] 29 (0, 0)) := by
  have hB : Below w.heap.size w (w.alloc (.cells #[.string s, .int .i64 lo, .int .i64 hi] 29)) := (Below.refl _ w).alloc (Nat.le_refl _) _
  have hb2 := hB.trans (h2.mono (by simp))
  exact ⟨hb2, h.below hb2, (h2.block _ (by simp)).trans (World.alloc_heap_new w _)⟩
theorem cell_of {w : World} {g : Nat} {cs : Array Value} {t : TypeId} {f : Nat × Nat} (h : w.heap[g]? = some (.cells cs t f)) (i : Nat) : w.cell? ⟨g, i, none⟩ = cs[i]? := by
  simp [World.cell?, h]
def putE (tot : Int) (m : List UInt8 → Option (Int × Int)) (N : Nat) (l : List UInt8) (lo hi : Int) : Int :=
  if nameB l = false then 200 else if lo < 0 ∨ hi ≤ lo ∨ tot < hi then 12 else if (m l).isSome then 201 else if 256 ≤ N then 202 else 0
set_option maxRecDepth 100000 in
set_option maxHeartbeats 4000000 in
theorem Put_calls {p b N : Nat} {tot : Int} {m : List UInt8 → Option (Int × Int)} (w : World) (h : BookAt w p b tot m N) (s : ByteArray) (hs : s.size ≤ maxLen) (lo hi : Int) : Calls Tryd.prog 6 #[.pointer (some ⟨p, 0, none⟩), .agg #[.string s, .int .i64 lo, .int .i64 hi]] w fun e w' =>
    e = .returned (.int .i64 (putE tot m N s.data.toList lo hi)) ∧ BookAt w' p b tot (if putE tot m N s.data.toList lo hi = 0 then fun y => if y = s.data.toList then some (lo, hi) else m y else m) (if putE tot m N s.data.toList lo hi = 0 then N + 1 else N) ∧ Only (fun k => k = b) w w' := by
  have hB : Below w.heap.size w (w.alloc (.cells #[.string s, .int .i64 lo, .int .i64 hi] 29)) := (Below.refl _ w).alloc (Nat.le_refl _) _
  have hnew := World.alloc_heap_new w (.cells #[.string s, .int .i64 lo, .int .i64 hi] 29)
  have ht := title_calls s (w.alloc (.cells #[.string s, .int .i64 lo, .int .i64 hi] 29))
  have n200 : ¬ ((200 : Int) = 0) := by decide
  have n12 : ¬ ((12 : Int) = 0) := by decide
  have n201 : ¬ ((201 : Int) = 0) := by decide
  have n202 : ¬ ((202 : Int) = 0) := by decide
  cases hn : nameB s.data.toList with
  | false =>
    have hp : putE tot m N s.data.toList lo hi = 200 := by simp [putE, hn]
    rw [hn] at ht
    simp only [hp, if_neg n200]
    go_enter Tryd.func6, Tryd.ntmps6
    go_wp2_with (go_at_call 10; refine ht.mono ?_; rintro e w' ⟨rfl, h2⟩)
    go_ret
    have hb2 := hB.trans (h2.mono (by simp))
    exact ⟨rfl, h.below hb2, Only.of_below hb2⟩
  | true =>
    rw [hn] at ht
    by_cases c1 : lo < 0
    · have d1 : decide (lo < 0) = true := decide_eq_true c1
      have hp : putE tot m N s.data.toList lo hi = 12 := by simp [putE, hn, c1]
      simp only [hp, if_neg n12]
      go_enter Tryd.func6, Tryd.ntmps6
      go_wp2_with (go_at_call 10; refine ht.mono ?_; rintro e w' ⟨rfl, h2⟩; obtain ⟨hb2, h3, hbl⟩ := box_facts h h2; have z0 := cell_of hbl 0; have z1 := cell_of hbl 1; have z2 := cell_of hbl 2; have k0 := h3.c0)
      go_quiet (fail)
      rename_i nq
      have hq : Below w'.heap.size w' (w'.drewN nq) := ⟨rfl, rfl, rfl, Nat.le_refl _, fun k _ => rfl⟩
      go_wp2
      go_ret
      have hb4 := hb2.trans (hq.mono hb2.size)
      exact ⟨rfl, h.below hb4, Only.of_below hb4⟩
    have d1 : decide (lo < 0) = false := decide_eq_false c1
    by_cases c2 : hi ≤ lo
    · have d2 : decide (hi ≤ lo) = true := decide_eq_true c2
      have hp : putE tot m N s.data.toList lo hi = 12 := by simp [putE, hn, c2]
      simp only [hp, if_neg n12]
      go_enter Tryd.func6, Tryd.ntmps6
      go_wp2_with (go_at_call 10; refine ht.mono ?_; rintro e w' ⟨rfl, h2⟩; obtain ⟨hb2, h3, hbl⟩ := box_facts h h2; have z0 := cell_of hbl 0; have z1 := cell_of hbl 1; have z2 := cell_of hbl 2; have k0 := h3.c0)
      go_quiet (fail)
      rename_i nq
      have hq : Below w'.heap.size w' (w'.drewN nq) := ⟨rfl, rfl, rfl, Nat.le_refl _, fun k _ => rfl⟩
      go_wp2
      go_ret
      have hb4 := hb2.trans (hq.mono hb2.size)
      exact ⟨rfl, h.below hb4, Only.of_below hb4⟩
    have d2 : decide (hi ≤ lo) = false := decide_eq_false c2
    by_cases c3 : tot < hi
    · have d3 : decide (tot < hi) = true := decide_eq_true c3
      have hp : putE tot m N s.data.toList lo hi = 12 := by simp [putE, hn, c3]
      simp only [hp, if_neg n12]
      go_enter Tryd.func6, Tryd.ntmps6
      go_wp2_with (go_at_call 10; refine ht.mono ?_; rintro e w' ⟨rfl, h2⟩; obtain ⟨hb2, h3, hbl⟩ := box_facts h h2; have z0 := cell_of hbl 0; have z1 := cell_of hbl 1; have z2 := cell_of hbl 2; have k0 := h3.c0)
      go_quiet (fail)
      rename_i nq
      have hq : Below w'.heap.size w' (w'.drewN nq) := ⟨rfl, rfl, rfl, Nat.le_refl _, fun k _ => rfl⟩
      go_wp2
      go_ret
      have hb4 := hb2.trans (hq.mono hb2.size)
      exact ⟨rfl, h.below hb4, Only.of_below hb4⟩
    have d3 : decide (tot < hi) = false := decide_eq_false c3
    cases hm : m s.data.toList with
    | some a =>
      have hp : putE tot m N s.data.toList lo hi = 201 := by simp [putE, hn, c1, c2, c3, hm]
      simp only [hp, if_neg n201]
      go_enter Tryd.func6, Tryd.ntmps6
      go_wp2_with (go_at_call 10; refine ht.mono ?_; rintro e w' ⟨rfl, h2⟩; obtain ⟨hb2, h3, hbl⟩ := box_facts h h2; have z0 := cell_of hbl 0; have z1 := cell_of hbl 1; have z2 := cell_of hbl 2; have k0 := h3.c0)
      go_quiet (fail)
      rename_i nq
      have hq : Below w'.heap.size w' (w'.drewN nq) := ⟨rfl, rfl, rfl, Nat.le_refl _, fun k _ => rfl⟩
      obtain ⟨X, hX⟩ : ∃ X, X = w'.drewN nq := ⟨_, rfl⟩
      have g1 : Below w.heap.size w X := by rw [hX]; exact hb2.trans (hq.mono hb2.size)
      have g2 : BookAt X p b tot m N := h.below g1
      have g3 : X.heap[w.heap.size]? = some (.cells #[.string s, .int .i64 lo, .int .i64 hi] 29 (0, 0)) := by rw [hX]; exact hbl
      rw [← hX]
      clear hX hq z0 z1 z2 k0 hbl h3 hb2 h2 ht hnew hB w' d1 d2 d3
      have y0 := cell_of g3 0
      have y1 := cell_of g3 1
      have y2 := cell_of g3 2
      have ec := g2.c1
      have h4 : BookAt X.drew p b tot m N := g2.below (Below.refl _ X).drew
      have h5 : ∀ v : Int × Int, BookAt (X.alloc (.cells #[.int .i64 v.1, .int .i64 v.2] 50)).drew p b tot m N := fun v => g2.below (((Below.refl _ X).alloc (Nat.le_refl _) _).drew)
      have h6 : BookAt (X.alloc (.cells #[.int .i64 0, .int .i64 0] 50)).drew p b tot m N := h5 (0, 0)
      have b6 : (X.alloc (.cells #[.int .i64 0, .int .i64 0] 50)).drew.heap[w.heap.size]? = some (.cells #[.string s, .int .i64 lo, .int .i64 hi] 29 (0, 0)) := (Below.heap_alloc X _ _ (Array.getElem?_eq_some_iff.1 g3).1).trans g3
      have x0 := cell_of b6 0
      have hl6 := look_some h6 hs hm
      have ec6 := h6.c1
      have hl4 := look_some h4 hs hm
      have ec4 := h4.c1
      go_wp2
      go_region
      all_goals go_wp2
      all_goals go_ret
      all_goals exact ⟨rfl, h5 a, Only.of_below (g1.trans ((((Below.refl _ X).alloc (Nat.le_refl _) _).drew).mono g1.size))⟩
    | none =>
      by_cases c4 : 256 ≤ N
      · have hp : putE tot m N s.data.toList lo hi = 202 := by simp [putE, hn, c1, c2, c3, hm, c4]
        have d4 : decide (256 ≤ (N : Int)) = true := decide_eq_true (by omega)
        have d4' : decide (256 ≤ N) = true := decide_eq_true c4
        simp only [hp, if_neg n202]
        go_enter Tryd.func6, Tryd.ntmps6
        go_wp2_with (go_at_call 10; refine ht.mono ?_; rintro e w' ⟨rfl, h2⟩; obtain ⟨hb2, h3, hbl⟩ := box_facts h h2; have z0 := cell_of hbl 0; have z1 := cell_of hbl 1; have z2 := cell_of hbl 2; have k0 := h3.c0)
        go_quiet (fail)
        rename_i nq
        have hq : Below w'.heap.size w' (w'.drewN nq) := ⟨rfl, rfl, rfl, Nat.le_refl _, fun k _ => rfl⟩
        obtain ⟨X, hX⟩ : ∃ X, X = w'.drewN nq := ⟨_, rfl⟩
        have g1 : Below w.heap.size w X := by rw [hX]; exact hb2.trans (hq.mono hb2.size)
        have g2 : BookAt X p b tot m N := h.below g1
        have g3 : X.heap[w.heap.size]? = some (.cells #[.string s, .int .i64 lo, .int .i64 hi] 29 (0, 0)) := by rw [hX]; exact hbl
        rw [← hX]
        clear hX hq z0 z1 z2 k0 hbl h3 hb2 h2 ht hnew hB w' d1 d2 d3
        have y0 := cell_of g3 0
        have y1 := cell_of g3 1
        have y2 := cell_of g3 2
        have ec := g2.c1
        have h4 : BookAt X.drew p b tot m N := g2.below (Below.refl _ X).drew
        have h5 : BookAt (X.alloc (.cells #[.int .i64 0, .int .i64 0] 50)).drew p b tot m N := g2.below (((Below.refl _ X).alloc (Nat.le_refl _) _).drew)
        have b6 : (X.alloc (.cells #[.int .i64 0, .int .i64 0] 50)).drew.heap[w.heap.size]? = some (.cells #[.string s, .int .i64 lo, .int .i64 hi] 29 (0, 0)) := (Below.heap_alloc X _ _ (Array.getElem?_eq_some_iff.1 g3).1).trans g3
        have gY : Below w.heap.size w (X.alloc (.cells #[.int .i64 0, .int .i64 0] 50)).drew := g1.trans ((((Below.refl _ X).alloc (Nat.le_refl _) _).drew).mono g1.size)
        have x0 := cell_of b6 0
        have x1 := cell_of b6 1
        have x2 := cell_of b6 2
        have hl6 := look_none h5 hs hm
        have ec6 := h5.c1
        have hl4 := look_none h4 hs hm
        have ec4 := h4.c1
        have hlen := h5.2.len Tryd.underlying45 3
        go_wp2
        go_region
        all_goals go_wp2
        all_goals go_ret
        all_goals exact ⟨rfl, h5, Only.of_below gY⟩
      · have hp : putE tot m N s.data.toList lo hi = 0 := by simp [putE, hn, c1, c2, c3, hm, c4]
        have d4 : decide (256 ≤ (N : Int)) = false := decide_eq_false (by omega)
        have d4' : decide (256 ≤ N) = false := decide_eq_false c4
        simp only [hp, if_true]
        go_enter Tryd.func6, Tryd.ntmps6
        go_wp2_with (go_at_call 10; refine ht.mono ?_; rintro e w' ⟨rfl, h2⟩; obtain ⟨hb2, h3, hbl⟩ := box_facts h h2; have z0 := cell_of hbl 0; have z1 := cell_of hbl 1; have z2 := cell_of hbl 2; have k0 := h3.c0)
        go_quiet (fail)
        rename_i nq
        have hq : Below w'.heap.size w' (w'.drewN nq) := ⟨rfl, rfl, rfl, Nat.le_refl _, fun k _ => rfl⟩
        obtain ⟨X, hX⟩ : ∃ X, X = w'.drewN nq := ⟨_, rfl⟩
        have g1 : Below w.heap.size w X := by rw [hX]; exact hb2.trans (hq.mono hb2.size)
        have g2 : BookAt X p b tot m N := h.below g1
        have g3 : X.heap[w.heap.size]? = some (.cells #[.string s, .int .i64 lo, .int .i64 hi] 29 (0, 0)) := by rw [hX]; exact hbl
        rw [← hX]
        clear hX hq z0 z1 z2 k0 hbl h3 hb2 h2 ht hnew hB w' d1 d2 d3
        have y0 := cell_of g3 0
        have y1 := cell_of g3 1
        have y2 := cell_of g3 2
        have ec := g2.c1
        have h4 : BookAt X.drew p b tot m N := g2.below (Below.refl _ X).drew
        have h5 : BookAt (X.alloc (.cells #[.int .i64 0, .int .i64 0] 50)).drew p b tot m N := g2.below (((Below.refl _ X).alloc (Nat.le_refl _) _).drew)
        have b6 : (X.alloc (.cells #[.int .i64 0, .int .i64 0] 50)).drew.heap[w.heap.size]? = some (.cells #[.string s, .int .i64 lo, .int .i64 hi] 29 (0, 0)) := (Below.heap_alloc X _ _ (Array.getElem?_eq_some_iff.1 g3).1).trans g3
        have gY : Below w.heap.size w (X.alloc (.cells #[.int .i64 0, .int .i64 0] 50)).drew := g1.trans ((((Below.refl _ X).alloc (Nat.le_refl _) _).drew).mono g1.size)
        have x0 := cell_of b6 0
        have x1 := cell_of b6 1
        have x2 := cell_of b6 2
        have hl6 := look_none h5 hs hm
        have ec6 := h5.c1
        have hl4 := look_none h4 hs hm
        have ec4 := h4.c1
        have hlen := h5.2.len Tryd.underlying45 3
        have h7 : BookAt (X.alloc (.cells #[.int .i64 0, .int .i64 0] 50)).drew.drew p b tot m N := h5.below (Below.refl _ _).drew
        have u0 := x0
        have e7 := h7.c1
        obtain ⟨W', hrun, hM, hturn⟩ := h7.2.store Tryd.underlying9 Tryd.underlying45 (by unfold maxLen; omega) hs hm (lo, hi)
        rw [show EM.val (lo, hi) = .agg #[.int .i64 lo, .int .i64 hi] from rfl] at hrun
        go_wp2
        go_region
        all_goals go_wp2
        all_goals go_region
        all_goals go_wp2
        all_goals go_ret
        all_goals exact ⟨rfl, h7.turn hturn hM, (Only.of_below gY.drew).trans (Only.turned hturn rfl)⟩
end Go.Proofs.YtgiiiolnagddnaaDoorMar
end
section
namespace Go.Proofs.YtgiiiolnagddnaaDoorMar
open Go.RowKit Go.Maps
set_option linter.unusedSimpArgs false
set_option linter.unusedVariables false
theorem results_row {P : Program} {fn : Func} {p u : Tmp} {ty : TypeId} (h : fn.results = #[.cell p ty, .tmp u]) (tmps : Array Value) (w : World) (g : Nat) (t : TypeId) (cs : Array Value) (fr : Nat × Nat) (d : TypeDesc)
    (hp : tmps.getD p undef = .pointer (some ⟨g, 0, none⟩)) (hg : w.heap[g]? = some (.cells cs t fr))
    (hu : P.underlying ty = some d) (hd : (match d with | .struct _ | .array _ _ => true | _ => false) = true) (hi : (P.info? ty).map (·.size) = some cs.size) :
    (results fn tmps).run P w = .ok (.tuple #[.agg cs, tmps.getD u undef]) w := by
  have hp' : tmps[p]?.getD undef = .pointer (some ⟨g, 0, none⟩) := by simpa using hp
  simp [results, h, hp', asAddr, run_loadVar_row w g t ty cs fr d hg hu hd hi]
set_option maxRecDepth 100000 in
set_option maxHeartbeats 4000000 in
theorem Mark_calls {p b N : Nat} {tot : Int} {m : List UInt8 → Option (Int × Int)} (w : World) (h : BookAt w p b tot m N) (s : ByteArray) (hs : s.size ≤ maxLen) : Calls Tryd.prog 8 #[.pointer (some ⟨p, 0, none⟩), .string s] w fun e w' =>
    (match m s.data.toList with
    | some a => e = .returned (.tuple #[.agg #[.string s, .int .i64 a.1, .int .i64 a.2], .int .i64 0])
    | none => e = .returned (.tuple #[.agg #[.string ⟨#[]⟩, .int .i64 0, .int .i64 0], .int .i64 60])) ∧ Below w.heap.size w w' := by
  have h2 := h.below ((Below.refl _ w).alloc (Nat.le_refl _) (.cells #[.string ⟨#[]⟩, .int .i64 0, .int .i64 0] 29))
  have c1 := h2.c1
  cases hm : m s.data.toList with
  | none =>
    have hl := look_none h2 hs hm
    simp only
    go_enter Tryd.func8, Tryd.ntmps8
    go_wp2
    (try simp only [Exit.inBlock, Exit.then])
    refine bodyPost_ret (results_row rfl _ _ w.heap.size 29 #[.string ⟨#[]⟩, .int .i64 0, .int .i64 0] (0, 0) _ rfl ((Below.heap_alloc _ _ _ (by simp)).trans (World.alloc_heap_new w _)) Tryd.underlying29 rfl (by kernel_rfl)) rfl ?_
    exact ⟨rfl, ((Below.refl _ w).alloc (Nat.le_refl _) _).alloc (by simp) _⟩
  | some a =>
    have hl := look_some h2 hs hm
    simp only
    go_enter Tryd.func8, Tryd.ntmps8
    go_wp2
    (try simp only [Exit.inBlock, Exit.then])
    refine bodyPost_ret (results_row rfl _ _ w.heap.size 29 #[.string s, .int .i64 a.1, .int .i64 a.2] (0, 0) _ rfl ((Below.heap_alloc _ _ _ (by simp)).trans (World.alloc_heap_new w _)) Tryd.underlying29 rfl (by kernel_rfl)) rfl ?_
    exact ⟨rfl, ((Below.refl _ w).alloc (Nat.le_refl _) _).alloc (by simp) _⟩
end Go.Proofs.YtgiiiolnagddnaaDoorMar
end
section
namespace Go.Proofs.YtgiiiolnagddnaaDoorMar
open Go.RowKit Go.Maps
set_option linter.unusedSimpArgs false
set_option linter.unusedVariables false
theorem eq31 (W : World) : (Op.equalIn 9999 31 (.agg #[.int .i64 0, .int .i64 0]) (.agg #[.int .i64 0, .int .i64 0])).run Tryd.prog W = .ok true W := by kernel_rfl
theorem eq31b (W : World) : (Op.equalIn 10000 31 (.agg #[.int .i64 0, .int .i64 0]) (.agg #[.int .i64 0, .int .i64 0])).run Tryd.prog W = .ok true W := by kernel_rfl
theorem small64 {n : Int} (h1 : -2000000 ≤ n) (h2 : n ≤ 2000000) : wrap64 n = n := by
  unfold wrap64
  omega
abbrev opV (k a : Int) (t : ByteArray) (rv : Value) : Value := .agg #[.int .i64 0, .int .i64 0, .int .i64 k, .int .i64 a, .string t, rv, .int .i64 0, .int .i64 0, .bool false]
theorem below2 (w : World) (o1 o2 : Obj) : Below w.heap.size w ((w.alloc o1).alloc o2) := ((Below.refl _ w).alloc (Nat.le_refl _) o1).alloc (by simp) o2
theorem below1 (w : World) (o1 : Obj) : Below w.heap.size w (w.alloc o1) := (Below.refl _ w).alloc (Nat.le_refl _) o1
set_option maxRecDepth 100000 in
set_option maxHeartbeats 1000000 in
theorem Equal_no (k a : Int) (t : ByteArray) (A : Option Addr) (n c : Nat) (hk : k ≠ 0) (w : World) : Calls Tryd.prog 11 #[opV k a t (.slice A n c), opV 0 0 ⟨#[]⟩ (.slice none 0 0)] w fun e w' => e = .returned (.bool false) ∧ Below w.heap.size w w' := by
  have d1 : (k == 0) = false := beq_eq_false_iff_ne.2 hk
  have he := eq31
  go_enter Tryd.func11, Tryd.ntmps11
  go_wp2
  go_ret
  exact ⟨rfl, below2 _ _ _⟩
set_option maxRecDepth 100000 in
set_option maxHeartbeats 1000000 in
theorem Equal_yes (A : Option Addr) (c : Nat) (w : World) : Calls Tryd.prog 11 #[opV 0 0 ⟨#[]⟩ (.slice A 0 c), opV 0 0 ⟨#[]⟩ (.slice none 0 0)] w fun e w' => e = .returned (.bool true) ∧ Below w.heap.size w w' := by
  have he := eq31
  have he2 := eq31b
  go_enter Tryd.func11, Tryd.ntmps11
  go_wp2
  refine wp_loop_rounds 1 ?_
  rw [rounds_succ]
  go_wp2
  go_ret
  exact ⟨rfl, below2 _ _ _⟩
set_option maxRecDepth 100000 in
set_option maxHeartbeats 1000000 in
theorem extra_ins (a : Int) (t : ByteArray) (w : World) : Calls Tryd.prog 15 #[opV 1 a t (.slice none 0 0)] w fun e w' => e = .returned (.bool false) ∧ Below w.heap.size w w' := by
  have he := eq31
  have he2 := eq31b
  go_enter Tryd.func15, Tryd.ntmps15
  go_wp2
  go_ret
  exact ⟨rfl, below1 _ _⟩
set_option maxRecDepth 100000 in
set_option maxHeartbeats 1000000 in
theorem extra_cov (k : Int) (hk : k = 2 ∨ k = 3) (A : Option Addr) (c : Nat) (w : World) : Calls Tryd.prog 15 #[opV k 0 ⟨#[]⟩ (.slice A 1 c)] w fun e w' => e = .returned (.bool false) ∧ Below w.heap.size w w' := by
  have he := eq31
  have he2 := eq31b
  rcases hk with rfl | rfl
  · go_enter Tryd.func15, Tryd.ntmps15
    go_wp2
    go_ret
    exact ⟨rfl, below1 _ _⟩
  · go_enter Tryd.func15, Tryd.ntmps15
    go_wp2
    go_ret
    exact ⟨rfl, below1 _ _⟩
structure Txt (l : List Int) : Prop where
  lets : Lets l
  plain : ∀ r ∈ l, r ≠ 65533
  len : l.length ≤ 256
  pos : 1 ≤ l.length
theorem Width_ins {l : List Int} (hl : Txt l) (a : Int) {w : World} (hw : BarsAt w) : Calls Tryd.prog 13 #[opV 1 a (txt l) (.slice none 0 0)] w fun e w' => e = .returned (.int .i64 (l.length : Int)) ∧ Below w.heap.size w w' := by
  have hb := below1 w (.cells #[.int .i64 0, .int .i64 0, .int .i64 1, .int .i64 a, .string (txt l), .slice none 0 0, .int .i64 0, .int .i64 0, .bool false] 37)
  have hc := check_yes hl.lets hl.plain (by have := hl.len; omega) (hw.below hb)
  go_enter Tryd.func13, Tryd.ntmps13
  go_wp2_with (go_at_call 18; refine hc.mono ?_; rintro e w' ⟨rfl, h2⟩)
  go_ret
  exact ⟨rfl, hb.trans (h2.mono (by simp))⟩
set_option maxRecDepth 100000 in
set_option maxHeartbeats 1000000 in
theorem checkIns_yes {l : List Int} (hl : Txt l) (a tot : Int) (ha : 0 ≤ a ∧ a ≤ tot) (ht : tot + 256 ≤ 1048576) {w : World} (hw : BarsAt w) : Calls Tryd.prog 16 #[opV 1 a (txt l) (.slice none 0 0), .int .i64 tot] w fun e w' => e = .returned (.int .i64 0) ∧ Below w.heap.size w w' := by
  have hb := below1 w (.cells #[.int .i64 0, .int .i64 0, .int .i64 1, .int .i64 a, .string (txt l), .slice none 0 0, .int .i64 0, .int .i64 0, .bool false] 37)
  have hc := check_yes hl.lets hl.plain (by have := hl.len; omega) (hw.below hb)
  obtain ⟨_, _, h256, h1⟩ := hl
  obtain ⟨n, hn⟩ : ∃ n, l.length = n := ⟨_, rfl⟩
  rw [hn] at hc h256 h1
  have d1 : ((n : Int) == 0) = false := beq_eq_false_iff_ne.2 (by omega)
  have d2 : decide ((256 : Int) < (n : Int)) = false := decide_eq_false (by omega)
  have d2' : decide (256 < n) = false := decide_eq_false (by omega)
  have d3 : decide (a < 0) = false := decide_eq_false (by omega)
  have d4 : decide (tot < a) = false := decide_eq_false (by omega)
  have d5 : decide (1048576 < tot + (n : Int)) = false := decide_eq_false (by omega)
  have v1 : wrap64 (tot + (n : Int)) = tot + (n : Int) := small64 (by omega) (by omega)
  have d6 : (n == 0) = false := beq_eq_false_iff_ne.2 (by omega)
  have d7 : decide (n = 0) = false := decide_eq_false (by omega)
  clear hn
  go_enter Tryd.func16, Tryd.ntmps16
  go_wp2_with (go_at_call 18; refine hc.mono ?_; rintro e w' ⟨rfl, h2⟩; have c3 : w'.cell? ⟨w.heap.size, 3, none⟩ = some (.int .i64 a) := (cell_of ((h2.block _ (by simp)).trans (World.alloc_heap_new w _)) 3))
  go_ret
  exact ⟨rfl, hb.trans (h2.mono (by simp))⟩
end Go.Proofs.YtgiiiolnagddnaaDoorMar
end
section
namespace Go.Proofs.YtgiiiolnagddnaaDoorMar
open Go.RowKit Go.Maps
set_option linter.unusedSimpArgs false
set_option linter.unusedVariables false
def OneAt (W : World) (g : Nat) (lo hi : Int) : Prop := W.heap[g]? = some (.cells #[.int .i64 lo, .int .i64 hi] 43 (0, 0))
theorem OneAt.below {W W1 : World} {g : Nat} {lo hi : Int} (h : OneAt W g lo hi) (hb : Below W.heap.size W W1) : OneAt W1 g lo hi := (hb.block g (Array.getElem?_eq_some_iff.1 h).1).trans h
theorem OneAt.c0 {W : World} {g : Nat} {lo hi : Int} (h : OneAt W g lo hi) : W.cell? ⟨g, 0, none⟩ = some (.int .i64 lo) := cell_of h 0
theorem OneAt.c1 {W : World} {g : Nat} {lo hi : Int} (h : OneAt W g lo hi) : W.cell? ⟨g, 1, none⟩ = some (.int .i64 hi) := cell_of h 1
set_option maxRecDepth 100000 in
set_option maxHeartbeats 1000000 in
theorem spanCheck_one (g c : Nat) (lo hi : Int) (h0 : 0 ≤ lo) (h1 : lo < hi) (h2 : hi ≤ 1048576) (w : World) (h : OneAt w g lo hi) : Calls Tryd.prog 19 #[.slice (some ⟨g, 0, none⟩) 1 c] w fun e w' => e = .returned (.tuple #[.int .i64 0, .int .i64 0]) ∧ Below w.heap.size w w' := by
  have HO := Lib.hid h
  have d1 : decide (lo < 0) = false := decide_eq_false (by omega)
  have d2 : decide (1048576 < hi) = false := decide_eq_false (by omega)
  have d3 : decide (hi ≤ lo) = false := decide_eq_false (by omega)
  clear h
  go_enter Tryd.func19, Tryd.ntmps19
  go_wp2
  go_loopw [11] (fun v11 wr => ∃ i : Nat, i ≤ 1 ∧ v11 = .int .i64 (i : Int) ∧ Hid (Below w.heap.size w wr)) (fun v11 _ => 1 - (intOf v11).toNat)
  case atStart => exact ⟨0, by omega, rfl, Below.refl _ _⟩
  case round =>
    obtain ⟨i, hi', rfl, HB⟩ := hrel
    rcases (by omega : i = 0 ∨ i = 1) with rfl | rfl
    · have k0 := (HO.out.below HB.out).c0
      have k1 := (HO.out.below HB.out).c1
      have HB3 : Hid (∀ nq, Below w.heap.size w ((wr.alloc (.cells #[.int .i64 lo, .int .i64 hi] 43)).drewN nq)) := fun nq => (HB.out.alloc HB.out.size _).trans ⟨rfl, rfl, rfl, Nat.le_refl _, fun k _ => rfl⟩
      go_wp2
      go_quiet (fail)
      rename_i nq
      go_wp2
      go_roundw
      case rel => exact ⟨1, by omega, rfl, HB3.out nq⟩
      case measure => simp [intOf]
    · go_wp2
      go_ret2
      exact ⟨rfl, HB.out⟩
set_option maxRecDepth 100000 in
set_option maxHeartbeats 1000000 in
theorem checkRanges_one (g c : Nat) (lo hi tot : Int) (h0 : 0 ≤ lo) (h1 : lo < hi) (h2 : hi ≤ tot) (ht : tot ≤ 1048576) (w : World) (h : OneAt w g lo hi) : Calls Tryd.prog 17 #[.slice (some ⟨g, 0, none⟩) 1 c, .int .i64 tot] w fun e w' => e = .returned (.int .i64 0) ∧ Below w.heap.size w w' := by
  have hc := spanCheck_one g c lo hi h0 h1 (by omega) w h
  have d1 : decide (tot < hi) = false := decide_eq_false (by omega)
  have HO := Lib.hid h
  clear h
  go_enter Tryd.func17, Tryd.ntmps17
  go_wp2_with (go_at_call 19; refine hc.mono ?_; rintro e w' ⟨rfl, hb⟩; have k1 := (HO.out.below hb).c1)
  go_ret
  exact ⟨rfl, hb⟩
set_option maxRecDepth 100000 in
set_option maxHeartbeats 1000000 in
theorem Check_ins {l : List Int} (hl : Txt l) (a tot : Int) (ha : 0 ≤ a ∧ a ≤ tot) (ht : tot + 256 ≤ 1048576) {w : World} (hw : BarsAt w) : Calls Tryd.prog 12 #[opV 1 a (txt l) (.slice none 0 0), .int .i64 tot] w fun e w' => e = .returned (.int .i64 0) ∧ Below w.heap.size w w' := by
  have he := eq31
  have he2 := eq31b
  have hb := below1 w (.cells #[.int .i64 0, .int .i64 0, .int .i64 1, .int .i64 a, .string (txt l), .slice none 0 0, .int .i64 0, .int .i64 0, .bool false] 37)
  have hnew := World.alloc_heap_new w (.cells #[.int .i64 0, .int .i64 0, .int .i64 1, .int .i64 a, .string (txt l), .slice none 0 0, .int .i64 0, .int .i64 0, .bool false] 37)
  have hex := extra_ins a (txt l) (w.alloc (.cells #[.int .i64 0, .int .i64 0, .int .i64 1, .int .i64 a, .string (txt l), .slice none 0 0, .int .i64 0, .int .i64 0, .bool false] 37))
  have hci := fun (W : World) (h : Below w.heap.size w W) => checkIns_yes hl a tot ha ht (hw.below h)
  have d1 : decide (tot < 0) = false := decide_eq_false (by omega)
  have d2 : decide (1048576 < tot) = false := decide_eq_false (by omega)
  have HCI := Lib.hid hci
  have HB := Lib.hid hb
  have HN := Lib.hid hnew
  clear hl ha ht hw hci hb hnew
  go_enter Tryd.func12, Tryd.ntmps12
  go_wp2_with (first
    | (go_at_call 15; refine hex.mono ?_; rintro e w2 ⟨rfl, hb2⟩; have hg2 := (hb2.block w.heap.size (by simp)).trans HN.out; have y0 := cell_of hg2 0; have y1 := cell_of hg2 1; have y2 := cell_of hg2 2; have y3 := cell_of hg2 3; have y4 := cell_of hg2 4; have y5 := cell_of hg2 5; have y6 := cell_of hg2 6; have y7 := cell_of hg2 7; have y8 := cell_of hg2 8; have HB2 := Lib.hid (HB.out.trans (hb2.mono (by simp))); clear hb2 hg2)
    | (go_at_call 16; refine (HCI.out _ HB2.out).mono ?_; rintro e w3 ⟨rfl, hb3⟩))
  go_ret
  exact ⟨rfl, HB2.out.trans (hb3.mono HB2.out.size)⟩
set_option maxRecDepth 100000 in
set_option maxHeartbeats 1000000 in
theorem Check_cov (k : Int) (hk : k = 2 ∨ k = 3) (g c : Nat) (lo hi tot : Int) (h0 : 0 ≤ lo) (h1 : lo < hi) (h2 : hi ≤ tot) (ht : tot ≤ 1048576) (w : World) (h : OneAt w g lo hi) : Calls Tryd.prog 12 #[opV k 0 ⟨#[]⟩ (.slice (some ⟨g, 0, none⟩) 1 c), .int .i64 tot] w fun e w' => e = .returned (.int .i64 0) ∧ Below w.heap.size w w' := by
  have he := eq31
  have he2 := eq31b
  have hb := below1 w (.cells #[.int .i64 0, .int .i64 0, .int .i64 k, .int .i64 0, .string ⟨#[]⟩, .slice (some ⟨g, 0, none⟩) 1 c, .int .i64 0, .int .i64 0, .bool false] 37)
  have hnew := World.alloc_heap_new w (.cells #[.int .i64 0, .int .i64 0, .int .i64 k, .int .i64 0, .string ⟨#[]⟩, .slice (some ⟨g, 0, none⟩) 1 c, .int .i64 0, .int .i64 0, .bool false] 37)
  have hex := extra_cov k hk (some ⟨g, 0, none⟩) c (w.alloc (.cells #[.int .i64 0, .int .i64 0, .int .i64 k, .int .i64 0, .string ⟨#[]⟩, .slice (some ⟨g, 0, none⟩) 1 c, .int .i64 0, .int .i64 0, .bool false] 37))
  have hcr := fun (W : World) (hB : Below w.heap.size w W) => checkRanges_one g c lo hi tot h0 h1 h2 ht W (h.below hB)
  have d1 : decide (tot < 0) = false := decide_eq_false (by omega)
  have d2 : decide (1048576 < tot) = false := decide_eq_false (by omega)
  have HCR := Lib.hid hcr
  have HB := Lib.hid hb
  have HN := Lib.hid hnew
  clear h0 h1 h2 ht h hcr hb hnew
  rcases hk with rfl | rfl
  · go_enter Tryd.func12, Tryd.ntmps12
    go_wp2_with (first
      | (go_at_call 15; refine hex.mono ?_; rintro e w2 ⟨rfl, hb2⟩; have hg2 := (hb2.block w.heap.size (by simp)).trans HN.out; have y0 := cell_of hg2 0; have y1 := cell_of hg2 1; have y2 := cell_of hg2 2; have y3 := cell_of hg2 3; have y4 := cell_of hg2 4; have y5 := cell_of hg2 5; have y6 := cell_of hg2 6; have y7 := cell_of hg2 7; have y8 := cell_of hg2 8; have HB2 := Lib.hid (HB.out.trans (hb2.mono (by simp))); clear hb2 hg2)
      | (go_at_call 17; refine (HCR.out _ HB2.out).mono ?_; rintro e w3 ⟨rfl, hb3⟩))
    go_ret
    exact ⟨rfl, HB2.out.trans (hb3.mono HB2.out.size)⟩
  · go_enter Tryd.func12, Tryd.ntmps12
    go_wp2_with (first
      | (go_at_call 15; refine hex.mono ?_; rintro e w2 ⟨rfl, hb2⟩; have hg2 := (hb2.block w.heap.size (by simp)).trans HN.out; have y0 := cell_of hg2 0; have y1 := cell_of hg2 1; have y2 := cell_of hg2 2; have y3 := cell_of hg2 3; have y4 := cell_of hg2 4; have y5 := cell_of hg2 5; have y6 := cell_of hg2 6; have y7 := cell_of hg2 7; have y8 := cell_of hg2 8; have HB2 := Lib.hid (HB.out.trans (hb2.mono (by simp))); clear hb2 hg2)
      | (go_at_call 17; refine (HCR.out _ HB2.out).mono ?_; rintro e w3 ⟨rfl, hb3⟩))
    go_ret
    exact ⟨rfl, HB2.out.trans (hb3.mono HB2.out.size)⟩
end Go.Proofs.YtgiiiolnagddnaaDoorMar
end
section
namespace Go.Proofs.YtgiiiolnagddnaaDoorMar
open Go.RowKit Go.Maps
set_option linter.unusedSimpArgs false
set_option linter.unusedVariables false
abbrev opC (k a : Int) (t : ByteArray) (rv : Value) : Obj := .cells #[.int .i64 0, .int .i64 0, .int .i64 k, .int .i64 a, .string t, rv, .int .i64 0, .int .i64 0, .bool false] 37
set_option maxRecDepth 100000 in
set_option maxHeartbeats 1000000 in
theorem Follow_none (P : Value) (A : Option Addr) (c : Nat) (w : World) : Calls Tryd.prog 7 #[P, opV 0 0 ⟨#[]⟩ (.slice A 0 c)] w fun e w' => e = .returned (.int .i64 0) ∧ Below w.heap.size w w' := by
  have he := Equal_yes A c (w.alloc (opC 0 0 ⟨#[]⟩ (.slice A 0 c)))
  have HB := Lib.hid (below1 w (opC 0 0 ⟨#[]⟩ (.slice A 0 c)))
  go_enter Tryd.func7, Tryd.ntmps7
  go_wp2_with (go_at_call 11; refine he.mono ?_; rintro e w2 ⟨rfl, hb⟩)
  go_ret
  exact ⟨rfl, HB.out.trans (hb.mono (by simp))⟩
set_option maxRecDepth 100000 in
set_option maxHeartbeats 1000000 in
theorem Follow_cov {p b N : Nat} {tot : Int} {m : List UInt8 → Option (Int × Int)} (w : World) (hbk : BookAt w p b tot m N) (k : Int) (hk : k = 2 ∨ k = 3) (g c : Nat) (lo hi : Int) (h0 : 0 ≤ lo) (h1 : lo < hi) (h2 : hi ≤ tot) (ht : tot ≤ 1048576) (h : OneAt w g lo hi) : Calls Tryd.prog 7 #[.pointer (some ⟨p, 0, none⟩), opV k 0 ⟨#[]⟩ (.slice (some ⟨g, 0, none⟩) 1 c)] w fun e w' => e = .returned (.int .i64 0) ∧ Below w.heap.size w w' := by
  have he := Equal_no k 0 ⟨#[]⟩ (some ⟨g, 0, none⟩) 1 c (by omega) (w.alloc (opC k 0 ⟨#[]⟩ (.slice (some ⟨g, 0, none⟩) 1 c)))
  have HB := Lib.hid (below1 w (opC k 0 ⟨#[]⟩ (.slice (some ⟨g, 0, none⟩) 1 c)))
  have HN := Lib.hid (World.alloc_heap_new w (opC k 0 ⟨#[]⟩ (.slice (some ⟨g, 0, none⟩) 1 c)))
  have HC := Lib.hid (fun (W : World) (hB : Below w.heap.size w W) => Check_cov k hk g c lo hi tot h0 h1 h2 ht W (h.below hB))
  have HK := Lib.hid hbk
  clear h0 h1 h2 ht h hbk
  go_enter Tryd.func7, Tryd.ntmps7
  go_wp2_with (go_at_call 11; refine he.mono ?_; rintro e w2 ⟨rfl, hb⟩)
  have HB2 := Lib.hid (HB.out.trans (hb.mono (by simp)))
  have hg2 := (hb.block w.heap.size (by simp)).trans HN.out
  have HBK := Lib.hid (HK.out.below HB2.out)
  have HG2 := Lib.hid hg2
  clear hb hg2
  obtain ⟨X, hX⟩ : ∃ X, X = w2.drew := ⟨_, rfl⟩
  have HBX : Hid (Below w.heap.size w X) := by rw [hX]; exact HB2.out.drew
  have hbx : BookAt X p b tot m N := by rw [hX]; exact HBK.out
  have c0 := hbx.c0
  have hgx : X.heap[w.heap.size]? = some (opC k 0 ⟨#[]⟩ (.slice (some ⟨g, 0, none⟩) 1 c)) := by rw [hX]; exact HG2.out
  have y0 := cell_of hgx 0
  have y1 := cell_of hgx 1
  have y2 := cell_of hgx 2
  have y3 := cell_of hgx 3
  have y4 := cell_of hgx 4
  have y5 := cell_of hgx 5
  have y6 := cell_of hgx 6
  have y7 := cell_of hgx 7
  have y8 := cell_of hgx 8
  have HGX := Lib.hid hgx
  clear hgx hbx
  refine wp_region_still_tail 5 (by kernel_rfl) (by kernel_rfl) ?_
  simp only [List.take_succ_cons, List.take_zero, List.drop_succ_cons, List.drop_zero]
  change wpStill _ _ (World.drew w2) (fun a' => wpList _ _ _ _ a' (World.drew w2)) _ _
  rw [← hX]
  clear hX
  still_step
  still_step
  still_step
  still_step
  still_step
  refine wpStill_nil ?_
  have hch := HC.out X HBX.out
  go_wp2_with (go_at_call 12; refine hch.mono ?_; rintro e w3 ⟨rfl, hb3⟩; have k2 := cell_of ((hb3.block w.heap.size (by exact (Array.getElem?_eq_some_iff.1 HGX.out).1)).trans HGX.out) 2)
  all_goals go_ret
  all_goals exact ⟨rfl, HBX.out.trans (hb3.mono HBX.out.size)⟩
end Go.Proofs.YtgiiiolnagddnaaDoorMar
end
section
namespace Go.Proofs.YtgiiiolnagddnaaDoorMar
open Go.RowKit Go.Maps Go.Lib
set_option linter.unusedSimpArgs false
set_option linter.unusedVariables false
def sh (n a : Int) (c : Int × Int) : Int × Int := (if a ≤ c.1 then c.1 + n else c.1, if a < c.2 then c.2 + n else c.2)
theorem SMap.congr {W : World} {b N : Nat} {m m' : List UInt8 → Option (Int × Int)} (h : SMap Tryd.prog 9 EM W b m N) (he : ∀ y, y.length ≤ maxLen → m y = m' y) : SMap Tryd.prog 9 EM W b m' N := by
  obtain ⟨D, h1, h2, h3⟩ := h
  refine ⟨D, h1, h2, fun x hx => ?_⟩
  have := h3 x hx
  rw [he x hx] at this
  exact this
theorem grown_only {W W' : World} {g : Nat} (h : Only (fun k => k = g) W W') : W.grownBy W' (some g) := by
  refine ⟨h.os, h.tape, h.output, h.size, fun i hi hne => h.block i hi (fun e => hne (by rw [e]))⟩
theorem EMinv {v : Value} {y : DataW Unit × List MemPlace} (h : EM.R v = some y) : ∃ c, v = EM.val c := by
  cases v <;> simp [EM] at h
  rename_i cs
  cases cs with | mk l =>
  split at h
  · rename_i h'
    simp at h'
    subst h'
    exact ⟨(_, _), rfl⟩
  · cases h
theorem below_grown {B : Nat} {a w w' : World} {row : Option Nat} (h : Below B a w) (hB : B ≤ a.heap.size) (hg : w.grownBy w' row) (hr : ∀ j, row = some j → B ≤ j) : Below B a w' :=
  ⟨hg.os.trans h.os, hg.tape.trans h.tape, hg.output.trans h.output, Nat.le_trans h.size hg.size, fun i hi => (hg.block i (Nat.lt_of_lt_of_le (Nat.lt_of_lt_of_le hi hB) h.size) (fun e => by have := hr i e.symm; omega)).trans (h.block i hi)⟩
theorem Says.at_ {D : DataW Unit} {m : List UInt8 → Option (Int × Int)} (h : Says D m) {x : List UInt8} (hx : x.length ≤ maxLen) {c : Int × Int} (hc : ∀ z, D.atKey (.string x) z = EM.dat c) : m x = some c := by
  have h3 := h x hx
  cases hm : m x with
  | none =>
    rw [hm] at h3
    have e1 := has_true_of_atKey hc
    have e2 := has_false_of_atKey h3
    rw [e1] at e2
    cases e2
  | some a =>
    rw [hm] at h3
    have := (h3 (EM.dat a)).symm.trans (hc (EM.dat a))
    rw [dat_inj this]
theorem run_makeMap_hint (k : Int) (w : World) : (Instr.makeMap 45 (some (.int .i64 k))).run Tryd.prog w = .ok (.map (some w.heap.size)) (w.alloc (.map #[] 0)) := by
  simp [Instr.makeMap, run_underlying Tryd.underlying45, asInt]
  rfl
theorem sh_bd {n : Nat} {c1 c2 : Int} (hn : n ≤ 256) (h : 0 ≤ c1 ∧ c1 ≤ 1048576 ∧ 0 ≤ c2 ∧ c2 ≤ 1048576) : wrap64 (c1 + (n : Int)) = c1 + (n : Int) ∧ wrap64 (c2 + (n : Int)) = c2 + (n : Int) := ⟨small64 (by omega) (by omega), small64 (by omega) (by omega)⟩
def movedN (sf : Int × Int → Int × Int) (m : List UInt8 → Option (Int × Int)) (L : List Nm) : List UInt8 → Option (Int × Int) := fun y => if y ∈ L.map nmOf then (m y).map sf else none
theorem movedN_next {sf : Int × Int → Int × Int} {m : List UInt8 → Option (Int × Int)} {L : List Nm} {s : ByteArray} {c : Int × Int} (hm : m s.data.toList = some c) : (fun y => if y = s.data.toList then some (sf c) else movedN sf m L y) = movedN sf m (L ++ [(s, c)]) := by
  funext y
  unfold movedN
  by_cases e : y = s.data.toList
  · rw [if_pos e, if_pos (by rw [e]; simp [nmOf]), e, hm]
    rfl
  · rw [if_neg e]
    have : (y ∈ (L ++ [(s, c)]).map nmOf) ↔ y ∈ L.map nmOf := by simp [nmOf, e]
    by_cases h : y ∈ L.map nmOf
    · rw [if_pos h, if_pos (this.2 h)]
    · rw [if_neg h, if_neg (fun k => h (this.1 k))]
theorem movedN_all {sf : Int × Int → Int × Int} {m : List UInt8 → Option (Int × Int)} {D : DataW Unit} {L : List Nm} (hS : Says D m) (hT : Trail D (fun _ => false) L) (y : List UInt8) (hy : y.length ≤ maxLen) : movedN sf m L y = (m y).map sf := by
  unfold movedN
  cases hm : m y with
  | none => simp
  | some c =>
    have h1 : (⟨⟨y⟩⟩, c) ∈ L := (hT.mem hS (⟨⟨y⟩⟩, c)).2 ⟨hy, hm⟩
    rw [if_pos (List.mem_map.2 ⟨_, h1, rfl⟩)]
theorem set_p0 {W : World} {p : Nat} {x y v : Value} (h : W.heap[p]? = some (.cells #[x, y] 47 (0, 0))) : (W.setCell ⟨p, 0, none⟩ v).heap[p]? = some (.cells #[v, y] 47 (0, 0)) := by
  simp [World.setCell, Array.getElem?_modify, h]
theorem set_p1 {W : World} {p : Nat} {x y v : Value} (h : W.heap[p]? = some (.cells #[x, y] 47 (0, 0))) : (W.setCell ⟨p, 1, none⟩ v).heap[p]? = some (.cells #[x, v] 47 (0, 0)) := by
  simp [World.setCell, Array.getElem?_modify, h]
theorem frozen_p {W : World} {p : Nat} {x y : Value} (h : W.heap[p]? = some (.cells #[x, y] 47 (0, 0))) (i : Nat) : W.frozen? ⟨p, i, none⟩ = false := by
  simp [World.frozen?, h]
set_option maxRecDepth 100000 in
set_option maxHeartbeats 2000000 in
theorem Follow_ins {p b N : Nat} {tot : Int} {m : List UInt8 → Option (Int × Int)} (w : World) (hbk : BookAt w p b tot m N) (hN : N ≤ 256) (hmb : ∀ y c, m y = some c → 0 ≤ c.1 ∧ c.1 ≤ 1048576 ∧ 0 ≤ c.2 ∧ c.2 ≤ 1048576) {l : List Int} (hl : Txt l) (a : Int) (ha : 0 ≤ a ∧ a ≤ tot) (ht : tot + 256 ≤ 1048576) (hw : BarsAt w) (hp0 : p ≠ 0) :
    Calls Tryd.prog 7 #[.pointer (some ⟨p, 0, none⟩), opV 1 a (txt l) (.slice none 0 0)] w fun e w' => e = .returned (.int .i64 0) ∧ ∃ b2, BookAt w' p b2 (tot + (l.length : Int)) (fun y => (m y).map (sh l.length a)) N ∧ Only (fun k => k = p) w w' ∧ w.heap.size ≤ b2 := by
  have he := Equal_no 1 a (txt l) none 0 0 (by omega) (w.alloc (opC 1 a (txt l) (.slice none 0 0)))
  have HB := Lib.hid (below1 w (opC 1 a (txt l) (.slice none 0 0)))
  have HN := Lib.hid (World.alloc_heap_new w (opC 1 a (txt l) (.slice none 0 0)))
  have HC := Lib.hid (fun (W : World) (hB : Below w.heap.size w W) => Check_ins hl a tot ha ht (hw.below hB))
  have HW := Lib.hid (fun (W : World) (hB : Below w.heap.size w W) => Width_ins hl a (hw.below hB))
  have HK := Lib.hid hbk
  have HL := Lib.hid hl
  clear hl hbk
  obtain ⟨n, hn⟩ : ∃ n : Nat, l.length = n := ⟨_, rfl⟩
  have hn2 : n ≤ 256 := by rw [← hn]; exact HL.out.len
  rw [hn] at HW ⊢
  clear hn HL
  go_enter Tryd.func7, Tryd.ntmps7
  go_wp2_with (go_at_call 11; refine he.mono ?_; rintro e w2 ⟨rfl, hb⟩)
  have HB2 := Lib.hid (HB.out.trans (hb.mono (by simp)))
  have hg2 := (hb.block w.heap.size (by simp)).trans HN.out
  have HBK := Lib.hid (HK.out.below HB2.out)
  have HG2 := Lib.hid hg2
  clear hb hg2
  obtain ⟨X, hX⟩ : ∃ X, X = w2.drew := ⟨_, rfl⟩
  have HBX : Hid (Below w.heap.size w X) := by rw [hX]; exact HB2.out.drew
  have hbx : BookAt X p b tot m N := by rw [hX]; exact HBK.out
  have c0 := hbx.c0
  have hgx : X.heap[w.heap.size]? = some (opC 1 a (txt l) (.slice none 0 0)) := by rw [hX]; exact HG2.out
  have y0 := cell_of hgx 0
  have y1 := cell_of hgx 1
  have y2 := cell_of hgx 2
  have y3 := cell_of hgx 3
  have y4 := cell_of hgx 4
  have y5 := cell_of hgx 5
  have y6 := cell_of hgx 6
  have y7 := cell_of hgx 7
  have y8 := cell_of hgx 8
  have HGX := Lib.hid hgx
  clear hgx hbx
  refine wp_region_still_tail 5 (by kernel_rfl) (by kernel_rfl) ?_
  simp only [List.take_succ_cons, List.take_zero, List.drop_succ_cons, List.drop_zero]
  change wpStill _ _ (World.drew w2) (fun a' => wpList _ _ _ _ a' (World.drew w2)) _ _
  rw [← hX]
  clear hX
  still_step
  still_step
  still_step
  still_step
  still_step
  refine wpStill_nil ?_
  have hch := HC.out X HBX.out
  go_upto_region 11 with (first
    | (go_at_call 12; refine hch.mono ?_; rintro e w3 ⟨rfl, hb3⟩; have hg3 := (hb3.block w.heap.size (by exact (Array.getElem?_eq_some_iff.1 HGX.out).1)).trans HGX.out; have HG3 := Lib.hid hg3; have z0 := cell_of hg3 0; have z1 := cell_of hg3 1; have z2 := cell_of hg3 2; have z3 := cell_of hg3 3; have z4 := cell_of hg3 4; have z5 := cell_of hg3 5; have z6 := cell_of hg3 6; have z7 := cell_of hg3 7; have z8 := cell_of hg3 8; have HB3 := Lib.hid (HBX.out.trans (hb3.mono HBX.out.size)); clear hb3 hg3)
    | (go_at_call 13; refine (HW.out _ HB3.out).mono ?_; rintro e w4 ⟨rfl, hb4⟩))
  have HB4 := Lib.hid (HB3.out.trans (hb4.mono HB3.out.size))
  have hbk4 := HK.out.below HB4.out
  have HG4 := Lib.hid ((hb4.block w.heap.size (by exact (Array.getElem?_eq_some_iff.1 HG3.out).1)).trans HG3.out)
  have c40 := hbk4.c0
  have f40 := frozen_p hbk4.1 0
  have v1 : wrap64 (tot + (n : Int)) = tot + (n : Int) := small64 (by omega) (by omega)
  have plt := HK.out.lt
  have hne : p ≠ w.heap.size := by omega
  have h5p := set_p0 (v := .int .i64 (tot + (n : Int))) hbk4.1
  have ho5 : Only (fun k => k = p) w4 (w4.setCell ⟨p, 0, none⟩ (.int .i64 (tot + (n : Int)))) := Only.setCell _ _ _ _ rfl
  have hg5 := (ho5.block w.heap.size (Array.getElem?_eq_some_iff.1 HG4.out).1 (fun e => hne e.symm)).trans HG4.out
  have hm5 := hbk4.2.block (ho5.block b hbk4.2.lt (fun e => hbk4.ne e.symm))
  have HO5 := Lib.hid ((Only.of_below HB4.out).trans ho5)
  have H5P := Lib.hid h5p
  have HG5 := Lib.hid hg5
  have HM5 := Lib.hid hm5
  clear hb4 hbk4 ho5 hne plt HG4 HB4 HB3 HG3 y0 y1 y2 y3 y4 y5 y6 y7 y8 z0 z1 z2 z3 z4 z5 z6 z7 z8 c0 h5p hg5 hm5
  go_upto_region 12 with fail
  generalize hw5 : w4.setCell ⟨p, 0, none⟩ (.int .i64 (tot + (n : Int))) = w5 at HO5 H5P HG5 HM5 ⊢
  clear hw5 c40 f40
  have c51 : w5.cell? ⟨p, 1, none⟩ = some (.map (some b)) := cell_of H5P.out 1
  have hlen := HM5.out.len Tryd.underlying45 3
  have hmm := run_makeMap_hint
  have K9 : Keyed Tryd.prog 9 := string_keyed Tryd.underlying9
  have hm6 := HM5.out.block (W' := w5.alloc (.map #[] 0)) (Below.heap_alloc _ _ _ HM5.out.lt)
  obtain ⟨D, hown, hsz, hD⟩ := hm6.says
  have hbl : b < w5.heap.size := HM5.out.lt
  have HD := Lib.hid hD
  have HMk := Lib.hid (SMap.made (P := Tryd.prog) (tS := 9) (E := EM) w5)
  have hbne : b ≠ w5.heap.size := by omega
  have hplt := (Array.getElem?_eq_some_iff.1 H5P.out).1
  have holt := (Array.getElem?_eq_some_iff.1 HG5.out).1
  have c61 : (w5.alloc (.map #[] 0)).cell? ⟨p, 1, none⟩ = some (.map (some b)) := cell_of ((Below.heap_alloc w5 (.map #[] 0) p hplt).trans H5P.out) 1
  clear hD hm6
  go_wp2_with (first
    | (at_range; refine wpList_range_own _ rfl _ 45 rfl 9 50 K9 Tryd.underlying45 EM.R b N D rfl hown ?_; intro w0 hrg0 hg0 hs0)
    | go_in)
  go_frame
  obtain ⟨r, hr⟩ : ∃ r, r = (w5.alloc (.map #[] 0)).heap.size := ⟨_, rfl⟩
  rw [← hr] at hrg0 ⊢
  have hr2 : r = w5.heap.size + 1 := by rw [hr, World.size_alloc]
  have hrb : w5.heap.size ≠ r := by omega
  have hrw : w5.heap.size ≤ r := by omega
  clear hr hr2
  have HS0 := Lib.hid (SMap.block HMk.out (hg0.block w5.heap.size (by rw [World.size_alloc]; omega) (by simp)))
  have HL0 : Hid (Below w5.heap.size w5 w0) := below_grown (below1 w5 _) (by simp) hg0 (fun j hj => by cases hj)
  clear hg0 hs0 hlen hmm HMk c61 c51
  go_loopw [8] (fun v wr => ∃ (left : Lit → Bool) (cnt : Nat) (L : List Nm), wr.ranges Tryd.prog 9 EM.R b r N D left cnt ∧ Hid (Trail D left L) ∧ Hid (SMap Tryd.prog 9 EM wr w5.heap.size (movedN (sh n a) m L) L.length) ∧ L.length + cnt ≤ N ∧ Hid (Below w5.heap.size w5 wr)) (fun _ wr => wr.rangeLeft b r)
  case atStart =>
    exact ⟨_, _, [], hrg0, Trail.start D, HS0, by simp [hsz], HL0⟩
  case round =>
    obtain ⟨left, cnt, L, hrg, HT, HS, hlen, HBl⟩ := hrel
    go_wp2_with (first
      | (at_next; refine wpList_next_ranges _ rfl _ rfl 9 K9 EM.R Value.string EM.val (fun key kl hk => by obtain ⟨s, hs, _⟩ := keyOf_str_inv Tryd.underlying9 hk; exact ⟨s, hs⟩) (fun v y hv => EMinv hv) b r N _ _ _ rfl hrg ?_ ?_)
      | go_in)
    · intro hc0 hl0
      have hl : left = fun _ => false := funext hl0
      subst hl
      have hL : L.length = N := HT.out.all hl0 hown K9 hsz
      have hp7 := (HBl.out.block p hplt).trans H5P.out
      have c7 := cell_of hp7 1
      have f7 := frozen_p hp7 1
      have H7 := Lib.hid hp7
      have HSN : Hid (SMap Tryd.prog 9 EM wr w5.heap.size (fun y => (m y).map (sh n a)) N) := by
        have := HS.out.congr (movedN_all HD.out HT.out)
        rwa [hL] at this
      clear hp7 hL hrg HT HS
      go_wp2_with fail
      go_ret
      have hos : Only (fun k => k = p) wr (wr.setCell ⟨p, 1, none⟩ (.map (some w5.heap.size))) := Only.setCell _ _ _ _ rfl
      exact ⟨rfl, w5.heap.size, ⟨set_p1 H7.out, HSN.out.block (hos.block _ HSN.out.lt (fun e => by omega))⟩, (HO5.out.trans (Only.of_below HBl.out)).trans hos, HO5.out.size⟩
    · intro s c1 c2 kl y1 y2 w1 cnt1 hkey hlk hR hat hrg1 hlt hg1 hs1 hen
      obtain ⟨rfl, hsl⟩ := keyOf_str_eq Tryd.underlying9 hkey
      have hm0 : wr.rangeLeft b r = cnt := hrg.left_eq
      have hy : (y1, y2) = (EM.dat (c1, c2), []) := by rw [EM.put] at hR; exact (Option.some.inj hR).symm
      have hat2 := fun z => (hat z).trans (congrArg Prod.fst hy)
      have hT1 := HT.out.step hsl hlk (c := (c1, c2)) hat2
      have HT1 := Lib.hid hT1
      have hms := HD.out.at_ (x := s.data.toList) (by simpa using hsl) hat2
      have hmb1 := hmb _ _ hms
      obtain ⟨vw1, vw2⟩ := sh_bd hn2 hmb1
      have hnew : movedN (sh n a) m L s.data.toList = none := by
        unfold movedN
        rw [if_neg]
        intro hin
        have hnd := hT1.nodup
        rw [List.map_append, List.nodup_append] at hnd
        exact hnd.2.2 _ hin _ (by simp [nmOf]) rfl
      have hnx := movedN_next (sf := sh n a) (L := L) hms
      have HB1 : Hid (Below w5.heap.size w5 w1) := below_grown HBl.out (Nat.le_refl _) hg1 (fun j hj => by cases hj; exact hrw)
      have HS1 := Lib.hid (SMap.block HS.out (hg1.block w5.heap.size HS.out.lt (by simpa using hrb)))
      have hval : EM.val (c1, c2) = .agg #[.int .i64 c1, .int .i64 c2] := rfl
      rw [hval] at hen ⊢
      have hog : ∀ o, (w1.alloc o).cell? ⟨w.heap.size, 3, none⟩ = some (.int .i64 a) := fun o => cell_of ((Below.heap_alloc w1 o w.heap.size (Nat.lt_of_lt_of_le holt HB1.out.size)).trans ((HB1.out.block _ holt).trans HG5.out)) 3
      have hst := fun (o : Obj) => SMap.store (SMap.block HS1.out (Below.heap_alloc w1 o _ HS1.out.lt)) Tryd.underlying9 Tryd.underlying45 (by unfold maxLen; omega) hsl hnew (sh n a (c1, c2))
      have HST := Lib.hid hst
      have HNX := Lib.hid hnx
      have hmb2 := Lib.hid hmb1
      clear hT1 HT hrg HS hkey hlk hR hat hat2 hy hval hms hmb1 hnew hnx hst hs1 hg1 HBl
      by_cases q1 : a ≤ c1
      · have e1 : decide (a ≤ c1) = true := decide_eq_true q1
        by_cases q2 : a < c2
        · have e2 : decide (a < c2) = true := decide_eq_true q2
          have hsh : sh n a (c1, c2) = (c1 + n, c2 + n) := by simp [sh, q1, q2]
          rw [hsh] at HST HNX
          obtain ⟨W', hrun, hM, hturn⟩ := HST.out (.cells #[.int .i64 (c1 + (n : Int)), .int .i64 (c2 + (n : Int))] 50)
          rw [show EM.val (c1 + (n : Int), c2 + (n : Int)) = .agg #[.int .i64 (c1 + (n : Int)), .int .i64 (c2 + (n : Int))] from rfl] at hrun
          rw [HNX.out] at hM
          have hrg2 := (hrg1.alloc (.cells #[.int .i64 (c1 + (n : Int)), .int .i64 (c2 + (n : Int))] 50)).kept (grown_only (Only.turned hturn rfl)) (by simpa using hbne) (by simpa using hrb.symm)
          have HM := Lib.hid hM
          have HBW : Hid (Below w5.heap.size w5 W') := (HB1.out.alloc HB1.out.size _).trans ((Only.turned hturn rfl).below (by simp; exact Nat.le_succ_of_le HB1.out.size) (fun j hj => by rw [hj]; exact Nat.le_refl _))
          have HRG := Lib.hid hrg2
          clear hM hturn hrg1 hrg2 q1 q2 hsh HST HNX HS1
          go_wp2_with fail
          go_roundw
          case rel => exact ⟨_, cnt1, L ++ [(s, (c1, c2))], HRG.out, HT1, by rw [List.length_append]; exact HM.out, by simp; omega, HBW⟩
          case measure => rw [HRG.out.left_eq, hm0]; omega
        · have e2 : decide (a < c2) = false := decide_eq_false q2
          have hsh : sh n a (c1, c2) = (c1 + n, c2) := by simp [sh, q1, q2]
          rw [hsh] at HST HNX
          obtain ⟨W', hrun, hM, hturn⟩ := HST.out (.cells #[.int .i64 (c1 + (n : Int)), .int .i64 (c2)] 50)
          rw [show EM.val (c1 + (n : Int), c2) = .agg #[.int .i64 (c1 + (n : Int)), .int .i64 (c2)] from rfl] at hrun
          rw [HNX.out] at hM
          have hrg2 := (hrg1.alloc (.cells #[.int .i64 (c1 + (n : Int)), .int .i64 (c2)] 50)).kept (grown_only (Only.turned hturn rfl)) (by simpa using hbne) (by simpa using hrb.symm)
          have HM := Lib.hid hM
          have HBW : Hid (Below w5.heap.size w5 W') := (HB1.out.alloc HB1.out.size _).trans ((Only.turned hturn rfl).below (by simp; exact Nat.le_succ_of_le HB1.out.size) (fun j hj => by rw [hj]; exact Nat.le_refl _))
          have HRG := Lib.hid hrg2
          clear hM hturn hrg1 hrg2 q1 q2 hsh HST HNX HS1
          go_wp2_with fail
          go_roundw
          case rel => exact ⟨_, cnt1, L ++ [(s, (c1, c2))], HRG.out, HT1, by rw [List.length_append]; exact HM.out, by simp; omega, HBW⟩
          case measure => rw [HRG.out.left_eq, hm0]; omega
      · have e1 : decide (a ≤ c1) = false := decide_eq_false q1
        by_cases q2 : a < c2
        · have e2 : decide (a < c2) = true := decide_eq_true q2
          have hsh : sh n a (c1, c2) = (c1, c2 + n) := by simp [sh, q1, q2]
          rw [hsh] at HST HNX
          obtain ⟨W', hrun, hM, hturn⟩ := HST.out (.cells #[.int .i64 (c1), .int .i64 (c2 + (n : Int))] 50)
          rw [show EM.val (c1, c2 + (n : Int)) = .agg #[.int .i64 (c1), .int .i64 (c2 + (n : Int))] from rfl] at hrun
          rw [HNX.out] at hM
          have hrg2 := (hrg1.alloc (.cells #[.int .i64 (c1), .int .i64 (c2 + (n : Int))] 50)).kept (grown_only (Only.turned hturn rfl)) (by simpa using hbne) (by simpa using hrb.symm)
          have HM := Lib.hid hM
          have HBW : Hid (Below w5.heap.size w5 W') := (HB1.out.alloc HB1.out.size _).trans ((Only.turned hturn rfl).below (by simp; exact Nat.le_succ_of_le HB1.out.size) (fun j hj => by rw [hj]; exact Nat.le_refl _))
          have HRG := Lib.hid hrg2
          clear hM hturn hrg1 hrg2 q1 q2 hsh HST HNX HS1
          go_wp2_with fail
          go_roundw
          case rel => exact ⟨_, cnt1, L ++ [(s, (c1, c2))], HRG.out, HT1, by rw [List.length_append]; exact HM.out, by simp; omega, HBW⟩
          case measure => rw [HRG.out.left_eq, hm0]; omega
        · have e2 : decide (a < c2) = false := decide_eq_false q2
          have hsh : sh n a (c1, c2) = (c1, c2) := by simp [sh, q1, q2]
          rw [hsh] at HST HNX
          obtain ⟨W', hrun, hM, hturn⟩ := HST.out (.cells #[.int .i64 (c1), .int .i64 (c2)] 50)
          rw [show EM.val (c1, c2) = .agg #[.int .i64 (c1), .int .i64 (c2)] from rfl] at hrun
          rw [HNX.out] at hM
          have hrg2 := (hrg1.alloc (.cells #[.int .i64 (c1), .int .i64 (c2)] 50)).kept (grown_only (Only.turned hturn rfl)) (by simpa using hbne) (by simpa using hrb.symm)
          have HM := Lib.hid hM
          have HBW : Hid (Below w5.heap.size w5 W') := (HB1.out.alloc HB1.out.size _).trans ((Only.turned hturn rfl).below (by simp; exact Nat.le_succ_of_le HB1.out.size) (fun j hj => by rw [hj]; exact Nat.le_refl _))
          have HRG := Lib.hid hrg2
          clear hM hturn hrg1 hrg2 q1 q2 hsh HST HNX HS1
          go_wp2_with fail
          go_roundw
          case rel => exact ⟨_, cnt1, L ++ [(s, (c1, c2))], HRG.out, HT1, by rw [List.length_append]; exact HM.out, by simp; omega, HBW⟩
          case measure => rw [HRG.out.left_eq, hm0]; omega
end Go.Proofs.YtgiiiolnagddnaaDoorMar
end
section
namespace Go.Proofs.YtgiiiolnagddnaaDoorMar
open Go.RowKit Go.Maps
set_option linter.unusedSimpArgs false
set_option linter.unusedVariables false
theorem tmod_pick (k n : Int) (hn : 1 ≤ n) : (if k.tmod n < 0 then k.tmod n + n else k.tmod n) = k % n ∧ -n < k.tmod n ∧ k.tmod n < n := by
  have h0 := Int.emod_nonneg k (show n ≠ 0 by omega)
  have h1 := Int.emod_lt_of_pos k (show 0 < n by omega)
  have h2 : -n < k.tmod n := by
    have := Int.lt_tmod_of_pos k (show 0 < n by omega)
    exact this
  have h3 : k.tmod n < n := Int.tmod_lt_of_pos k (by omega)
  refine ⟨?_, h2, h3⟩
  have h4 := Int.tmod_eq_emod (a := k) (b := n)
  by_cases c : 0 ≤ k ∨ n ∣ k
  · rw [if_pos c] at h4
    rw [if_neg (by omega)]
    omega
  · rw [if_neg c] at h4
    have : (n.natAbs : Int) = n := by omega
    have h5 : k % n ≠ 0 := fun h => c (.inr (Int.dvd_of_emod_eq_zero h))
    rw [if_pos (by omega)]
    omega
set_option maxRecDepth 100000 in
theorem pick_calls (k n : Int) (hn : 1 ≤ n) (hn2 : n ≤ 2000) (w : World) : Calls Tryd.prog 4 #[.int .i64 k, .int .i64 n] w fun e w' => e = .returned (.int .i64 (k % n)) ∧ w' = w := by
  obtain ⟨h1, h2, h3⟩ := tmod_pick k n hn
  obtain ⟨r, hr⟩ : ∃ r, r = k % n := ⟨_, rfl⟩
  rw [← hr] at h1 ⊢
  obtain ⟨t, ht⟩ : ∃ t, k.tmod n = t := ⟨_, rfl⟩
  have n0 : (n == 0) = false := beq_eq_false_iff_ne.2 (by omega)
  have n0' : ¬ n = 0 := by omega
  rw [ht] at h1 h2 h3
  have w1 : IntKind.i64.wrap (k.tmod n) = t := by rw [ht]; exact (IntWalk.i64_left _).trans (small64 (by omega) (by omega))
  have w2 : wrap64 (k.tmod n) = t := by rw [ht]; exact small64 (by omega) (by omega)
  clear hr
  by_cases c : t < 0
  · have d : decide (t < 0) = true := decide_eq_true c
    rw [if_pos c] at h1
    subst h1
    go_enter Tryd.func4, Tryd.ntmps4
    go_wp2
    go_ret
    exact ⟨rfl, rfl⟩
  · have d : decide (t < 0) = false := decide_eq_false c
    rw [if_neg c] at h1
    subst h1
    go_enter Tryd.func4, Tryd.ntmps4
    go_wp2
    go_ret
    exact ⟨rfl, rfl⟩
theorem pick_to (k n r : Int) (hr : k % n = r) (hn : 1 ≤ n) (hn2 : n ≤ 2000) (w : World) : Calls Tryd.prog 4 #[.int .i64 k, .int .i64 n] w fun e w' => e = .returned (.int .i64 r) ∧ w' = w := hr ▸ pick_calls k n hn hn2 w
theorem Total_calls {p b N : Nat} {tot : Int} {m : List UInt8 → Option (Int × Int)} (w : World) (h : BookAt w p b tot m N) : Calls Tryd.prog 9 #[.pointer (some ⟨p, 0, none⟩)] w fun e w' => e = .returned (.int .i64 tot) ∧ w' = w := by
  have c0 := h.c0
  clear h
  go_enter Tryd.func9, Tryd.ntmps9
  go_wp2
  go_ret
  exact ⟨rfl, rfl⟩
theorem putE_ok {tot : Int} {m : List UInt8 → Option (Int × Int)} {N : Nat} {l : List UInt8} {lo hi : Int} (h : nameB l = true) (h2 : 0 ≤ lo ∧ lo < hi ∧ hi ≤ tot) (hm : m l = none) (hN : N < 256) : putE tot m N l lo hi = 0 := by
  have : ¬ (lo < 0 ∨ hi ≤ lo ∨ tot < hi) := by omega
  have : ¬ 256 ≤ N := by omega
  simp [putE, h, hm, *]
theorem set_k {W : World} {q : Nat} {k v : Value} {a : Int} {t : ByteArray} {rv : Value} (h : W.heap[q]? = some (.cells #[.int .i64 0, .int .i64 0, k, .int .i64 a, .string t, rv, .int .i64 0, .int .i64 0, .bool false] 37 (0, 0))) : (W.setCell ⟨q, 2, none⟩ v).heap[q]? = some (.cells #[.int .i64 0, .int .i64 0, v, .int .i64 a, .string t, rv, .int .i64 0, .int .i64 0, .bool false] 37 (0, 0)) := by
  simp [World.setCell, Array.getElem?_modify, h]
theorem frozen_k {W : World} {q : Nat} {cs : Array Value} {t : TypeId} (h : W.heap[q]? = some (.cells cs t (0, 0))) (i : Nat) : W.frozen? ⟨q, i, none⟩ = false := by
  simp [World.frozen?, h]
theorem eee : txt [233, 233, 233] = ⟨#[195, 169, 195, 169, 195, 169]⟩ := by rfl
theorem eee_txt : Txt [233, 233, 233] := by
  have h : ∀ r ∈ [(233 : Int), 233, 233], r = 233 := by simp
  exact ⟨fun r hr => by obtain rfl := h r hr; exact ⟨by omega, by omega, by omega, by omega, by omega, by omega, by omega, by decide⟩, fun r hr => by rw [h r hr]; decide, by decide, by decide⟩
theorem BarsAt.only {W W1 : World} {p : Nat} (h : BarsAt W) (hp : p ≠ 0) (ho : Only (fun k => k = p) W W1) : BarsAt W1 := by
  obtain ⟨t, fr, h⟩ := h
  exact ⟨t, fr, (ho.block 0 (Array.getElem?_eq_some_iff.1 h).1 (fun e => hp e.symm)).trans h⟩
set_option maxRecDepth 100000 in
set_option maxHeartbeats 4000000 in
theorem grow_calls (lo hi at_ : Int) {w : World} (hw : BarsAt w) : Calls Tryd.prog 3 #[.int .i64 lo, .int .i64 hi, .int .i64 at_] w fun e w' => e = .returned (.bool true) ∧ Below w.heap.size w w' := by
  obtain ⟨p, hp⟩ : ∃ p, p = w.heap.size + 1 := ⟨_, rfl⟩
  obtain ⟨b, hb⟩ : ∃ b, b = w.heap.size := ⟨_, rfl⟩
  have hN := New_calls 1000 (by decide) w
  rw [← hp, ← hb] at hN
  have h0 : p ≠ 0 := by omega
  have hpw : w.heap.size ≤ p := by omega
  have hbw : w.heap.size ≤ b := by omega
  have Hbe := Lib.hid hb
  have HW := Lib.hid hw
  obtain ⟨l1, hl1⟩ : ∃ l1, lo % 1000 = l1 := ⟨_, rfl⟩
  have l1a : 0 ≤ l1 := by omega
  have l1b : l1 < 1000 := by omega
  obtain ⟨r1, hr1⟩ : ∃ r1, hi % (1000 - l1) = r1 := ⟨_, rfl⟩
  have r1a : 0 ≤ r1 := by rw [← hr1]; exact Int.emod_nonneg _ (by omega)
  have r1b : r1 < 1000 - l1 := by rw [← hr1]; exact Int.emod_lt_of_pos _ (by omega)
  obtain ⟨a, ha⟩ : ∃ a, at_ % 1001 = a := ⟨_, rfl⟩
  have aa : 0 ≤ a := by omega
  have ab : a ≤ 1000 := by omega
  have hp1 := fun W => pick_to lo 1000 l1 hl1 (by omega) (by omega) W
  have hp2 := fun W => pick_to hi (1000 - l1) r1 hr1 (by omega) (by omega) W
  have hp3 := fun W => pick_to at_ 1001 a ha (by omega) (by omega) W
  clear hl1 hr1 ha hp hb hw
  go_enter Tryd.func3, Tryd.ntmps3
  go_upto_region 8 with (first
    | (go_at_call 4; refine (hp1 _).mono ?_; rintro e w' ⟨rfl, rfl⟩; clear hp1)
    | (go_at_call 4; refine (hp2 _).mono ?_; rintro e w' ⟨rfl, rfl⟩; clear hp2)
    | (go_at_call 4; refine (hp3 _).mono ?_; rintro e w' ⟨rfl, rfl⟩; clear hp3)
    | (go_at_call 5; refine hN.mono ?_; rintro e w1 ⟨rfl, hK1, hB1⟩))
  generalize hh1 : l1 + 1 + r1 = h1
  have h1a : l1 < h1 := by omega
  have h1b : h1 ≤ 1000 := by omega
  have hP := Put_calls w1 hK1 ⟨#[120]⟩ (by decide) l1 h1
  rw [show (ByteArray.mk #[120]).data.toList = [120] from rfl, putE_ok (by rfl) ⟨l1a, h1a, h1b⟩ rfl (by omega)] at hP
  simp only [if_true] at hP
  rw [Hbe.out] at hB1
  have HB1 := Lib.hid hB1
  clear hh1 r1a r1b hN hK1 hB1
  go_upto_region 13 with (go_at_call 6; refine hP.mono ?_; rintro e w2 ⟨rfl, hK2, ho2⟩)
  have hb3 := below1 w2 (opC 1 a ⟨#[195, 169, 195, 169, 195, 169]⟩ (.slice none 0 0))
  have hbars3 : BarsAt (w2.alloc (opC 1 a ⟨#[195, 169, 195, 169, 195, 169]⟩ (.slice none 0 0))) := by
    have k1 := HW.out.below HB1.out
    obtain ⟨t, fr, h⟩ := k1
    have hbz : b ≠ 0 := by have := HW.out.lt; omega
    have : BarsAt w2 := ⟨t, fr, (ho2.block 0 (Array.getElem?_eq_some_iff.1 h).1 (fun e => hbz e.symm)).trans h⟩
    exact this.below hb3
  have hF := Follow_ins _ (hK2.below hb3) (by omega) (by
    intro y c hc
    by_cases e : y = [120]
    · rw [if_pos e] at hc
      have := (Option.some.inj hc).symm
      subst this
      dsimp only
      omega
    · rw [if_neg e] at hc
      cases hc) eee_txt a ⟨aa, ab⟩ (by omega) hbars3 h0
  rw [eee, show ((([233, 233, 233] : List Int).length : Nat) : Int) = 3 from rfl, show (1000 : Int) + 3 = 1003 from rfl] at hF
  have HB2 := Lib.hid ((HB1.out.trans (ho2.below HB1.out.size (fun j hj => by rw [hj]; exact hbw))).alloc (Nat.le_trans HB1.out.size ho2.size) (opC 1 a ⟨#[195, 169, 195, 169, 195, 169]⟩ (.slice none 0 0)))
  have HR3 := Lib.hid hbars3
  clear hP hK2 ho2 hb3 hbars3 HB1
  go_upto_region 14 with (go_at_call 7; refine hF.mono ?_; rintro e w3 ⟨rfl, b2, hK3, ho3, hb2⟩)
  obtain ⟨⟨l2, h2⟩, hsh⟩ : ∃ c, sh 3 a (l1, h1) = c := ⟨_, rfl⟩
  have hM := Mark_calls _ hK3 ⟨#[120]⟩ (by decide)
  rw [show (ByteArray.mk #[120]).data.toList = [120] from rfl] at hM
  simp only [if_true, Option.map_some, hsh] at hM
  have HB3 := Lib.hid (HB2.out.trans (ho3.below HB2.out.size (fun j hj => by rw [hj]; exact hpw)))
  have HK3 := Lib.hid hK3
  have HR4 := Lib.hid (HR3.out.only h0 ho3)
  have HSH := Lib.hid hsh
  clear hF hK3 ho3 HB2 HR3 hsh
  go_upto_region 15 with (go_at_call 8; refine hM.mono ?_; rintro e w4 ⟨rfl, hb4⟩)
  have hb5 := hb4.alloc hb4.size (.cells #[.string ⟨#[120]⟩, .int .i64 l2, .int .i64 h2] 29)
  have hT := Total_calls _ (HK3.out.below hb5)
  have HB5 := Lib.hid (HB3.out.trans (hb5.mono HB3.out.size))
  have HK5 := Lib.hid (HK3.out.below hb5)
  have HR5 := Lib.hid (HR4.out.below hb5)
  have HM5 := Lib.hid (World.alloc_heap_new w4 (.cells #[.string ⟨#[120]⟩, .int .i64 l2, .int .i64 h2] 29))
  clear hM hb4 hb5 HB3 HK3 HR4
  go_upto_if 85 with (go_at_call 9; refine hT.mono ?_; rintro e w5 ⟨rfl, rfl⟩)
  have l2b : 0 ≤ l2 ∧ l2 < h2 ∧ h2 ≤ 1003 := by
    have e := HSH.out
    unfold sh at e
    dsimp only at e
    have e1 := (Prod.mk.inj e).1
    have e2 := (Prod.mk.inj e).2
    split at e1 <;> split at e2 <;> omega
  obtain ⟨l2a, l2c, l2d⟩ := l2b
  clear hT
  go_cut [0, 1] from 85 to 94 (fun v0 v1 wx => v0 = .int .i64 l2 ∧ v1 = .int .i64 h2 ∧ wx = w4.alloc (.cells #[.string ⟨#[120]⟩, .int .i64 l2, .int .i64 h2] 29))
  case first =>
    have e := HSH.out
    unfold sh at e
    dsimp only at e
    have e1 := (Prod.mk.inj e).1
    have e2 := (Prod.mk.inj e).2
    clear e
    by_cases c1 : a ≤ l1
    · have d1 : decide (a ≤ l1) = true := decide_eq_true c1
      rw [if_pos c1] at e1
      rw [if_pos (by omega)] at e2
      have E := Lib.hid (And.intro e1 e2)
      clear e1 e2
      go_wp2_with fail
      go_meet
      exact ⟨by rw [E.out.1], by rw [E.out.2], rfl⟩
    · have d1 : decide (a ≤ l1) = false := decide_eq_false c1
      rw [if_neg c1] at e1
      by_cases c2 : a < h1
      · have d2 : decide (a < h1) = true := decide_eq_true c2
        rw [if_pos c2] at e2
        have E := Lib.hid (And.intro e1 e2)
        clear e1 e2
        go_wp2_with fail
        go_meet
        exact ⟨by rw [E.out.1], by rw [E.out.2], rfl⟩
      · have d2 : decide (a < h1) = false := decide_eq_false c2
        rw [if_neg c2] at e2
        have E := Lib.hid (And.intro e1 e2)
        clear e1 e2
        go_wp2_with fail
        go_meet
        exact ⟨by rw [E.out.1], by rw [E.out.2], rfl⟩
  case rest =>
    obtain ⟨rfl, rfl, hX⟩ := hcut
    obtain ⟨g, hg⟩ : ∃ g, g = w4.heap.size := ⟨_, rfl⟩
    rw [← hX] at HB5 HK5 HR5 HM5
    rw [← hg] at HM5 ⊢
    clear hX hg
    go_upto_region 25 with fail
    have hrow := World.alloc_heap_new (wc.alloc (opC 2 0 ⟨#[]⟩ (.slice (some ⟨wc.heap.size + 1, 0, none⟩) 1 1))) (.cells #[.int .i64 l2, .int .i64 h2] 43)
    rw [World.size_alloc] at hrow
    have hop := (Below.heap_alloc (wc.alloc (opC 2 0 ⟨#[]⟩ (.slice (some ⟨wc.heap.size + 1, 0, none⟩) 1 1))) (.cells #[.int .i64 l2, .int .i64 h2] 43) wc.heap.size (by simp)).trans (World.alloc_heap_new wc (opC 2 0 ⟨#[]⟩ (.slice (some ⟨wc.heap.size + 1, 0, none⟩) 1 1)))
    have hb6 := below2 wc (opC 2 0 ⟨#[]⟩ (.slice (some ⟨wc.heap.size + 1, 0, none⟩) 1 1)) (.cells #[.int .i64 l2, .int .i64 h2] 43)
    generalize hX6 : (wc.alloc (opC 2 0 ⟨#[]⟩ (.slice (some ⟨wc.heap.size + 1, 0, none⟩) 1 1))).alloc (.cells #[.int .i64 l2, .int .i64 h2] 43) = X6 at hrow hop hb6 ⊢
    obtain ⟨q, hq⟩ : ∃ q, q = wc.heap.size := ⟨_, rfl⟩
    obtain ⟨q1, hq1⟩ : ∃ q1, q1 = wc.heap.size + 1 := ⟨_, rfl⟩
    rw [← hq1] at hrow hop ⊢
    rw [← hq] at hop ⊢
    have hgq : g < q := by rw [hq]; exact (Array.getElem?_eq_some_iff.1 HM5.out).1
    have HB6 := Lib.hid (HB5.out.trans (hb6.mono HB5.out.size))
    have hone6 : OneAt X6 q1 l2 h2 := hrow
    have hk6 := HK5.out.below hb6
    have HM6 := Lib.hid ((hb6.block g (Array.getElem?_eq_some_iff.1 HM5.out).1).trans HM5.out)
    have hF1 := Follow_cov _ hk6 2 (.inl rfl) q1 1 l2 h2 l2a l2c l2d (by omega) hone6
    have y0 := cell_of hop 0
    have y1 := cell_of hop 1
    have y2 := cell_of hop 2
    have y3 := cell_of hop 3
    have y4 := cell_of hop 4
    have y5 := cell_of hop 5
    have y6 := cell_of hop 6
    have y7 := cell_of hop 7
    have y8 := cell_of hop 8
    have HOP := Lib.hid hop
    have HK6 := Lib.hid hk6
    have HO6 := Lib.hid hone6
    have hpq : p < q := by rw [hq]; exact HK5.out.lt
    have hbq : b2 < q := by rw [hq]; exact HK5.out.2.lt
    have Hq1e := Lib.hid (show q1 = q + 1 by rw [hq1, hq])
    have HW6 := Lib.hid (show w'.heap.size ≤ q by rw [hq]; exact HB5.out.size)
    clear hX6 hq hq1 hrow hop hb6 hk6 hone6 HB5 HK5 HM5 HR5
    go_upto_region 26 with (go_at_call 7; refine hF1.mono ?_; rintro e w7 ⟨rfl, hb7⟩)
    have hop7 := (hb7.block q (Array.getElem?_eq_some_iff.1 HOP.out).1).trans HOP.out
    have y72 := cell_of hop7 2
    have f72 := frozen_k hop7 2
    have hs7 := set_k (v := .int .i64 3) hop7
    have ho7 : Only (fun k => k = q) w7 (w7.setCell ⟨q, 2, none⟩ (.int .i64 3)) := Only.setCell _ _ _ _ rfl
    have hk7 := HK6.out.below hb7
    have hk8 := hk7.only ho7 (by omega) (by omega)
    have hone7 := HO6.out.below hb7
    have hone8 : OneAt (w7.setCell ⟨q, 2, none⟩ (.int .i64 3)) q1 l2 h2 := (ho7.block q1 (Array.getElem?_eq_some_iff.1 hone7).1 (by have := Hq1e.out; omega)).trans hone7
    have hm7 := (hb7.block g (Array.getElem?_eq_some_iff.1 HM6.out).1).trans HM6.out
    have hm8 := (ho7.block g (Array.getElem?_eq_some_iff.1 hm7).1 (by omega)).trans hm7
    have hB8 := (HB6.out.trans (hb7.mono HB6.out.size)).trans (ho7.below (Nat.le_trans HB6.out.size hb7.size) (fun j hj => by rw [hj]; exact HW6.out))
    have HO7 := Lib.hid (And.intro hs7 (And.intro hk8 (And.intro hone8 (And.intro hm8 hB8))))
    clear hop7 hs7 ho7 hk7 hk8 hone7 hone8 hm7 hm8 hB8 hb7 hF1 y0 y1 y2 y3 y4 y5 y6 y7 y8 HB6 HK6 HO6 HM6
    go_upto_region 27 with fail
    generalize hX8 : w7.setCell ⟨q, 2, none⟩ (.int .i64 3) = X8 at HO7 ⊢
    clear hX8 y72 f72
    obtain ⟨hs8, hk8, hone8, hm8, hB8⟩ := HO7.out
    have hF2 := Follow_cov _ hk8 3 (.inr rfl) q1 1 l2 h2 l2a l2c l2d (by omega) hone8
    have y0 := cell_of hs8 0
    have y1 := cell_of hs8 1
    have y2 := cell_of hs8 2
    have y3 := cell_of hs8 3
    have y4 := cell_of hs8 4
    have y5 := cell_of hs8 5
    have y6 := cell_of hs8 6
    have y7 := cell_of hs8 7
    have y8 := cell_of hs8 8
    have HK8 := Lib.hid hk8
    have HM8 := Lib.hid hm8
    have HB8 := Lib.hid hB8
    clear HO7 hs8 hk8 hone8 hm8 hB8
    go_upto_region 28 with (go_at_call 7; refine hF2.mono ?_; rintro e w9 ⟨rfl, hb9⟩)
    have hF3 := Follow_none (.pointer (some ⟨p, 0, none⟩)) none 0 w9
    clear hF2 y0 y1 y2 y3 y4 y5 y6 y7 y8
    go_upto_region 29 with (go_at_call 7; refine hF3.mono ?_; rintro e w10 ⟨rfl, hb10⟩)
    have hF4 := Follow_none (.pointer (some ⟨p, 0, none⟩)) (some ⟨w10.heap.size, 0, none⟩) 0 (w10.alloc (.cells #[] 43))
    clear hF3
    go_upto_region 30 with (go_at_call 7; refine hF4.mono ?_; rintro e w12 ⟨rfl, hb12⟩)
    have hb12a := ((hb9.trans (hb10.mono hb9.size)).alloc (Nat.le_trans hb9.size hb10.size) (.cells #[] 43))
    have hb12b := hb12a.trans (hb12.mono hb12a.size)
    have hk12 := HK8.out.below hb12b
    have hM2 := Mark_calls _ hk12 ⟨#[120]⟩ (by decide)
    rw [show (ByteArray.mk #[120]).data.toList = [120] from rfl] at hM2
    simp only [if_true, Option.map_some, HSH.out] at hM2
    have HB12 := Lib.hid hb12b
    clear hF4 hb9 hb10 hb12 hb12a hb12b hk12
    go_upto_region 31 with (go_at_call 8; refine hM2.mono ?_; rintro e w13 ⟨rfl, hb13⟩)
    have hb14 := (HB12.out.trans (hb13.mono HB12.out.size)).alloc (Nat.le_trans HB12.out.size hb13.size) (.cells #[.string ⟨#[120]⟩, .int .i64 l2, .int .i64 h2] 29)
    have hT2 := Total_calls _ (HK8.out.below hb14)
    have hm14 := (hb14.block g (Array.getElem?_eq_some_iff.1 HM8.out).1).trans HM8.out
    have x0 := cell_of hm14 0
    have x1 := cell_of hm14 1
    have x2 := cell_of hm14 2
    have HB14 := Lib.hid (HB8.out.trans (hb14.mono HB8.out.size))
    clear hM2 hb13 hb14 hm14
    go_wp2_with (go_at_call 9; refine hT2.mono ?_; rintro e w15 ⟨rfl, rfl⟩)
    go_ret
    exact ⟨rfl, HB14.out⟩
end Go.Proofs.YtgiiiolnagddnaaDoorMar
end
