/- Proved: the sequence of Cells gives the cells as they stood when it was made; for all inputs. -/
import Derived.RangeFuncNested
import Derived.RangeFuncWrites
import Derived.RangeFuncBox
import Derived.Sort.QuietIn
import Derived.OwnWalkIn
import Derived.LoopN
import Derived.StillTailTactics
import Derived.Deep.CutBlock
import Derived.Deep.RegionHeld3
import Derived.LoopNIn
import Derived.Test.YteeigokkafcaaaaDoorClaimSequence2
section
namespace Go.Proofs.YteeigokkafcaaaaDoorRope
open Go.RowKit Go.Proofs.YteeigokkafcaaaaDoorW.PrintWords Go.Proofs.YteeigokkafcaaaaDoorW.PrintMore
set_option linter.unusedSimpArgs false
set_option linter.unusedVariables false
abbrev Bld (B b : Nat) (acc : List Int) (W : World) : Prop := Lib.IsBuilderF 118 5 B b (Lib.byteCells (utf acc)) W
theorem grown_of_below {W W' : World} (h : Below W.heap.size W W') : W.grownBy W' none := ⟨h.os, h.tape, h.output, h.size, fun k hk _ => h.block k hk⟩
theorem Bld.below {B b : Nat} {acc : List Int} {W W' : World} (h : Bld B b acc W) (hb : Below W.heap.size W W') : Bld B b acc W' := by
  refine h.imp ?_ ?_ <;>
    · rintro ⟨hB, v, hv, hown, hne⟩
      exact ⟨hB, v, (hb.block _ (new_lt hv)).trans hv, hown.kept (grown_of_below hb) (by cases hv : v.ownBlock <;> simp), hne⟩
theorem Bld.at {B b : Nat} {acc : List Int} {W : World} (h : Bld B b acc W) : B ≤ b ∧ ∃ c, W.heap[b]? = some (Obj.cells c 118 (0, 0)) := by
  rcases h with ⟨hB, v, hv, _⟩ | ⟨hB, v, hv, _⟩ <;> exact ⟨hB, _, hv⟩
structure KpB (B b : Nat) (W W' : World) : Prop where
  bl : Below B W W'
  o : Lib.OthersKept 5 (some b) W W'
theorem KpB.refl (B b : Nat) (W : World) : KpB B b W W := ⟨Below.refl _ _, Lib.OthersKept.refl _ _ _⟩
theorem KpB.trans {B b : Nat} {A W W' : World} (h : KpB B b A W) (k : KpB B b W W') : KpB B b A W' := ⟨h.bl.trans k.bl, h.o.trans k.o⟩
theorem KpB.of {B b : Nat} {W W' : World} (h : Below W.heap.size W W') (hB : B ≤ W.heap.size) : KpB B b W W' := ⟨h.mono hB, fun k o hk _ _ => (h.block k (new_lt hk)).trans hk⟩
theorem KpB.cells {B b : Nat} {W W' : World} (h : KpB B b W W') {k : Nat} {c : Array Value} {ty : Nat} {f : Nat × Nat} (hk : W.heap[k]? = some (Obj.cells c ty f)) (hty : ty ≠ 5) (hb : k ≠ b) : W'.heap[k]? = some (Obj.cells c ty f) :=
  h.o k _ hk (by simpa using hb) (fun c' f' e => by injection e with _ e _; exact hty e)
theorem KpB.kpw {B b : Nat} {W W' : World} (h : KpB B b W W') {c0 : Array Value} (hb : W.heap[b]? = some (Obj.cells c0 118 (0, 0))) : KpW B W W' :=
  ⟨h.bl, fun k c ty hty hk => h.cells hk (by rcases hty with rfl | rfl <;> decide) (by
    rintro rfl
    rw [hb] at hk
    injection hk with hk
    injection hk with _ hk _
    rcases hty with rfl | rfl <;> exact absurd hk (by decide))⟩
theorem utf_take {rs : List Int} {k : Nat} (hk : k < rs.length) : utf (rs.take (k + 1)) = utf (rs.take k) ++ Lib.encodeRune rs[k] := by
  rw [List.take_succ_eq_append_getElem hk, utf_append, utf_cons]
  simp [utf]
theorem byte_take {acc rs : List Int} {k : Nat} (hk : k < rs.length) : Lib.byteCells (utf (acc ++ rs.take k)) ++ Lib.runeCells rs[k] = Lib.byteCells (utf (acc ++ rs.take (k + 1))) := by
  rw [utf_append, utf_append, utf_take hk, Lib.byteCells_append, Lib.byteCells_append, Lib.byteCells_append, Lib.byteCells_encodeRune, List.append_assoc]
theorem byte_len (l : List Int) : (Lib.byteCells (utf l)).length ≤ 4 * l.length := by
  rw [Lib.byteCells_length]
  exact (utf_len l).2
set_option maxRecDepth 100000 in
set_option maxHeartbeats 8000000 in
theorem slice1_calls {B b : Nat} {acc rs : List Int} {A : Option Addr} {c : Nat} {W : World} (x : Int) (hr : RunesAt W A rs) (hA : ∀ ad, A = some ad → ad.block < B) (hrn : ∀ r ∈ rs, Rn r) (h : Bld B b acc W) (hB : B ≤ W.heap.size) (hl : acc.length + rs.length ≤ 2097152) :
    Calls Tryd.prog 71 #[.int .i64 x, .slice A rs.length c, .pointer (some ⟨b, 0, none⟩)] W fun e w' => e = .returned (.tuple #[]) ∧ Bld B b (acc ++ rs) w' ∧ KpB B b W w' := by
  have HRN := Lib.hid hrn
  have HL := Lib.hid hl
  have bl : (rs.length : Int) ≤ 2097152 := by omega
  clear hrn hl
  go_enter Tryd.func71, Tryd.ntmps71
  go_wp2
  go_loopw [9] (fun i wr => ∃ k : Nat, k ≤ rs.length ∧ i = .int .i64 (k : Int) ∧ Bld B b (acc ++ rs.take k) wr ∧ KpB B b W wr) (fun i _ => rs.length - (intOf i).toNat)
  case atStart => exact ⟨0, Nat.zero_le _, rfl, by simpa using h, KpB.refl _ _ _⟩
  case round =>
    obtain ⟨k, hkl, rfl, hI, hK⟩ := hrel
    by_cases hlt : k < rs.length
    · obtain ⟨ad, hAd, y0⟩ := Kd.at_int (hr.move (fun ad e _ => hK.bl.block _ (hA ad e))) (k : Int) (by omega) (by omega)
      subst hAd
      have e1 : rd rs (k : Int) = rs[k] := by
        show rs.getD (k : Int).toNat 0 = rs[k]
        rw [Int.toNat_natCast, List.getD_eq_getElem?_getD, List.getElem?_eq_getElem hlt]
        rfl
      rw [e1, Int.toNat_natCast] at y0
      have hR := HRN.out _ (List.getElem_mem hlt)
      have hbt := byte_take (acc := acc) hlt
      have hlen : (Lib.byteCells (utf (acc ++ rs.take k))).length + 4 ≤ 140737488355328 := by
        have := byte_len (acc ++ rs.take k)
        rw [List.length_append, List.length_take] at this
        have := HL.out
        omega
      obtain ⟨r, hr'⟩ : ∃ r, r = rs[k] := ⟨_, rfl⟩
      rw [← hr'] at y0 hR hbt
      have HBT := Lib.hid hbt
      have hBw : B ≤ wr.heap.size := Nat.le_trans hB hK.bl.size
      clear hbt hr' e1
      obtain ⟨r0, r1, r2⟩ := hR
      have r3 : -2147483648 ≤ r := by omega
      have r4 : r ≤ 2147483647 := by omega
      clear r0 r1 r2
      go_wp2_with (go_at_call 67; refine (Tryd.Builder_WriteRune_k B b _ r r3 r4 _ hI hlen hBw).mono ?_; rintro e w2 ⟨rfl, h2, b2, k2⟩)
      go_roundw
      case rel => exact ⟨k + 1, hlt, by go_num, by unfold Bld; rw [← HBT.out]; exact .inr h2, hK.trans ⟨b2, k2⟩⟩
      case measure => simp [intOf]; omega
    · obtain rfl : k = rs.length := by omega
      rw [List.take_length] at hI
      clear hlt hkl
      have d1 : decide (rs.length < rs.length) = false := decide_eq_false (Nat.lt_irrefl _)
      go_wp2
      go_end0
      exact ⟨rfl, hI, hK⟩
end Go.Proofs.YteeigokkafcaaaaDoorRope
end
section
namespace Go.Proofs.YteeigokkafcaaaaDoorRope
open Go.RowKit Go.Proofs.YteeigokkafcaaaaDoorW.PrintWords Go.Proofs.YteeigokkafcaaaaDoorW.PrintMore
set_option linter.unusedSimpArgs false
set_option linter.unusedVariables false
def vp (C : List (Int × Int)) (f : Nat) : Nat → List Nat
  | 0 => []
  | q + 1 => vp C f q ++ (if f ≤ q ∧ (C.getD q (0, 1)).2 = 0 then [q] else [])
theorem vp_mem {C : List (Int × Int)} {f : Nat} : ∀ {q p : Nat}, p ∈ vp C f q → f ≤ p ∧ p < q ∧ (C.getD p (0, 1)).2 = 0 := by
  intro q
  induction q with
  | zero => intro p h; simp [vp] at h
  | succ q ih =>
    intro p h
    rw [vp, List.mem_append] at h
    rcases h with h | h
    · have := ih h
      exact ⟨this.1, by omega, this.2.2⟩
    · by_cases c : f ≤ q ∧ (C.getD q (0, 1)).2 = 0
      · rw [if_pos c] at h
        obtain rfl : p = q := by simpa using h
        exact ⟨c.1, by omega, c.2⟩
      · rw [if_neg c] at h
        simp at h
theorem vp_none {C : List (Int × Int)} {f : Nat} : ∀ {q : Nat}, q ≤ f → vp C f q = [] := by
  intro q
  induction q with
  | zero => intro _; rfl
  | succ q ih =>
    intro h
    rw [vp, ih (by omega), if_neg (by omega)]
    rfl
theorem vp_more {C : List (Int × Int)} {f : Nat} (q : Nat) : ∀ n, ∃ Z, vp C f (q + n) = vp C f q ++ Z := by
  intro n
  induction n with
  | zero => exact ⟨[], by simp⟩
  | succ n ih =>
    obtain ⟨Z, hZ⟩ := ih
    exact ⟨Z ++ (if f ≤ q + n ∧ (C.getD (q + n) (0, 1)).2 = 0 then [q + n] else []), by rw [← Nat.add_assoc, vp, hZ, List.append_assoc]⟩
theorem At.get {C : List (Int × Int)} {a : Nat} {s : List (Int × Int)} (h : At C a s) {j : Nat} (hj : j < s.length) : C[a + j]? = some s[j] := by
  obtain ⟨X, Y, rfl, rfl⟩ := h
  rw [List.append_assoc, List.getElem?_append_right (by omega), Nat.add_sub_cancel_left, List.getElem?_append_left hj, List.getElem?_eq_getElem hj]
theorem vp_step {C : List (Int × Int)} {f a : Nat} {rs : List Int} {hid : Int} (h : At C a (rs.map (fun c => (c, hid)))) : ∀ j, j ≤ rs.length → vp C f (a + j) = vp C f a ++ (if hid = 0 then List.range' (a + (f - a)) (j - (f - a)) else []) := by
  intro j
  induction j with
  | zero => intro _; by_cases c : hid = 0 <;> simp [c]
  | succ j ih =>
    intro hj
    have hg := h.get (j := j) (by rw [List.length_map]; omega)
    rw [List.getElem_map] at hg
    have hd : (C.getD (a + j) (0, 1)).2 = hid := by rw [List.getD_eq_getElem?_getD, hg]; rfl
    rw [← Nat.add_assoc, vp, ih (by omega), hd, List.append_assoc]
    congr 1
    by_cases c : hid = 0
    · rw [if_pos c, if_pos c]
      by_cases d : f - a ≤ j
      · rw [if_pos ⟨by omega, c⟩, show j + 1 - (f - a) = (j - (f - a)) + 1 by omega, List.range'_concat]
        congr 2
        omega
      · rw [if_neg (by omega), show j + 1 - (f - a) = 0 by omega, show j - (f - a) = 0 by omega]
        rfl
    · rw [if_neg c, if_neg c, if_neg (fun e => c e.2)]
      rfl
theorem vp_split {C : List (Int × Int)} (f : Nat) : ∀ n, vp C 0 (f + n) = vp C 0 f ++ vp C f (f + n) := by
  intro n
  induction n with
  | zero => rw [Nat.add_zero, vp_none (Nat.le_refl f), List.append_nil]
  | succ n ih =>
    rw [← Nat.add_assoc, vp, ih, vp, List.append_assoc]
    congr 2
    by_cases c : (C.getD (f + n) (0, 1)).2 = 0
    · rw [if_pos ⟨by omega, c⟩, if_pos ⟨by omega, c⟩]
    · rw [if_neg (fun e => c e.2), if_neg (fun e => c e.2)]
theorem vp_len {C : List (Int × Int)} : ∀ q, q ≤ C.length → (vp C 0 q).length = vis (C.take q) := by
  intro q
  induction q with
  | zero => intro _; simp [vp, vis]
  | succ q ih =>
    intro hq
    rw [vp, List.length_append, ih (by omega), List.take_succ_eq_append_getElem (by omega), vis_append]
    congr 1
    have hd : C.getD q (0, 1) = C[q] := by rw [List.getD_eq_getElem?_getD, List.getElem?_eq_getElem (by omega)]; rfl
    rw [hd]
    by_cases c : C[q].2 = 0
    · rw [if_pos ⟨by omega, c⟩]
      simp [vis, c]
    · rw [if_neg (fun e => c e.2)]
      simp [vis, c]
def visR (C : List (Int × Int)) : List Int := (C.filter (fun c => c.2 == 0)).map (·.1)
def rnAt (C : List (Int × Int)) (p : Nat) : Int := (C.getD p (0, 0)).1
theorem vp_runes {C : List (Int × Int)} : ∀ q, q ≤ C.length → (vp C 0 q).map (rnAt C) = visR (C.take q) := by
  intro q
  induction q with
  | zero => intro _; simp [vp, visR]
  | succ q ih =>
    intro hq
    have hd : C.getD q (0, 1) = C[q] := by rw [List.getD_eq_getElem?_getD, List.getElem?_eq_getElem (by omega)]; rfl
    have hr : rnAt C q = C[q].1 := by rw [rnAt, List.getD_eq_getElem?_getD, List.getElem?_eq_getElem (by omega)]; rfl
    rw [vp, List.map_append, ih (by omega), List.take_succ_eq_append_getElem (by omega), hd]
    unfold visR
    rw [List.filter_append, List.map_append]
    congr 1
    by_cases c : C[q].2 = 0
    · rw [if_pos ⟨by omega, c⟩]
      simp [c, hr]
    · rw [if_neg (fun e => c e.2)]
      simp [c]
theorem vp_from {C : List (Int × Int)} {lo : Nat} (h : lo ≤ vis C) : vp C (nth0 C lo) C.length = (vp C 0 C.length).drop lo := by
  have h1 := nth0_le C lo
  have h2 := vp_split (C := C) (nth0 C lo) (C.length - nth0 C lo)
  rw [show nth0 C lo + (C.length - nth0 C lo) = C.length by omega] at h2
  have h3 := vp_len (C := C) (nth0 C lo) h1
  rw [vis_nth0 _ _ h] at h3
  rw [h2]
  exact (List.drop_left' h3).symm
theorem vp_from_runes {C : List (Int × Int)} {lo : Nat} (h : lo ≤ vis C) (m : Nat) : ((vp C (nth0 C lo) C.length).take m).map (rnAt C) = ((visR C).drop lo).take m := by
  rw [vp_from h, List.map_take, List.map_drop, vp_runes _ (Nat.le_refl _), List.take_length]
theorem visR_len (C : List (Int × Int)) : (visR C).length = vis C := by simp [visR, vis]
end Go.Proofs.YteeigokkafcaaaaDoorRope
end
section
namespace Go.Proofs.YteeigokkafcaaaaDoorRope
open Go.RowKit Go.Proofs.YteeigokkafcaaaaDoorW.PrintWords Go.Proofs.YteeigokkafcaaaaDoorW.PrintMore
set_option linter.unusedSimpArgs false
set_option linter.unusedVariables false
attribute [local go_sem] max2_int min2_int
structure KpI (B : Nat) (W W' : World) : Prop where
  bl : Below B W W'
  n : ∀ (k : Nat) (c : Array Value) (ty : Nat), ty = 153 ∨ ty = 113 ∨ ty = 3 ∨ ty = 128 → W.heap[k]? = some (Obj.cells c ty (0, 0)) → W'.heap[k]? = some (Obj.cells c ty (0, 0))
theorem KpB.kpi {B b : Nat} {W W' : World} (h : KpB B b W W') {c0 : Array Value} (hb : W.heap[b]? = some (Obj.cells c0 118 (0, 0))) : KpI B W W' :=
  ⟨h.bl, fun k c ty hty hk => h.cells hk (by rcases hty with rfl | rfl | rfl | rfl <;> decide) (by
    rintro rfl
    rw [hb] at hk
    injection hk with hk
    injection hk with _ hk _
    rcases hty with rfl | rfl | rfl | rfl <;> exact absurd hk (by decide))⟩
theorem KpI.kpw {B : Nat} {W W' : World} (h : KpI B W W') : KpW B W W' := ⟨h.bl, fun k c ty hty hk => h.n k c ty (hty.elim .inl (fun e => .inr (.inl e))) hk⟩
theorem cells1k {W : World} {g k : Nat} {a : Value} (h : W.heap[g]? = some (.cells #[a] k (0, 0))) : W.cell? ⟨g, 0, none⟩ = some a ∧ W.frozen? ⟨g, 0, none⟩ = false := by
  simp [World.cell?, World.frozen?, h]
theorem set1k {W : World} {g k : Nat} {a v : Value} (h : W.heap[g]? = some (.cells #[a] k (0, 0))) : (W.setCell ⟨g, 0, none⟩ v).heap[g]? = some (.cells #[v] k (0, 0)) := by
  simp [World.setCell, Array.getElem?_modify, h]
theorem set_other {W : World} {g k : Nat} {v : Value} {o : Obj} (h : W.heap[k]? = some o) (hne : k ≠ g) : (W.setCell ⟨g, 0, none⟩ v).heap[k]? = some o := by
  rw [Below.heap_setCell _ _ _ _ (fun e => hne e)]
  exact h
theorem ty_ne {W : World} {k g : Nat} {c c' : Array Value} {t t' : Nat} (h : W.heap[k]? = some (Obj.cells c t (0, 0))) (h' : W.heap[g]? = some (Obj.cells c' t' (0, 0))) (ht : t ≠ t') : k ≠ g := by
  rintro rfl
  rw [h] at h'
  injection h' with h'
  injection h' with _ h' _
  exact ht h'
theorem KpW.set {B : Nat} {W : World} {g : Nat} {c : Array Value} {v : Value} (hB : B ≤ g) (h : W.heap[g]? = some (Obj.cells c 3 (0, 0))) : KpW B W (W.setCell ⟨g, 0, none⟩ v) :=
  ⟨(Below.refl B W).setCell (p := ⟨g, 0, none⟩) hB v, fun k c' ty hty hk => set_other hk (ty_ne hk h (by rcases hty with rfl | rfl <;> decide))⟩
structure Btw (B f m F L G : Nat) (fv : Value) (w : World) (In : List Nat → World → Prop) (ps : List Nat) (W : World) : Prop where
  i : In ps W
  len : ps.length < m
  hF : W.heap[F]? = some (.cells #[.int .i64 (f : Int)] 3 (0, 0))
  hL : W.heap[L]? = some (.cells #[.int .i64 ((m - ps.length : Nat) : Int)] 3 (0, 0))
  hG : W.heap[G]? = some (.cells #[fv] 128 (0, 0))
  b : Below B w W
structure Inner (B g : Nat) (C : List (Int × Int)) (cap : Value) (In : List Nat → World → Prop) : Prop where
  below : ∀ ps W W', In ps W → Below W.heap.size W W' → In ps W'
  set : ∀ ps (W : World) (k : Nat) (c : Array Value) (v : Value), In ps W → W.heap[k]? = some (Obj.cells c 3 (0, 0)) → In ps (W.setCell ⟨k, 0, none⟩ v)
  call : ∀ (ps : List Nat) (x : Int) (a : Nat) (rs : List Int) (A : Option Addr) (c : Nat) (W : World), x = (a : Int) → In ps W → (∀ p ∈ ps, p < a) → (∀ j (h : j < rs.length), C[a + j]? = some (rs[j], 0)) → 0 < rs.length → ps.length + rs.length ≤ 2097152 → RunesAt W A rs → (∀ ad, A = some ad → ad.block < B) → B ≤ W.heap.size → rs.length ≤ c →
    Calls Tryd.prog g #[.int .i64 x, .slice A rs.length c, cap] W fun e w' => e = .returned (.tuple #[]) ∧ In (ps ++ List.range' a rs.length) w' ∧ KpI B W w'
section
variable {B : Nat} {C : List (Int × Int)} {cap : Value} {In : List Nat → World → Prop} {w : World} {f m F L G : Nat}
set_option maxRecDepth 100000 in
set_option maxHeartbeats 16000000 in
theorem see101_71 (hC : C.length ≤ 1048576) (hI : Inner B 71 C cap In) (hF : B ≤ F) (hL : B ≤ L) (hLF : L ≠ F) (hm : m ≤ 1048576) (at_ : Nat) (p : Pc) (W : World) {ps : List Nat} (hps : ps = vp C f at_) (hj : Btw B f m F L G (.func (.func 71) #[] #[cap]) w In ps W) (hlo : f < at_ + p.rs.length) (ha : At C at_ p.cells) (hr : RunesAt W p.A p.rs) (hA : ∀ ad, p.A = some ad → ad.block < B) (hc : p.rs.length ≤ p.c) (hne : p.rs ≠ []) (hh : 0 ≤ p.hid) (hB : B ≤ W.heap.size) :
    Calls Tryd.prog 101 #[.int .i64 (at_ : Int), .agg #[.slice p.A p.rs.length p.c, .int .i64 p.hid], .pointer (some ⟨F, 0, none⟩), .pointer (some ⟨L, 0, none⟩), .pointer (some ⟨G, 0, none⟩)] W fun e w' => (e = .returned (.bool true) ∧ Btw B f m F L G (.func (.func 71) #[] #[cap]) w In (vp C f (at_ + p.rs.length)) w' ∧ KpW B W w') ∨ (e = .returned (.bool false) ∧ In ((vp C f C.length).take m) w' ∧ Below B w w' ∧ w'.heap[F]? = some (.cells #[.int .i64 (f : Int)] 3 (0, 0))) := by
  obtain ⟨rs, hid, A, c⟩ := p
  dsimp only at *
  have hle := ha.le
  rw [show (Pc.cells ⟨rs, hid, A, c⟩).length = rs.length from by simp [Pc.cells]] at hle
  have hstep := vp_step (f := f) (show At C at_ (rs.map (fun c => (c, hid))) from ha) rs.length (Nat.le_refl _)
  obtain ⟨hin, hlen, bF, bL, bG, bw⟩ := hj
  by_cases c1 : hid = 0
  · have d1 : decide ((0 : Int) < hid) = false := decide_eq_false (by omega)
    rw [if_pos c1] at hstep
    subst c1
    have hz : 0 < rs.length := List.length_pos_iff.2 hne
    obtain ⟨ad, hAd⟩ : ∃ ad, A = some ad := by
      obtain ⟨ad, e, _⟩ := hr.2.2 hz
      exact ⟨ad, e⟩
    subst hAd
    obtain ⟨cut, hcut⟩ : ∃ cut, cut = f - at_ := ⟨_, rfl⟩
    rw [← hcut] at hstep
    obtain ⟨n1, hn1⟩ : ∃ n1, rs.length - cut = n1 := ⟨_, rfl⟩
    obtain ⟨lf, hlf⟩ : ∃ lf, lf = m - ps.length := ⟨_, rfl⟩
    rw [← hlf] at bL
    obtain ⟨j, hj⟩ : ∃ j, j = min n1 lf := ⟨_, rfl⟩
    obtain ⟨x, hx⟩ : ∃ x : Int, (f : Int) - (at_ : Int) = x := ⟨_, rfl⟩
    have wx : IntKind.i64.wrap ((f : Int) - (at_ : Int)) = x := ((IntWalk.i64_left _).trans (w64 (by omega) (by omega))).trans hx
    have WX := Lib.hid wx
    clear wx
    have ex : max 0 x = (cut : Int) := by omega
    have ej : min (lf : Int) (n1 : Int) = (j : Int) := by omega
    have EX := Lib.hid ex
    have EJ := Lib.hid ej
    clear ex ej
    have hck : (c = cut) = False := by simp; omega
    have hck2 : (c == cut) = false := by simp; omega
    have kc : (cut : Int) ≤ (c : Int) := by omega
    have kl : (cut : Int) ≤ (rs.length : Int) := by omega
    have jl : (j : Int) ≤ (n1 : Int) := by omega
    have j0 : 0 < j := by omega
    have jl2 : (j : Int) ≤ ((c - cut : Nat) : Int) := by omega
    have b1 : (at_ : Int) + (cut : Int) ≤ 1048576 := by omega
    have hdr : RunesAt W (some (ad.add cut)) (rs.drop cut) := by
      have hd := Kd.C_drop hr (m := cut) (c := c) (by omega) hc
      rw [if_neg (by omega), show cut * (Kd.int IntKind.i32).sz = cut from Nat.mul_one cut] at hd
      exact hd
    have hdt : RunesAt W (some (ad.add cut)) ((rs.drop cut).take j) := Kd.C_take hdr (by rw [List.length_drop]; omega)
    have hdl : ((rs.drop cut).take j).length = j := by rw [List.length_take, List.length_drop]; omega
    obtain ⟨rj, hrj⟩ : ∃ rj, rj = (rs.drop cut).take j := ⟨_, rfl⟩
    rw [← hrj] at hdt hdl
    have hcell : ∀ i (h : i < rj.length), C[at_ + cut + i]? = some (rj[i], 0) := by
      intro i h
      have h2 := ha.get (j := cut + i) (by simp [Pc.cells]; omega)
      rw [← Nat.add_assoc] at h2
      rw [h2]
      simp [Pc.cells, hrj]
    have hlow : ∀ p ∈ ps, p < at_ + cut := by
      intro p hp
      rw [hps] at hp
      have := (vp_mem hp).2.1
      omega
    have hAc : ∀ ad', some (ad.add cut) = some ad' → ad'.block < B := by
      intro ad' e
      injection e with e
      rw [← e, add_block]
      exact hA ad rfl
    obtain ⟨W1, hW1⟩ : ∃ W1, W.alloc (.cells #[.slice (some ad) rs.length c, .int .i64 0] 113) = W1 := ⟨_, rfl⟩
    have hb1 : Below W.heap.size W W1 := by rw [← hW1]; exact below_alloc (Below.refl _ W) _
    have z0 : W1.cell? ⟨W.heap.size, 0, none⟩ = some (.slice (some ad) rs.length c) := by rw [← hW1]; simp
    have z1 : W1.cell? ⟨W.heap.size, 1, none⟩ = some (.int .i64 0) := by rw [← hW1]; simp
    have q1 := (hb1.block _ (new_lt bF)).trans bF
    have q2 := (hb1.block _ (new_lt bL)).trans bL
    have q3 := (hb1.block _ (new_lt bG)).trans bG
    obtain ⟨y1, _⟩ := cells1k q1
    obtain ⟨y2, _⟩ := cells1k q2
    obtain ⟨y3, _⟩ := cells1k q3
    have hB1 := Nat.le_trans hB hb1.size
    have hcall := hI.call ps ((at_ : Int) + (cut : Int)) (at_ + cut) rj (some (ad.add cut)) (c - cut) W1 (by omega) (hI.below _ _ _ hin hb1) hlow hcell (by omega) (by omega) (Kd.C_below hdt hb1) hAc hB1 (by omega)
    rw [hdl] at hcall
    have wz : IntKind.i64.wrap ((lf : Int) - (j : Int)) = ((lf - j : Nat) : Int) := ((IntWalk.i64_left _).trans (w64 (by omega) (by omega))).trans (by omega)
    have HX := Lib.hid hx
    have HST := Lib.hid hstep
    have HJ := Lib.hid hj
    have HLF := Lib.hid hlf
    have HN1 := Lib.hid (show rs.length - cut = n1 from hn1)
    have HCUT := Lib.hid hcut
    have HLE := Lib.hid hle
    have HLEN := Lib.hid hlen
    have HM := Lib.hid hm
    have wx := WX.out
    have ex := EX.out
    have ej := EJ.out
    clear hx hstep hj hlf hcut hle hlen hm hin hdr hdt hdl hcell hlow hr hlo ha
    go_enter Tryd.func101, Tryd.ntmps101
    go_wp2_with (go_at_call 71; refine hcall.mono ?_; rintro e w5 ⟨rfl, hin5, k5⟩; have bL5 := k5.n _ _ _ (.inr (.inr (.inl rfl))) q2; have hy5 := cells1k bL5; obtain ⟨y5, f5⟩ := hy5; have hs6 := set1k (v := .int .i64 ((lf - j : Nat) : Int)) bL5; have hy6 := cells1k hs6; obtain ⟨y6, _⟩ := hy6; have lL := new_lt bL5)
    go_ret
    have bF5 := k5.n _ _ _ (.inr (.inr (.inl rfl))) q1
    have bG5 := k5.n _ _ _ (.inr (.inr (.inr rfl))) q3
    have hin6 := hI.set _ _ L _ (.int .i64 ((lf - j : Nat) : Int)) hin5 bL5
    have hb6 : Below B w (w5.setCell ⟨L, 0, none⟩ (.int .i64 ((lf - j : Nat) : Int))) := ((bw.trans (hb1.mono hB)).trans k5.bl).setCell (p := ⟨L, 0, none⟩) hL _
    have hkw : KpW B W (w5.setCell ⟨L, 0, none⟩ (.int .i64 ((lf - j : Nat) : Int))) := ((KpW.of hb1 hB).trans k5.kpw).trans (KpW.set hL bL5)
    have a1 := HJ.out
    have a2 := HLF.out
    have a3 := HN1.out
    have a4 := HLEN.out
    have a5 := HLE.out
    have a6 := HST.out
    clear wx ex ej wz
    by_cases c2 : n1 < lf
    · have ed : decide (0 < lf - j) = true := decide_eq_true (by omega)
      have ej : j = n1 := by omega
      rw [ed]
      rw [a3, ← hps] at a6
      rw [ej] at hin6 hs6 hb6 hkw ⊢
      rw [a6]
      refine .inl ⟨rfl, ⟨hin6, by rw [List.length_append, List.length_range']; omega, set_other bF5 (fun e => hLF e.symm), ?_, set_other bG5 (ty_ne bG5 bL5 (by decide)), hb6⟩, hkw⟩
      rw [hs6, List.length_append, List.length_range', show m - (ps.length + n1) = lf - n1 by omega]
    · have ed : decide (0 < lf - j) = false := decide_eq_false (by omega)
      have ej : j = lf := by omega
      rw [ed]
      refine .inr ⟨rfl, ?_, hb6, set_other bF5 (fun e => hLF e.symm)⟩
      obtain ⟨Z, hZ⟩ := vp_more (C := C) (f := f) (at_ + rs.length) (C.length - (at_ + rs.length))
      rw [show at_ + rs.length + (C.length - (at_ + rs.length)) = C.length by omega, a6, ← hps, a3] at hZ
      have ht : (vp C f C.length).take m = ps ++ List.range' (at_ + cut) j := by
        rw [hZ, List.append_assoc, List.take_append, List.take_of_length_le (by omega), List.take_append, List.length_range', show m - ps.length - n1 = 0 by omega, List.take_zero, List.append_nil, ← a2, ej]
        congr 1
        rw [show n1 = lf + (n1 - lf) by omega, List.range'_append_1.symm, List.take_left' (by simp)]
      rw [ht]
      exact hin6
  · have d1 : decide ((0 : Int) < hid) = true := decide_eq_true (by omega)
    rw [if_neg c1, List.append_nil] at hstep
    have hb1 : Below W.heap.size W (W.alloc (.cells #[.slice A rs.length c, .int .i64 hid] 113)) := below_alloc (Below.refl _ W) _
    have hin1 := hI.below _ _ _ hin hb1
    have q1 := (hb1.block _ (new_lt bF)).trans bF
    have q2 := (hb1.block _ (new_lt bL)).trans bL
    have q3 := (hb1.block _ (new_lt bG)).trans bG
    rw [hstep, ← hps]
    go_enter Tryd.func101, Tryd.ntmps101
    go_wp2
    go_ret
    exact .inl ⟨rfl, ⟨hin1, hlen, q1, q2, q3, bw.trans (hb1.mono hB)⟩, KpW.of hb1 hB⟩
set_option maxRecDepth 100000 in
set_option maxHeartbeats 16000000 in
theorem between_71 {K0 : Nat → Prop} {W : World} {b : Nat} {t : Tree} {p0 : Option Addr} {lo hi : Nat} (h : RopeAt K0 W b t) (hsz : t.cells.length ≤ 1048576) (hlo : lo < hi) (hhi : hi ≤ vis t.cells) (hv : W.heap[b]? = some (.cells #[.pointer p0] 108 (0, 0))) (ht : Rpo (fun k => k < B) W t (.pointer p0)) (hg : t.Good 0) (hb : b < B) (hB : B ≤ W.heap.size) (hI : Inner B 71 t.cells cap In) (h0 : In [] W) :
    Calls Tryd.prog 70 #[.pointer (some ⟨b, 0, none⟩), .int .i64 (lo : Int), .int .i64 (hi : Int), .func (.func 71) #[] #[cap]] W fun e w' => e = .returned (.tuple #[]) ∧ In ((vp t.cells (nth0 t.cells lo) t.cells.length).take (hi - lo)) w' ∧ Below B W w' := by
  have hvl := vis_le t.cells
  obtain ⟨f, hf⟩ : ∃ f, f = nth0 t.cells lo := ⟨_, rfl⟩
  have hfl : f ≤ t.cells.length := by rw [hf]; exact nth0_le _ _
  have htot := totalOf_yes h hsz lo (by omega)
  have hvplen : hi - lo ≤ (vp t.cells f t.cells.length).length := by
    rw [hf, vp_from (by omega), List.length_drop, vp_len _ (Nat.le_refl _), List.take_length]
    omega
  have d0 : ((lo : Int) == (hi : Int)) = false := beq_eq_false_iff_ne.mpr (by omega)
  have d1 : (lo == hi) = false := beq_eq_false_iff_ne.mpr (by omega)
  have b1 : (hi : Int) ≤ 1048576 := by omega
  have b2 : (lo : Int) ≤ 1048576 := by omega
  have b3 : (f : Int) ≤ 1048576 := by omega
  have wz : IntKind.i64.wrap ((hi : Int) - (lo : Int)) = ((hi - lo : Nat) : Int) := ((IntWalk.i64_left _).trans (w64 (by omega) (by omega))).trans (by omega)
  have hHT := fun W' (hW : Below W.heap.size W W') => (totalOf_yes (h.below hW) hsz lo (by omega : lo < vis t.cells))
  rw [← hf] at hHT ⊢
  have HHT := Lib.hid hHT
  clear hHT
  obtain ⟨m, hm⟩ : ∃ m, m = hi - lo := ⟨_, rfl⟩
  rw [← hm] at hvplen wz ⊢
  have hm0 : 0 < m := by omega
  have hm1 : m ≤ 1048576 := by omega
  clear hm hf hvl hlo hhi htot h
  go_enter Tryd.func70, Tryd.ntmps70
  have hb1 : Below W.heap.size W (W.alloc (.cells #[.func (.func 71) #[] #[cap]] 128)) := below_alloc (Below.refl _ W) _
  have bG : (W.alloc (.cells #[.func (.func 71) #[] #[cap]] 128)).heap[W.heap.size]? = some (Obj.cells #[.func (.func 71) #[] #[cap]] 128 (0, 0)) := heap_new _ _
  go_wp2_with (go_at_call 21; refine (HHT.out _ hb1).mono ?_; rintro e w2 ⟨rfl, hb2⟩)
  obtain ⟨W4, hW4⟩ : ∃ W4, (w2.alloc (.cells #[.int .i64 (f : Int)] 3)).alloc (.cells #[.int .i64 (m : Int)] 3) = W4 := ⟨_, rfl⟩
  have hb4 : Below w2.heap.size w2 W4 := by rw [← hW4]; exact below_alloc (below_alloc (Below.refl _ w2) _) _
  have bF : W4.heap[w2.heap.size]? = some (Obj.cells #[.int .i64 (f : Int)] 3 (0, 0)) := by
    rw [← hW4]
    exact ((below_alloc (Below.refl _ _) _).block _ (by simp)).trans (heap_new _ _)
  have bL : W4.heap[w2.heap.size + 1]? = some (Obj.cells #[.int .i64 (m : Int)] 3 (0, 0)) := by
    rw [← hW4]
    have := heap_new (w2.alloc (.cells #[.int .i64 (f : Int)] 3)) (.cells #[.int .i64 (m : Int)] 3)
    rwa [World.size_alloc] at this
  have bG4 := (hb4.block _ (new_lt ((hb2.block _ (new_lt bG)).trans bG))).trans ((hb2.block _ (new_lt bG)).trans bG)
  have hbW : Below W.heap.size W W4 := hb1.trans ((hb2.trans (hb4.mono hb2.size)).mono hb1.size)
  have hz1 := hb1.size
  have hz2 := hb2.size
  simp only [World.size_alloc] at hz2
  have rW := hbW.block _ (new_lt hv)
  have hv4 := rW.trans hv
  obtain ⟨y0, _⟩ := cells1k hv4
  obtain ⟨y1, _⟩ := cells1k bF
  rw [hW4]
  have hB2 : B ≤ w2.heap.size := by omega
  have hwk : ∀ W5, Below W4.heap.size W4 W5 → Calls Tryd.prog 65 #[.pointer p0, .int .i64 0, .int .i64 (f : Int), .func (.func 101) #[] #[.pointer (some ⟨w2.heap.size, 0, none⟩), .pointer (some ⟨w2.heap.size + 1, 0, none⟩), .pointer (some ⟨W.heap.size, 0, none⟩)]] W5 fun e w' => e = .returned (.bool false) ∧ In ((vp t.cells f t.cells.length).take m) w' ∧ Below B W w' ∧ w'.heap[w2.heap.size]? = some (.cells #[.int .i64 (f : Int)] 3 (0, 0)) := by
    intro W5 h5
    have hbW5 : Below W.heap.size W W5 := hbW.trans (h5.mono hbW.size)
    have hB5 : B ≤ W5.heap.size := Nat.le_trans hB hbW5.size
    have hi0 : Btw B f m w2.heap.size (w2.heap.size + 1) W.heap.size (.func (.func 71) #[] #[cap]) W In (vp t.cells f 0) W5 :=
      ⟨hI.below _ _ _ h0 hbW5, by simpa [vp] using hm0, (h5.block _ (new_lt bF)).trans bF, (h5.block _ (new_lt bL)).trans bL, (h5.block _ (new_lt bG4)).trans bG4, hbW5.mono hB⟩
    have := walk_101 (B := B) (C := t.cells) (lo := f) (J := fun q W' => Btw B f m w2.heap.size (w2.heap.size + 1) W.heap.size (.func (.func 71) #[] #[cap]) W In (vp t.cells f q) W') (Jx := fun w' => In ((vp t.cells f t.cells.length).take m) w' ∧ Below B W w' ∧ w'.heap[w2.heap.size]? = some (.cells #[.int .i64 (f : Int)] 3 (0, 0))) hsz (by omega)
      (fun at_ p W' hj hlo ha hr hA hc hne hh hB' => see101_71 (w := W) (F := w2.heap.size) (L := w2.heap.size + 1) (G := W.heap.size) hsz hI hB2 (Nat.le_trans hB2 (Nat.le_succ _)) (Nat.succ_ne_self _) hm1 at_ p W' rfl hj hlo ha hr hA hc hne hh hB')
      (fun at_ n W' hj hn => by rw [vp_none hn]; rw [vp_none (by omega)] at hj; exact hj)
      (fun at_ W' W'' hj hb' => ⟨hI.below _ _ _ hj.i hb', hj.len, (hb'.block _ (new_lt hj.hF)).trans hj.hF, (hb'.block _ (new_lt hj.hL)).trans hj.hL, (hb'.block _ (new_lt hj.hG)).trans hj.hG, hj.b.trans (hb'.mono (Nat.le_trans hB hj.b.size))⟩)
      t.size t (.pointer p0) W5 0 (Nat.le_refl _) (ht.below hbW5) hg hB5 (At.all _) hi0
    refine Calls.mono this ?_
    rintro e w' (⟨_, hj, _⟩ | h)
    · rw [Nat.zero_add] at hj
      exact absurd hj.len (by omega)
    · exact h
  have HWK := Lib.hid hwk
  clear hwk
  have r0 := y0
  have r1 := y1
  go_region_held3 (fun W' => W'.cell? ⟨b, 0, none⟩ = some (.pointer p0) ∧ W'.cell? ⟨w2.heap.size, 0, none⟩ = some (.int .i64 (f : Int)))
    (first | exact ⟨y0, y1⟩ | exact ⟨r0, r1⟩ | fail)
    (first | (go_at_call 65; refine (HWK.out _ (pw_below_drewN (Below.refl _ W4) _)).mono ?_; rintro e w6 ⟨rfl, h6, hb6, hF6⟩; have r0 := (cells1k ((hb6.block _ hb).trans hv)).1; have r1 := (cells1k hF6).1) | fail)
  go_end0
  exact ⟨rfl, h6, hb6⟩
end
section
variable {B : Nat} {C : List (Int × Int)} {cap : Value} {In : List Nat → World → Prop} {w : World} {f m F L G : Nat}
end
set_option maxRecDepth 100000 in
set_option maxHeartbeats 4000000 in
theorem between_none (W : World) (b lo : Nat) (g : Nat) (cap : Value) : Calls Tryd.prog 70 #[.pointer (some ⟨b, 0, none⟩), .int .i64 (lo : Int), .int .i64 (lo : Int), .func (.func g) #[] #[cap]] W fun e w' => e = .returned (.tuple #[]) ∧ Below W.heap.size W w' := by
  have d1 : (lo == lo) = true := beq_self_eq_true lo
  go_enter Tryd.func70, Tryd.ntmps70
  go_wp2
  refine bodyPost_ret (results_none rfl _ _ _) rfl ?_
  exact ⟨rfl, below_alloc (Below.refl _ W) _⟩
end Go.Proofs.YteeigokkafcaaaaDoorRope
end
section
namespace Go.Proofs.YteeigokkafcaaaaDoorRope
open Go.RowKit Go.Proofs.YteeigokkafcaaaaDoorW.PrintWords Go.Proofs.YteeigokkafcaaaaDoorW.PrintMore
set_option linter.unusedSimpArgs false
set_option linter.unusedVariables false
theorem Rpo.mono {M M' : Nat → Prop} (hM : ∀ k, M k → M' k) {W : World} {t : Tree} : ∀ {v : Value}, Rpo M W t v → Rpo M' W t v := by
  induction t with
  | nil => intro v h; exact h
  | node l rs hid r plus ihl ihr =>
    rintro v ⟨a, vl, vr, A, c, rfl, hh, hc, hr, hA, h1, h2⟩
    exact ⟨a, vl, vr, A, c, rfl, hh, hc, hr, fun ad e => hM _ (hA ad e), ihl h1, ihr h2⟩
theorem Bld.set {B b : Nat} {acc : List Int} {W : World} (h : Bld B b acc W) {k : Nat} {c : Array Value} (v : Value) (hk : W.heap[k]? = some (Obj.cells c 3 (0, 0))) : Bld B b acc (W.setCell ⟨k, 0, none⟩ v) := by
  refine h.imp ?_ ?_ <;>
    · rintro ⟨hB, v', hv, hown, hne⟩
      refine ⟨hB, v', set_other hv (ty_ne hv hk (by decide)), hown.kept (row := some k) ⟨rfl, rfl, rfl, by simp [World.setCell], fun i hi hne => Below.heap_setCell W ⟨k, 0, none⟩ v i (fun e => hne (by rw [show i = k from e]))⟩ (.inr ?_), hne⟩
      intro e
      obtain ⟨c', fz, hc'⟩ := Lib.ownsRowF_kind hown k e
      rw [hk] at hc'
      injection hc' with hc'
      injection hc' with _ hc' _
      exact absurd hc' (by decide)
theorem inner71 {B b : Nat} {C : List (Int × Int)} (hC : ∀ c ∈ C, Rn c.1) : Inner B 71 C (.pointer (some ⟨b, 0, none⟩)) (fun ps W => Bld B b (ps.map (rnAt C)) W) where
  below ps W W' h hb := h.below hb
  set ps W k c v h hk := h.set v hk
  call ps x a rs A c W hx h hp hc h0 hl hr hA hB hrc := by
    have hrs : rs = (List.range' a rs.length).map (rnAt C) := by
      apply List.ext_getElem
      · simp
      · intro i h1 h2
        rw [List.getElem_map, List.getElem_range', rnAt, List.getD_eq_getElem?_getD]
        have := hc i h1
        rw [show a + 1 * i = a + i by omega, this]
        rfl
    have hrn : ∀ r ∈ rs, Rn r := by
      intro r hr'
      obtain ⟨i, hi, rfl⟩ := List.getElem_of_mem hr'
      have := hC _ (List.mem_of_getElem? (hc i hi))
      exact this
    refine (slice1_calls x hr hA hrn h hB (by rw [List.length_map]; exact hl)).mono ?_
    rintro e w' ⟨he, h', hk⟩
    obtain ⟨_, c0, hc0⟩ := h.at
    refine ⟨he, ?_, hk.kpi hc0⟩
    rw [List.map_append, ← hrs]
    exact h'
theorem fresh_bld (W : World) : Bld W.heap.size W.heap.size [] (W.alloc (.cells #[.pointer none, .slice none 0 0] 118)) := Lib.IsBuilderF.of (Lib.fresh_isBuilder 118 5 W)
set_option maxRecDepth 100000 in
set_option maxHeartbeats 8000000 in
theorem slice_yes {K0 : Nat → Prop} {W : World} {b : Nat} {t : Tree} (h : RopeAt K0 W b t) (hsz : t.cells.length ≤ 1048576) (hN : ∀ c ∈ t.cells, Rn c.1) {lo hi : Nat} (hlo : lo ≤ hi) (hhi : hi ≤ vis t.cells) :
    Calls Tryd.prog 31 #[.pointer (some ⟨b, 0, none⟩), .int .i64 (lo : Int), .int .i64 (hi : Int)] W fun e w' => e = .returned (.tuple #[.string (txt (((visR t.cells).drop lo).take (hi - lo))), .int .i64 0]) ∧ Below W.heap.size W w' := by
  obtain ⟨p0, hv, hE, hn, hlt⟩ := h.blk
  have ht := hE.t _ List.mem_cons_self
  have d0 : decide ((lo : Int) < 0) = false := decide_eq_false (by omega)
  have d1 : decide (hi < lo) = false := decide_eq_false (by omega)
  have d2 : decide (vis t.cells < hi) = false := decide_eq_false (by omega)
  have hrb : ∀ W', Below W.heap.size W W' → RopeAt K0 W' b t := fun W' hW => h.below hW
  have HRB := Lib.hid hrb
  have HLO := Lib.hid hlo
  have HHI := Lib.hid hhi
  have ht2 := Rpo.of (ht.rep.bound ht.good)
  have HT2 : Hid (Rpo (fun k => k < W.heap.size) W t (.pointer p0)) := Lib.hid (ht2.mono (fun k hk => hk.2))
  clear hrb hlo hhi ht2 h
  by_cases c : lo = hi
  · subst c
    go_enter Tryd.func31, Tryd.ntmps31
    go_wp2_with (first
      | (go_at_call 20; refine (shownR_calls (HRB.out _ (Below.refl _ _))).mono ?_; rintro e w1 ⟨rfl, hb1⟩; have fb := fresh_bld w1; have hba := below_alloc (Below.refl w1.heap.size w1) (.cells #[.pointer none, .slice none 0 0] 118))
      | (go_at_call 70; refine (between_none _ b lo 71 _).mono ?_; rintro e w2 ⟨rfl, hb2⟩; have fb2 := fb.below hb2)
      | (go_at_call 63; refine (Tryd.Builder_String_any_k _ _ _ _ fb2 (Nat.le_trans hba.size hb2.size)).mono ?_; rintro e w3 ⟨rfl, _, hb3, _⟩))
    go_ret2
    refine ⟨by simp [txt], ?_⟩
    exact hb1.trans ((hba.trans ((hb2.mono hba.size).trans hb3)).mono hb1.size)
  · have hlt' : lo < hi := Nat.lt_of_le_of_ne HLO.out c
    go_enter Tryd.func31, Tryd.ntmps31
    go_wp2_with (first
      | (go_at_call 20; refine (shownR_calls (HRB.out _ (Below.refl _ _))).mono ?_; rintro e w1 ⟨rfl, hb1⟩; have fb := fresh_bld w1; have hba := below_alloc (Below.refl w1.heap.size w1) (.cells #[.pointer none, .slice none 0 0] 118); have hbW := hb1.trans (hba.mono hb1.size))
      | (go_at_call 70; refine (between_71 (B := w1.heap.size) (HRB.out _ hbW) hsz hlt' HHI.out ((hbW.block _ hlt).trans hv) ((HT2.out.mono (fun k hk => Nat.lt_of_lt_of_le hk hb1.size)).below hbW) ht.good (Nat.lt_of_lt_of_le hlt hb1.size) hba.size (inner71 hN) fb).mono ?_; rintro e w2 ⟨rfl, fb2, hb2⟩; rw [vp_from_runes (Nat.le_trans HLO.out HHI.out)] at fb2; obtain ⟨S, hS⟩ : ∃ S, S = ((visR t.cells).drop lo).take (hi - lo) := ⟨_, rfl⟩; rw [← hS] at fb2; have HS := Lib.hid hS; clear hS)
      | (go_at_call 63; refine (Tryd.Builder_String_any_k _ _ _ _ fb2 (Nat.le_trans hba.size hb2.size)).mono ?_; rintro e w3 ⟨rfl, _, hb3, _⟩))
    go_ret2
    refine ⟨?_, hbW.trans ((hb2.trans hb3).mono hb1.size)⟩
    rw [← HS.out]
    rfl
set_option maxRecDepth 100000 in
set_option maxHeartbeats 8000000 in
theorem text_calls {K0 : Nat → Prop} {W : World} {b : Nat} {t : Tree} (h : RopeAt K0 W b t) (hsz : t.cells.length ≤ 1048576) (hN : ∀ c ∈ t.cells, Rn c.1) :
    Calls Tryd.prog 30 #[.pointer (some ⟨b, 0, none⟩)] W fun e w' => e = .returned (.string (txt (visR t.cells))) ∧ Below W.heap.size W w' := by
  obtain ⟨S, hS⟩ : ∃ S, S = visR t.cells := ⟨_, rfl⟩
  have hsl : ∀ W', Below W.heap.size W W' → Calls Tryd.prog 31 #[.pointer (some ⟨b, 0, none⟩), .int .i64 0, .int .i64 (vis t.cells : Int)] W' fun e w' => e = .returned (.tuple #[.string (txt S), .int .i64 0]) ∧ Below W'.heap.size W' w' := by
    intro W' hW
    refine (slice_yes (h.below hW) hsz hN (lo := 0) (Nat.zero_le _) (Nat.le_refl _)).mono ?_
    rintro e w2 ⟨he, hb⟩
    rw [List.drop_zero, Nat.sub_zero, List.take_of_length_le (by rw [visR_len]; exact Nat.le_refl _), ← hS] at he
    exact ⟨he, hb⟩
  have HSL := Lib.hid hsl
  rw [← hS]
  clear hS hsl
  go_enter Tryd.func30, Tryd.ntmps30
  go_wp2_with (first
    | (go_at_call 20; refine (shownR_calls h).mono ?_; rintro e w1 ⟨rfl, hb1⟩)
    | (go_at_call 31; refine (HSL.out _ hb1).mono ?_; rintro e w2 ⟨rfl, hb2⟩))
  go_ret
  exact ⟨rfl, hb1.trans (hb2.mono hb1.size)⟩
end Go.Proofs.YteeigokkafcaaaaDoorRope
end
section
namespace Go.Proofs.YteeigokkafcaaaaDoorRope
open Go.RowKit Go.Proofs.YteeigokkafcaaaaDoorW.PrintWords Go.Proofs.YteeigokkafcaaaaDoorW.PrintMore
set_option linter.unusedSimpArgs false
set_option linter.unusedVariables false
attribute [local go_sem] Oper.semAt_some
attribute [local go_sem] run_field2 run_field0
set_option maxRecDepth 100000 in
set_option maxHeartbeats 8000000 in
theorem cellsSeq_calls {K0 : Nat → Prop} {W : World} {b : Nat} {t : Tree} (h : RopeAt K0 W b t) (lo : Int) :
    Calls Tryd.prog 41 #[.pointer (some ⟨b, 0, none⟩), .int .i64 lo] W fun e w' => ∃ p0, e = .returned (.func (.func 76) #[] #[.pointer (some ⟨W.heap.size + 1, 0, none⟩), .pointer (some ⟨W.heap.size, 0, none⟩)]) ∧ Boxed w' W.heap.size 3 (.int .i64 lo) ∧ Boxed w' (W.heap.size + 1) 105 (.pointer p0) ∧ Rpo (fun k => k < W.heap.size ∧ k ≠ b) w' t (.pointer p0) ∧ t.Good 0 ∧ Below W.heap.size W w' ∧ w'.heap.size = W.heap.size + 2 := by
  obtain ⟨p0, hv, hE, hn0, hlt⟩ := h.blk
  have ht := hE.t _ List.mem_cons_self
  have hr : Rpo (fun k => k < W.heap.size ∧ k ≠ b) W t (.pointer p0) := (Rpo.of (ht.rep.bound ht.good)).mono (fun k hk => ⟨hk.2, fun e => hn0 (e ▸ hk.1)⟩)
  have hg := ht.good
  have hbw : Below W.heap.size W ((W.alloc (.cells #[.int .i64 lo] 3)).alloc (.cells #[.pointer p0] 105)) := ((Below.refl _ W).alloc (Nat.le_refl _) _).alloc (by simp) _
  have y0 : (W.alloc (.cells #[.int .i64 lo] 3)).cell? ⟨b, 0, none⟩ = some (.pointer p0) := bcell (below_alloc (Below.refl _ W) _) (cells1k hv).1
  have hb3 : Boxed ((W.alloc (.cells #[.int .i64 lo] 3)).alloc (.cells #[.pointer p0] 105)) W.heap.size 3 (.int .i64 lo) := (Boxed.new W 3 (.int .i64 lo)).alloc _
  have hb105 : Boxed ((W.alloc (.cells #[.int .i64 lo] 3)).alloc (.cells #[.pointer p0] 105)) (W.heap.size + 1) 105 (.pointer p0) := by
    have := Boxed.new (W.alloc (.cells #[.int .i64 lo] 3)) 105 (.pointer p0)
    rwa [World.size_alloc] at this
  have hsz : ((W.alloc (.cells #[.int .i64 lo] 3)).alloc (.cells #[.pointer p0] 105)).heap.size = W.heap.size + 2 := by simp
  have HR := Lib.hid hr
  clear h hE hn0 ht hr
  go_enter Tryd.func41, Tryd.ntmps41
  go_wp2
  go_ret
  exact ⟨rfl, hb3, p0, hb105, by simpa using HR.out.below hbw, hbw, hsz⟩
set_option maxRecDepth 100000 in
set_option maxHeartbeats 8000000 in
theorem seq76 {B b LB RB : Nat} {t : Tree} {v : Value} {lo : Nat} {w : World} (hC : t.cells.length ≤ 1048576) (hlo : lo ≤ 1048576) (hg : t.Good 0) (hr : Rpo (fun k => k < B ∧ k ≠ b) w t v) (hB : B ≤ w.heap.size) (hL : Boxed w LB 3 (.int .i64 (lo : Int))) (hR : Boxed w RB 105 v) (n : Nat) :
    SeqStopsK Fence.wide n Tryd.prog 76 #[.pointer (some ⟨RB, 0, none⟩), .pointer (some ⟨LB, 0, none⟩)] encI (KpC B b LB) (fun ys => ys = itm t.cells lo t.cells.length) (fun pre => pre <+: itm t.cells lo t.cells.length) (t.cells.length - lo) w := fun l J Jx W hW hJ hJx hY h0 => by
  have hr1 := hr.below hW
  have hB1 := Nat.le_trans hB hW.size
  have hL1 : Boxed W LB 3 (.int .i64 (lo : Int)) := (hW.block _ hL.lt).trans hL
  have hR1 : Boxed W RB 105 v := (hW.block _ hR.lt).trans hR
  have hba : Below W.heap.size W (W.alloc (.cells #[.func (.yield l) #[] #[]] 135)) := below_alloc (Below.refl _ W) _
  have hY1 : Boxed (W.alloc (.cells #[.func (.yield l) #[] #[]] 135)) W.heap.size 135 (.func (.yield l) #[] #[]) := Boxed.new _ _ _
  have hL2 : Boxed (W.alloc (.cells #[.func (.yield l) #[] #[]] 135)) LB 3 (.int .i64 (lo : Int)) := (hba.block _ hL1.lt).trans hL1
  have hR2 : Boxed (W.alloc (.cells #[.func (.yield l) #[] #[]] 135)) RB 105 v := (hba.block _ hR1.lt).trans hR1
  have yl := hL2.cell
  have yr := hR2.cell
  have hj : JAt J t.cells lo LB W.heap.size l 0 (W.alloc (.cells #[.func (.yield l) #[] #[]] 135)) := ⟨by rw [itm_nil _ (Nat.zero_le _)]; exact hJ _ _ _ none h0 (World.grownBy_alloc W _ none) (by intro r e; cases e), hL2, hY1⟩
  have hw := walk_77 (C := t.cells) (lo := lo) (J := JAt J t.cells lo LB W.heap.size l) (Jx := fun w' => ∃ pre, pre <+: itm t.cells lo t.cells.length ∧ Jx pre w') (k0 := .pointer (some ⟨LB, 0, none⟩)) (k1 := .pointer (some ⟨W.heap.size, 0, none⟩)) (b := b) (LB := LB) (B := B) hC hlo
    (fun at_ p W' h1 _ h2 h3 h4 _ _ _ h5 h6 => see77_in hC hlo J Jx hJ (fun pre x W1 h7 h8 => YieldAt.depth rfl 2 (hY pre x W1 h7 h8)) at_ p W' h1 h2 h3 h4 h5 h6)
    (fun at_ n W' h1 h2 => ⟨by rw [itm_nil _ h2]; have := h1.j; rwa [itm_nil _ (show at_ ≤ lo by omega)] at this, h1.lb, h1.yb⟩)
    (fun at_ W1 W2 h1 h2 => h1.step hJ h2)
    t.size t v _ 0 (Nat.le_refl _) (hr1.below hba) hg (Nat.le_trans hB1 hba.size) hL2.lt (At.all _) hj
  have HW := Lib.hid hw
  clear hw hj hY h0 hr hr1 hW hR hL hB hg
  refine callsIn_of_wp Tryd.func76 rfl trivial ?_ rfl
  simp only [Tryd.ntmps76, List.size_toArray, List.length_cons, List.length_nil, Nat.reduceAdd, Nat.reduceSub, Array.replicate_succ, Array.replicate_zero, List.push_toArray, List.append_toArray, List.nil_append, List.cons_append]
  gi_wp2
  refine ⟨trivial, fun h => (by cases h), ?_⟩
  refine (callsIn_wide.2 HW.out).mono ?_
  rintro e w5 H5
  rcases H5 with ⟨rfl, h5, k5⟩ | ⟨rfl, pre, h5, h6⟩
  · gi_wp2
    go_end0
    exact ⟨⟨_, rfl⟩, .inl ⟨_, rfl, by have := h5.j; rwa [Nat.zero_add] at this⟩⟩
  · gi_wp2
    go_end0
    exact ⟨⟨_, rfl⟩, .inr ⟨pre, h5, h6⟩⟩
end Go.Proofs.YteeigokkafcaaaaDoorRope
end
section
namespace Go.Proofs.YteeigokkafcaaaaDoorRope
open Go.RowKit Go.Proofs.YteeigokkafcaaaaDoorW.PrintWords Go.Proofs.YteeigokkafcaaaaDoorW.PrintMore Go.Proofs.YteeigokkafcaaaaDoor.Pr
set_option linter.unusedSimpArgs false
set_option linter.unusedVariables false
theorem visR_snoc {cs : List (Int × Int)} {i : Nat} (h : i < cs.length) : visR (cs.take (i + 1)) = visR (cs.take i) ++ if cs[i].2 = 0 then [cs[i].1] else [] := by
  rw [List.take_succ_eq_append_getElem h]
  unfold visR
  rw [List.filter_append, List.map_append]
  congr 1
  by_cases c : cs[i].2 = 0
  · simp [c]
  · simp [c]
set_option maxRecDepth 100000 in
set_option maxHeartbeats 4000000 in
theorem textS_calls {cs : List (Int × Int)} (hb : cs.length ≤ 1048576) (hN : ∀ c ∈ cs, Rn c.1) {w : World} {A : Option Addr} {c : Nat} (hA : Kd.C k36 w A cs.length (sCells cs)) : Calls Tryd.prog 32 #[.slice A cs.length c, .int .i64 0, .int .i64 (cs.length : Int)] w fun e w' => e = .returned (.string (txt (visR cs))) ∧ Below w.heap.size w w' := by
  have HB := Lib.hid hb
  have hlb : (cs.length : Int) ≤ 1048576 := by omega
  clear hb
  go_enter Tryd.func32, Tryd.ntmps32
  go_wp2
  go_loopw [7, 8] (fun s i wr => ∃ j : Nat, j ≤ cs.length ∧ i = .int .i64 (j : Int) ∧ s = .string (txt (visR (cs.take j))) ∧ Below w.heap.size w wr) (fun _ i _ => cs.length - (intOf i).toNat)
  case atStart => exact ⟨0, Nat.zero_le _, rfl, rfl, Below.refl _ _⟩
  case round =>
    obtain ⟨j, hj, rfl, rfl, hD⟩ := hrel
    by_cases hlt : j < cs.length
    · obtain ⟨ad, hAd, y0, y1⟩ := row_cell (Kd.C_below hA hD) hlt
      subst hAd
      have hsn := visR_snoc hlt
      have hr := hN _ (List.getElem_mem hlt)
      obtain ⟨⟨r, h⟩, hrh⟩ : ∃ x, cs[j] = x := ⟨_, rfl⟩
      rw [hrh] at y0 y1 hsn hr
      dsimp only at y0 y1 hsn hr
      clear hrh
      have hz1 := txt_size_le (visR (cs.take j))
      have hz3 := vis_le (cs.take j)
      rw [List.length_take] at hz3
      rw [visR_len] at hz1
      have hz2 := txt_size_le [r]
      simp only [List.length_singleton] at hz2
      have hbs : (((txt (visR (cs.take j))).size : Int) + ((txt [r]).size : Int)) ≤ 9223372036854775807 := by have := HB.out; omega
      have hen := encode_txt hr
      by_cases c0 : h = 0
      · rw [if_pos c0] at hsn
        have d0 : (h == 0) = true := beq_iff_eq.mpr c0
        have HS := Lib.hid hsn
        clear hsn hz1 hz2 hz3 c0 hr
        go_wp2
        go_roundw
        case rel => exact ⟨j + 1, hlt, by go_num, by rw [HS.out, txt_append], hD⟩
        case measure => simp [intOf]; omega
      · rw [if_neg c0, List.append_nil] at hsn
        have d0 : (h == 0) = false := beq_eq_false_iff_ne.mpr c0
        have HS := Lib.hid hsn
        clear hsn hz1 hz2 hz3 c0 hr hbs hen
        go_wp2
        go_roundw
        case rel => exact ⟨j + 1, hlt, by go_num, by rw [HS.out], hD⟩
        case measure => simp [intOf]; omega
    · obtain rfl : j = cs.length := by omega
      have d1 : decide (cs.length < cs.length) = false := decide_eq_false (Nat.lt_irrefl _)
      rw [List.take_length]
      clear hlt hj
      go_wp2
      go_ret
      exact ⟨rfl, hD⟩
end Go.Proofs.YteeigokkafcaaaaDoorRope
end
section
namespace Go.Proofs.YteeigokkafcaaaaDoorRope
open Go.RowKit Go.Proofs.YteeigokkafcaaaaDoorW.PrintWords Go.Proofs.YteeigokkafcaaaaDoorW.PrintMore Go.Proofs.YteeigokkafcaaaaDoor.Pr
set_option linter.unusedSimpArgs false
set_option linter.unusedVariables false
def RopeHas (W : World) (b : Nat) (cs : List (Int × Int)) : Prop := ∃ K t, RopeAt K W b t ∧ t.cells = cs
theorem RopeHas.below {W W' : World} {b : Nat} {cs : List (Int × Int)} (h : RopeHas W b cs) (hb : Below W.heap.size W W') : RopeHas W' b cs := by
  obtain ⟨K, t, h, hc⟩ := h
  exact ⟨K, t, h.below hb, hc⟩
theorem BarsAt.grown {W W' : World} {b : Nat} (h : BarsAt W) (hg : W.grownBy W' (some b)) (hb : b ≠ 0) : BarsAt W' := by
  have hl := h.lt
  obtain ⟨t, fr, h⟩ := h
  exact ⟨t, fr, (hg.block 0 hl (fun e => hb (by injection e with e; exact e.symm))).trans h⟩
def Row (S : Nat → Prop) (W : World) (A : Option Addr) (c : Nat) (cs : List (Int × Int)) : Prop := ∃ base, Kd.R k36 36 W base (fun k => ¬ S k) (.slice A cs.length c) (sCells cs)
section
variable {S : Nat → Prop} {W W' : World} {A : Option Addr} {c : Nat} {cs : List (Int × Int)}
theorem Row.below (h : Row S W A c cs) (hb : Below W.heap.size W W') : Row S W' A c cs := by
  obtain ⟨base, h⟩ := h
  exact ⟨base, Kd.R_below h hb⟩
theorem Row.grown {b : Nat} (h : Row S W A c cs) (hg : W.grownBy W' (some b)) (hb : S b) : Row S W' A c cs := by
  obtain ⟨base, h⟩ := h
  exact ⟨base, Kd.R_step h (fun k hk hl => hg.block k hl (fun e => hk (by injection e with e; rw [e]; exact hb)))⟩
theorem Row.rd (h : Row S W A c cs) : Kd.C k36 W A cs.length (sCells cs) := by
  obtain ⟨base, h⟩ := h
  have := (Kd.R_reads' h).2.2
  rwa [sCells_len] at this
theorem Row.cap (h : Row S W A c cs) : cs.length ≤ c := by
  obtain ⟨base, h⟩ := h
  exact (Kd.R_reads' h).2.1
theorem Row.of {n : Nat} (h : Kd.R k36 36 W n (fun k => n ≤ k) (.slice A cs.length c) (sCells cs)) (hS : ∀ k, S k → k < n ∨ W.heap.size ≤ k) : Row S W A c cs :=
  ⟨n, Kd.R_mono (Kd.R_bound h) (fun k hk hs => by rcases hS k hs with h' | h' <;> omega)⟩
end
section
variable {W : World} {b : Nat} {cs : List (Int × Int)}
theorem rope_total (h : RopeHas W b cs) : Calls Tryd.prog 19 #[.pointer (some ⟨b, 0, none⟩)] W fun e w' => e = .returned (.int .i64 (cs.length : Int)) ∧ Below W.heap.size W w' := by
  obtain ⟨K, t, h, rfl⟩ := h
  exact total_calls h
theorem rope_shown (h : RopeHas W b cs) : Calls Tryd.prog 20 #[.pointer (some ⟨b, 0, none⟩)] W fun e w' => e = .returned (.int .i64 (vis cs : Int)) ∧ Below W.heap.size W w' := by
  obtain ⟨K, t, h, rfl⟩ := h
  exact shownR_calls h
theorem rope_totalOf (h : RopeHas W b cs) (hsz : cs.length ≤ 1048576) {p : Nat} (hp : p ≤ vis cs) : Calls Tryd.prog 21 #[.pointer (some ⟨b, 0, none⟩), .int .i64 (p : Int)] W fun e w' => e = .returned (.tuple #[.int .i64 (nth0 cs p : Int), .int .i64 0]) ∧ Below W.heap.size W w' := by
  obtain ⟨K, t, h, rfl⟩ := h
  exact totalOf_le h hsz hp
theorem rope_totalOf_no (h : RopeHas W b cs) {p : Int} (hp : (vis cs : Int) < p) : Calls Tryd.prog 21 #[.pointer (some ⟨b, 0, none⟩), .int .i64 p] W fun e w' => e = .returned (.tuple #[.int .i64 0, .int .i64 12]) ∧ Below W.heap.size W w' := by
  obtain ⟨K, t, h, rfl⟩ := h
  exact totalOf_no h p (.inr hp)
theorem rope_before (h : RopeHas W b cs) (hsz : cs.length ≤ 1048576) {c : Nat} (hc : c ≤ cs.length) : Calls Tryd.prog 22 #[.pointer (some ⟨b, 0, none⟩), .int .i64 (c : Int)] W fun e w' => e = .returned (.tuple #[.int .i64 (vis (cs.take c) : Int), .int .i64 0]) ∧ Below W.heap.size W w' := by
  obtain ⟨K, t, h, rfl⟩ := h
  exact before_yes h hsz c hc
theorem rope_cell (h : RopeHas W b cs) (hsz : cs.length ≤ 1048576) {p : Nat} (hp : p < cs.length) : Calls Tryd.prog 34 #[.pointer (some ⟨b, 0, none⟩), .int .i64 (p : Int)] W fun e w' => e = .returned (.tuple #[.agg #[.int .i32 cs[p].1, .int .i64 cs[p].2], .int .i64 0]) ∧ Below W.heap.size W w' := by
  obtain ⟨K, t, h, rfl⟩ := h
  exact cell_yes h hsz p _ (List.getElem?_eq_getElem hp)
theorem rope_cell_no (h : RopeHas W b cs) {p : Nat} (hp : cs.length ≤ p) : Calls Tryd.prog 34 #[.pointer (some ⟨b, 0, none⟩), .int .i64 (p : Int)] W fun e w' => e = .returned (.tuple #[.agg #[.int .i32 0, .int .i64 0], .int .i64 12]) ∧ Below W.heap.size W w' := by
  obtain ⟨K, t, h, rfl⟩ := h
  exact cell_no h p hp
theorem rope_text (h : RopeHas W b cs) (hsz : cs.length ≤ 1048576) (hN : ∀ c ∈ cs, Rn c.1) : Calls Tryd.prog 30 #[.pointer (some ⟨b, 0, none⟩)] W fun e w' => e = .returned (.string (txt (visR cs))) ∧ Below W.heap.size W w' := by
  obtain ⟨K, t, h, rfl⟩ := h
  exact text_calls h hsz hN
theorem rope_insert (h : RopeHas W b cs) (hw : BarsAt W) {at_ : Nat} {l : List Int} {hd : Int} (ha : at_ ≤ cs.length) (hl : Lets l) (hne : l ≠ []) (hh : 0 ≤ hd ∧ hd ≤ 1048576) (hsz : cs.length + l.length ≤ 1048576) : Calls Tryd.prog 33 #[.pointer (some ⟨b, 0, none⟩), .int .i64 (at_ : Int), .string (txt l), .int .i64 hd] W fun e w' => e = .returned (.int .i64 0) ∧ RopeHas w' b (insC cs at_ l hd) ∧ W.grownBy w' (some b) := by
  obtain ⟨K, t, h, rfl⟩ := h
  refine (insert_yes h hw ha hl hne hh hsz).mono ?_
  rintro e w' ⟨t', he, h', hc, hg⟩
  exact ⟨he, ⟨_, t', h', hc⟩, hg⟩
theorem rope_bump (h : RopeHas W b cs) {l : List (Nat × Nat)} {by_ : Int} (hby : by_ = 1 ∨ by_ = -1) (hN : Norm l cs.length) (hok : BumpOk cs l by_) (hsz : cs.length ≤ 1048576) {A : Option Addr} {c : Nat} (hA : Kd.C k133 W A l.length (sRng l)) (hc : l.length ≤ c) : Calls Tryd.prog 39 #[.pointer (some ⟨b, 0, none⟩), .slice A l.length c, .int .i64 by_] W fun e w' => e = .returned (.int .i64 0) ∧ RopeHas w' b (bumpC cs l by_) ∧ W.grownBy w' (some b) := by
  obtain ⟨K, t, h, rfl⟩ := h
  rcases hby with rfl | rfl
  · refine (bump_up h hN hok hsz hA hc).mono ?_
    rintro e w' ⟨t', he, h', hc, hg⟩
    exact ⟨he, ⟨_, t', h', hc⟩, hg⟩
  · refine (bump_down h hN hok hsz hA hc).mono ?_
    rintro e w' ⟨t', he, h', hc, hg⟩
    exact ⟨he, ⟨_, t', h', hc⟩, hg⟩
end
theorem ins_rn {cs : List (Int × Int)} {n : Nat} {l : List Int} {h : Int} (hc : ∀ c ∈ cs, Rn c.1) (hl : ∀ r ∈ l, Rn r) : ∀ c ∈ insC cs n l h, Rn c.1 := by
  intro c hm
  rw [insC, List.mem_append, List.mem_append] at hm
  rcases hm with (hm | hm) | hm
  · exact hc _ (List.mem_of_mem_take hm)
  · obtain ⟨r, hr, rfl⟩ := List.mem_map.1 hm
    exact hl r hr
  · exact hc _ (List.mem_of_mem_drop hm)
end Go.Proofs.YteeigokkafcaaaaDoorRope
end
section
namespace Go.Proofs.YteeigokkafcaaaaDoorRope
open Go.RowKit Go.Proofs.YteeigokkafcaaaaDoorW.PrintWords Go.Proofs.YteeigokkafcaaaaDoorW.PrintMore Go.Proofs.YteeigokkafcaaaaDoor.Pr
set_option linter.unusedSimpArgs false
set_option linter.unusedVariables false
theorem runs_c {ps : List (Int × Int)} {w : World} {A : Option Addr} {c : Nat} (hA : Kd.C k97 w A ps.length ps) (hc : ps.length ≤ c) (hm : ps.length ≤ 140737488355328) :
    Calls Tryd.prog 15 #[.slice A ps.length c] w fun e w' => ∃ A' c', e = .returned (.slice A' (runsL ps).length c') ∧ Kd.C k58 w' A' (runsL ps).length (sRuns (runsL ps)) ∧ (runsL ps).length ≤ c' ∧ Below w.heap.size w w' := by
  refine (runs_calls hA hc hm).mono ?_
  rintro e w' ⟨A', c', he, hR, hb⟩
  have h1 := (Kd.R_reads' hR).2
  rw [show (sRuns (runsL ps)).length = (runsL ps).length from by simp [sRuns]] at h1
  exact ⟨A', c', he, h1.2, h1.1, hb⟩
theorem row_c {ps : List (Int × Int)} {w : World} {A : Option Addr} {c : Nat} (hA : Kd.C k58 w A (runsL ps).length (sRuns (runsL ps))) :
    Calls Tryd.prog 16 #[.slice A (runsL ps).length c] w fun e w' => ∃ A' c', e = .returned (.slice A' (rcells (runsL ps)).length c') ∧ Row (fun b => w'.heap.size ≤ b) w' A' c' (rcells (runsL ps)) ∧ Below w.heap.size w w' := by
  have hg := runsL_good ps
  have h1 := runsL_cells ps
  have h2 := runsL_len ps
  refine (cells_calls (fun x hx => (hg.one x hx).2.1) (by omega) (by omega) hA).mono ?_
  rintro e w' ⟨A', c', he, hR, hb⟩
  exact ⟨A', c', he, Row.of hR (fun k hk => .inr hk), hb⟩
theorem Row.less {S S' : Nat → Prop} {W : World} {A : Option Addr} {c : Nat} {cs : List (Int × Int)} (h : Row S W A c cs) (hS : ∀ k, S' k → S k) : Row S' W A c cs := by
  obtain ⟨base, h⟩ := h
  exact ⟨base, Kd.R_mono h (fun k hk hs => hk (hS k hs))⟩
theorem from_c {ps : List (Int × Int)} {w : World} {A : Option Addr} {c : Nat} (hw : BarsAt w) (hA : Kd.C k58 w A (runsL ps).length (sRuns (runsL ps))) (hc : (runsL ps).length ≤ c) :
    Calls Tryd.prog 18 #[.slice A (runsL ps).length c] w fun e w' => ∃ b, e = .returned (.tuple #[.pointer (some ⟨b, 0, none⟩), .int .i64 0]) ∧ w.heap.size ≤ b ∧ b ≠ 0 ∧ RopeHas w' b (rcells (runsL ps)) ∧ Below w.heap.size w w' := by
  have h1 := runsL_cells ps
  have h2 := runsL_len ps
  refine (from_yes (runsL_good ps) (by omega) (by omega) hw hA hc).mono ?_
  rintro e w' ⟨b, t, he, hb, hR, hct, hB⟩
  exact ⟨b, he, hb, by have := hw.lt; omega, ⟨_, t, hR, hct⟩, hB⟩
theorem rcells_rn (ps : List (Int × Int)) : ∀ c ∈ rcells (runsL ps), Rn c.1 := by
  intro c hc
  unfold rcells at hc
  obtain ⟨x, hx, hc⟩ := List.mem_flatMap.1 hc
  obtain ⟨r, hr, rfl⟩ := List.mem_map.1 hc
  exact (((runsL_good ps).one x hx).2.1 r hr).rn
structure Stand (w W : World) (b : Nat) (A : Option Addr) (c : Nat) (cs cs' : List (Int × Int)) : Prop where
  bel : Below w.heap.size w W
  bars : BarsAt W
  row : Row (fun k => k = b) W A c cs
  rope : RopeHas W b cs'
  lb : w.heap.size ≤ b
  nz : b ≠ 0
section
variable {w W W' : World} {b : Nat} {A : Option Addr} {c : Nat} {cs cs' cs'' : List (Int × Int)}
theorem below_grown {n : Nat} (h : Below n w W) (hg : W.grownBy W' (some b)) (hb : n ≤ b) (hn : n ≤ W.heap.size) : Below n w W' :=
  ⟨hg.os.trans h.os, hg.tape.trans h.tape, hg.output.trans h.output, Nat.le_trans h.size hg.size, fun k hk => (hg.block k (Nat.lt_of_lt_of_le hk hn) (fun e => by injection e with e; omega)).trans (h.block k hk)⟩
theorem Stand.step (h : Stand w W b A c cs cs') (hb : Below W.heap.size W W') : Stand w W' b A c cs cs' :=
  ⟨h.bel.trans (hb.mono h.bel.size), h.bars.below hb, h.row.below hb, h.rope.below hb, h.lb, h.nz⟩
theorem Stand.put (h : Stand w W b A c cs cs') (hg : W.grownBy W' (some b)) (hr : RopeHas W' b cs'') : Stand w W' b A c cs cs'' :=
  ⟨below_grown h.bel hg h.lb h.bel.size, h.bars.grown hg h.nz, h.row.grown hg rfl, hr, h.lb, h.nz⟩
end
end Go.Proofs.YteeigokkafcaaaaDoorRope
end
section
namespace Go.Proofs.YteeigokkafcaaaaDoorRope
open Go.RowKit Go.Proofs.YteeigokkafcaaaaDoorW.PrintWords Go.Proofs.YteeigokkafcaaaaDoorW.PrintMore Go.Proofs.YteeigokkafcaaaaDoor.Pr
set_option linter.unusedSimpArgs false
set_option linter.unusedVariables false
theorem sCells_append (a b : List (Int × Int)) : sCells (a ++ b) = sCells a ++ sCells b := by simp [sCells]
theorem sCells_take (a : List (Int × Int)) (n : Nat) : sCells (a.take n) = (sCells a).take n := by simp [sCells]
theorem sCells_drop (a : List (Int × Int)) (n : Nat) : sCells (a.drop n) = (sCells a).drop n := by simp [sCells]
set_option maxRecDepth 100000 in
set_option maxHeartbeats 16000000 in
theorem put_calls {cs : List (Int × Int)} {at_ : Nat} {rs : List Int} {hd : Int} (hat : at_ ≤ cs.length) (hb : cs.length + rs.length ≤ 1048576) (hls : Lets rs) {w : World} {A : Option Addr} {c : Nat} (hA : Kd.C k36 w A cs.length (sCells cs)) (hc : cs.length ≤ c) :
    Calls Tryd.prog 52 #[.slice A cs.length c, .int .i64 (at_ : Int), .string (txt rs), .int .i64 hd] w fun e w' => ∃ A' c', e = .returned (.slice A' (insC cs at_ rs hd).length c') ∧ Kd.R k36 36 w' w.heap.size (fun b => w.heap.size ≤ b) (.slice A' (insC cs at_ rs hd).length c') (sCells (insC cs at_ rs hd)) ∧ Below w.heap.size w w' := by
  have hA' : Kd.C k36 w A (sCells cs).length (sCells cs) := by rw [sCells_len]; exact hA
  have ht := Kd.C_take hA' (m := at_) (by rw [sCells_len]; exact hat)
  have hdr := Kd.C_drop hA' (m := at_) (c := c) (by rw [sCells_len]; exact hat) (by rw [sCells_len]; exact hc)
  rw [← sCells_take, sCells_len, List.length_take, Nat.min_eq_left hat] at ht
  rw [← sCells_drop, sCells_len, List.length_drop, show k36.sz = 2 from rfl] at hdr
  have b1 : (at_ : Int) ≤ (c : Int) := by omega
  have b2 : (at_ : Int) ≤ (cs.length : Int) := by omega
  have HB := Lib.hid hb
  have HAT := Lib.hid hat
  have HC := Lib.hid hc
  have hcc : (cs.length : Int) ≤ (c : Int) := by omega
  obtain ⟨N, hN⟩ : ∃ N, N = cs.length := ⟨_, rfl⟩
  rw [← hN] at hdr b2 hcc ⊢
  have HNN := Lib.hid hN
  clear hA hA' hb hat hc hN
  go_enter Tryd.func52, Tryd.ntmps52
  have HL0 : Hid ((([] : List S36).length + at_) * 16 ≤ 140737488355328) := Lib.hid (by have := HB.out; have := HAT.out; simp only [List.length_nil]; omega)
  go_wp2_with ((with_reducible refine gate_builtin (b := .append) (xs := #[.tmp 12, .tmp 15]) rfl ?_); at_builtin; refine Kd.R_append_rows k36 (w0 := w) w.heap.size rfl (.tmp 12) (.tmp 15) 25 36 (.agg #[.int .i32 0, .int .i64 0]) 16 rfl Tryd.underlying25 info36 rfl (by decide) (by decide) _ ([] : List S36) (sCells (cs.take at_)) _ _ _ (fun b => w.heap.size ≤ b) (fun _ => False) rfl rfl (Kd.R_nil _ _ _ _ _) ht (fun _ _ h => h) (fun _ h => h.elim) (fun _ h => h) (Below.refl _ _) (Nat.le_refl _) HL0.out ?_; intro v1 w1 hR1 hB1 hg1 hat1)
  rw [List.nil_append] at hR1
  clear hg1 hat1
  obtain ⟨wo, hwo⟩ : ∃ wo : World, wo = w1 := ⟨_, rfl⟩
  subst hwo
  have hk0 := iter_start wo rs
  have hB0 : Below w.heap.size w (wo.iter (txt rs) 0) := hB1.alloc hB1.size _
  have hR0 : Kd.R k36 36 (wo.iter (txt rs) 0) w.heap.size (fun b => w.heap.size ≤ b ∧ b ≠ wo.heap.size) _ (sCells (cs.take at_)) := Kd.R_mono (Kd.R_below (Kd.R_bound hR1) ((Below.refl _ wo).alloc (Nat.le_refl _) _)) (fun b hb => ⟨hb.1, by have := hb.2.2.1; omega⟩)
  obtain ⟨pre, hpre⟩ : ∃ pre, pre = cs.take at_ := ⟨_, rfl⟩
  rw [← hpre] at hR0
  have hpl0 : pre.length = at_ := by rw [hpre, List.length_take]; have := HAT.out; omega
  have HPRE := Lib.hid hpre
  have HPL := Lib.hid hpl0
  have hwz := hB1.size
  clear hpre hR1 hB1 hpl0 ht
  go_loopw [9] (fun v9 wx => ∃ j : Nat, j ≤ rs.length ∧ IterAt wx wo.heap.size rs j ∧ Kd.R k36 36 wx w.heap.size (fun b => w.heap.size ≤ b ∧ b ≠ wo.heap.size) v9 (sCells (pieceTo pre rs hd j)) ∧ Below w.heap.size w wx) (fun _ wx => leftOf wx wo.heap.size rs)
  case atStart => exact ⟨0, Nat.zero_le _, hk0, by rw [pieceTo_zero]; exact hR0, hB0⟩
  case round =>
    obtain ⟨j, hjl, hk, hRj, hBj⟩ := hrel
    clear hk0 hB0 hR0
    by_cases hlj : j < rs.length
    · obtain ⟨W1, p, r, hnext, ⟨hx, hr⟩, hp, hi1, ho1, hs1, hbl1⟩ := next_txt (P := Tryd.prog) hls.rns hk hlj
      have hR1 : Kd.R k36 36 W1 w.heap.size (fun b => w.heap.size ≤ b ∧ b ≠ wo.heap.size) _ (sCells (pieceTo pre rs hd j)) := Kd.R_step hRj (fun b hb _ => ho1 b hb.2)
      have hB1 := hbl1 hBj hwz
      have hz1 : wo.heap.size < W1.heap.size := IterAt.below.new_lt' hi1
      have hps := pieceTo_succ (pre := pre) (h := hd) hlj hr
      have hpl := pieceTo_len pre rs hd j
      have HK := Lib.hid hk
      have HI := Lib.hid hi1
      have HPS := Lib.hid hps
      have HL : Hid (((sCells (pieceTo pre rs hd j)).length + 1) * 16 ≤ 140737488355328) := Lib.hid (by rw [sCells_len]; have := HB.out; have := HPL.out; have := HAT.out; omega)
      clear hk hp ho1 hRj hBj hi1 hr hs1 hbl1 hps hpl
      go_wp2_with ((with_reducible refine gate_builtin (b := .append) (xs := #[.tmp 22, .tmp 26]) rfl ?_); at_builtin; refine Kd.R_append k36 (w0 := w) w.heap.size rfl (.tmp 22) (.tmp 26) 25 36 (.agg #[.int .i32 0, .int .i64 0]) 16 rfl Tryd.underlying25 info36 rfl (by decide) (by decide) _ (sCells (pieceTo pre rs hd j)) ⟨r, hd⟩ [.int .i32 r, .int .i64 hd] (fun b => w.heap.size ≤ b ∧ b ≠ wo.heap.size) (fun _ => False) rfl rfl ?aP (fun _ h => h.elim) ?aF hR1 hB1 hB1.size HL.out ?_; (case aP => exact k36_mkM _ _ _ ⟨_, _⟩); (case aF => exact fun b hb => ⟨Nat.le_trans hB1.size hb, by omega⟩); intro v1 w1 hR2 hB2 hg2 hat2)
      have hI2 : IterAt w1 wo.heap.size rs (j + 1) := HI.out.grown hg2 (fun e => (hR1.1 _ e.symm).2 rfl)
      have hR3 : Kd.R k36 36 w1 w.heap.size (fun b => w.heap.size ≤ b ∧ b ≠ wo.heap.size) v1 (sCells (pieceTo pre rs hd (j + 1))) := by rw [HPS.out, sCells_snoc]; exact hR2
      have hm := left_less HK.out hI2 hlj
      clear hR1 hR2 hB1 hz1
      go_wp2
      go_roundw
      case rel => exact ⟨j + 1, hlj, hI2, hR3, hB2⟩
      case measure => exact hm
    · have hnext := fun ty => next_txt_end (P := Tryd.prog) hk (by omega) ty
      have hj2 : j = rs.length := by omega
      subst hj2
      have hpa : pieceTo pre rs hd rs.length = pre ++ rs.map (fun c => (c, hd)) := by simp [pieceTo]
      rw [hpa] at hRj
      have HL2 : Hid (((sCells (pre ++ rs.map (fun c => (c, hd)))).length + (N - at_)) * 16 ≤ 140737488355328) := Lib.hid (by rw [sCells_len, List.length_append, List.length_map]; have := HB.out; have := HPL.out; have := HAT.out; have := HNN.out; omega)
      clear hlj hjl hpa
      have hzz : wo.heap.size < wr.heap.size := IterAt.below.new_lt' hk
      by_cases hca : c = at_
      · rw [if_pos hca] at hdr
        have hz0 : N - at_ = 0 := by have := HC.out; have := HNN.out; omega
        rw [hz0] at hdr HL2
        obtain rfl : at_ = c := hca.symm
        go_wp2_with ((with_reducible refine gate_builtin (b := .append) (xs := #[.tmp 28, .tmp 31]) rfl ?_); at_builtin; refine Kd.R_append_rows k36 (w0 := w) w.heap.size rfl (.tmp 28) (.tmp 31) 25 36 (.agg #[.int .i32 0, .int .i64 0]) 16 rfl Tryd.underlying25 info36 rfl (by decide) (by decide) _ (sCells (pre ++ rs.map (fun c => (c, hd)))) (sCells (cs.drop at_)) _ _ _ (fun b => w.heap.size ≤ b ∧ b ≠ wo.heap.size) (fun _ => False) rfl rfl hRj (Kd.C_below hdr hBj) (fun _ _ h => h) (fun _ h => h.elim) ?aF hBj hBj.size HL2.out ?_; (case aF => exact fun b hb => ⟨Nat.le_trans hBj.size hb, by omega⟩); intro v1 w1 hR2 hB2 hg2 hat2)
        clear hg2 hat2
        have he : sCells (pre ++ rs.map (fun c => (c, hd))) ++ sCells (cs.drop at_) = sCells (insC cs at_ rs hd) := by rw [← sCells_append, HPRE.out]; rfl
        rw [he] at hR2
        obtain ⟨A', c', hv⟩ := Kd.R_slice hR2
        rw [sCells_len] at hv
        subst hv
        clear he
        go_wp2
        go_ret
        exact ⟨A', c', rfl, Kd.R_mono hR2 (fun b hb => hb.1), hB2⟩
      · rw [if_neg hca] at hdr
        have hca1 : (c = at_) = False := eq_false hca
        have hca2 : (c == at_) = false := beq_eq_false_iff_ne.mpr hca
        go_wp2_with ((with_reducible refine gate_builtin (b := .append) (xs := #[.tmp 28, .tmp 31]) rfl ?_); at_builtin; refine Kd.R_append_rows k36 (w0 := w) w.heap.size rfl (.tmp 28) (.tmp 31) 25 36 (.agg #[.int .i32 0, .int .i64 0]) 16 rfl Tryd.underlying25 info36 rfl (by decide) (by decide) _ (sCells (pre ++ rs.map (fun c => (c, hd)))) (sCells (cs.drop at_)) _ _ _ (fun b => w.heap.size ≤ b ∧ b ≠ wo.heap.size) (fun _ => False) rfl rfl hRj (Kd.C_below hdr hBj) (fun _ _ h => h) (fun _ h => h.elim) ?aF hBj hBj.size HL2.out ?_; (case aF => exact fun b hb => ⟨Nat.le_trans hBj.size hb, by omega⟩); intro v1 w1 hR2 hB2 hg2 hat2)
        clear hg2 hat2
        have he : sCells (pre ++ rs.map (fun c => (c, hd))) ++ sCells (cs.drop at_) = sCells (insC cs at_ rs hd) := by rw [← sCells_append, HPRE.out]; rfl
        rw [he] at hR2
        obtain ⟨A', c', hv⟩ := Kd.R_slice hR2
        rw [sCells_len] at hv
        subst hv
        clear he
        go_wp2
        go_ret
        exact ⟨A', c', rfl, Kd.R_mono hR2 (fun b hb => hb.1), hB2⟩
end Go.Proofs.YteeigokkafcaaaaDoorRope
end
section
namespace Go.Proofs.YteeigokkafcaaaaDoor.Pr
open Go.RowKit Go.Proofs.YteeigokkafcaaaaDoorW.PrintWords Go.Proofs.YteeigokkafcaaaaDoorW.PrintLast Go.Proofs.YteeigokkafcaaaaDoorW.PrintMore
attribute [local go_sem] max2_int min2_int max_two min_two max_three min_three max_four min_four
set_option linter.unusedVariables false
set_option linter.unusedSimpArgs false
theorem eqA58 (d : Nat) (w : World) (x0 y0 : ByteArray) (x1 y1 : Int) :
  (Op.equalIn (d + 2) 58 (.agg #[.string x0, .int .i64 x1]) (.agg #[.string y0, .int .i64 y1])).run Tryd.prog w = .ok (x0.toList == y0.toList && (x1 == y1)) w := by
 refine eqA_of Tryd.underlying58 (by kernel_rfl) ?_
 refine eqf_cons (by rfl) (by go_simp; rfl) (by go_simp; rfl) (by go_simp) ?_
 exact eqf_last (by rfl) (by go_simp; rfl) (by go_simp; rfl) (by go_simp)
end Go.Proofs.YteeigokkafcaaaaDoor.Pr
end
section
namespace Go.Proofs.YteeigokkafcaaaaDoor.Pr
open Go.RowKit Go.Proofs.YteeigokkafcaaaaDoorW.PrintWords Go.Proofs.YteeigokkafcaaaaDoorW.PrintLast Go.Proofs.YteeigokkafcaaaaDoorW.PrintMore
attribute [local go_sem] max2_int min2_int max_two min_two max_three min_three max_four min_four
set_option linter.unusedVariables false
set_option linter.unusedSimpArgs false
attribute [local go_sem high] eqA58
mutual
def redraftlaw03_chosen.l0 : Nat → List (S36) → Int → Int → Bool → List (S133) → Int → Option ((List (S133)))
 | 0, _, _, _, _, _, _ => none
 | k + 1, x0, x1, x2, x3, x9, x10 => if x10 < (x0.length : Int) then ((redraftlaw03_rest.f x1 7).bind fun t164 => ((redraftlaw03_rest.f x2 11).bind fun t165 => ((redraftlaw03_rest.f (wrap64 ((wrap64 (x10 * t164)) + t165)) 11).bind fun t166 => (if t166 < 5 then (if x3 = true then (if 0 ≤ x10 then (redraftlaw03_chosen.j1 k x0 x1 x2 x3 x9 x10 (((rd_T36 x0 x10).f1) == 0)) else (none)) else (redraftlaw03_chosen.j1 k x0 x1 x2 x3 x9 x10 false)) else (redraftlaw03_chosen.j1 k x0 x1 x2 x3 x9 x10 true))))) else (some x9)
def redraftlaw03_chosen.j1 : Nat → List (S36) → Int → Int → Bool → List (S133) → Int → Bool → Option ((List (S133)))
 | 0, _, _, _, _, _, _, _ => none
 | k + 1, x0, x1, x2, x3, x9, x10, x40 => if x40 = true then (redraftlaw03_chosen.l0 k x0 x1 x2 x3 x9 (wrap64 (x10 + 1))) else (if (x9.length : Int) > 0 then (if 0 ≤ (wrap64 ((x9.length : Int) - 1)) then (if (wrap64 ((x9.length : Int) - 1)) < (x9.length : Int) then (if ((rd_T133 x9 (wrap64 ((x9.length : Int) - 1))).f1) = x10 then (redraftlaw03_chosen.l0 k x0 x1 x2 x3 (x9.set ((wrap64 ((x9.length : Int) - 1)) : Int).toNat (⟨(rd_T133 x9 (wrap64 ((x9.length : Int) - 1))).f0, wrap64 (x10 + 1)⟩ : S133)) (wrap64 (x10 + 1))) else (if x9.length < 8796093022208 then (redraftlaw03_chosen.l0 k x0 x1 x2 x3 (x9 ++ [(⟨x10, wrap64 (x10 + 1)⟩ : S133)]) (wrap64 (x10 + 1))) else (none))) else (none)) else (none)) else (if x9.length < 8796093022208 then (redraftlaw03_chosen.l0 k x0 x1 x2 x3 (x9 ++ [(⟨x10, wrap64 (x10 + 1)⟩ : S133)]) (wrap64 (x10 + 1))) else (none)))
end
def redraftlaw03_chosen.f (k : Nat) (l0 : List (S36)) (a1 : Int) (a2 : Int) (a3 : Bool) : Option ((List (S133))) := redraftlaw03_chosen.l0 k l0 a1 a2 a3 ([] : List (S133)) 0
theorem redraftlaw03_chosen.mono_l : ∀ k, (∀ y0 y1 y2 y3 y4 y5, LeO (redraftlaw03_chosen.l0 k y0 y1 y2 y3 y4 y5) (redraftlaw03_chosen.l0 (k + 1) y0 y1 y2 y3 y4 y5)) ∧ (∀ y0 y1 y2 y3 y4 y5 y6, LeO (redraftlaw03_chosen.j1 k y0 y1 y2 y3 y4 y5 y6) (redraftlaw03_chosen.j1 (k + 1) y0 y1 y2 y3 y4 y5 y6))
 | 0 => ⟨fun _ _ _ _ _ _ r h => by simp [redraftlaw03_chosen.l0] at h, fun _ _ _ _ _ _ _ r h => by simp [redraftlaw03_chosen.j1] at h⟩
 | k + 1 => by
  obtain ⟨ih0, ih1⟩ := redraftlaw03_chosen.mono_l k
  refine ⟨?_, ?_⟩
  ·intro y0 y1 y2 y3 y4 y5
   unfold redraftlaw03_chosen.l0
   repeat' first
   | (with_reducible exact ih0 _ _ _ _ _ _)
   | (with_reducible exact ih1 _ _ _ _ _ _ _)
   | (with_reducible exact LeO.refl _)
   | (with_reducible exact LeO.none _)
   | (with_reducible refine LeO.ite ?_ ?_)
   | (with_reducible refine LeO.bind ?_ (fun _ => ?_))
   | exact ih0 _ _ _ _ _ _
   | exact ih1 _ _ _ _ _ _ _
   | exact LeO.none _
   | refine LeO.ite ?_ ?_
   | refine LeO.bind ?_ (fun _ => ?_)
  ·intro y0 y1 y2 y3 y4 y5 y6
   unfold redraftlaw03_chosen.j1
   repeat' first
   | (with_reducible exact ih0 _ _ _ _ _ _)
   | (with_reducible exact ih1 _ _ _ _ _ _ _)
   | (with_reducible exact LeO.refl _)
   | (with_reducible exact LeO.none _)
   | (with_reducible refine LeO.ite ?_ ?_)
   | (with_reducible refine LeO.bind ?_ (fun _ => ?_))
   | exact ih0 _ _ _ _ _ _
   | exact ih1 _ _ _ _ _ _ _
   | exact LeO.none _
   | refine LeO.ite ?_ ?_
   | refine LeO.bind ?_ (fun _ => ?_)
theorem redraftlaw03_chosen.mono : ∀ a0 a1 a2 a3 k, LeO (redraftlaw03_chosen.f k a0 a1 a2 a3) (redraftlaw03_chosen.f (k + 1) a0 a1 a2 a3) := by
 intro a0 a1 a2 a3 k
 obtain ⟨ih0, ih1⟩ := redraftlaw03_chosen.mono_l k
 unfold redraftlaw03_chosen.f
 repeat' first
   | (with_reducible exact ih0 _ _ _ _ _ _)
   | (with_reducible exact ih1 _ _ _ _ _ _ _)
   | (with_reducible exact LeO.refl _)
   | (with_reducible exact LeO.none _)
   | (with_reducible refine LeO.ite ?_ ?_)
   | (with_reducible refine LeO.bind ?_ (fun _ => ?_))
   | exact ih0 _ _ _ _ _ _
   | exact ih1 _ _ _ _ _ _ _
   | exact LeO.none _
   | refine LeO.ite ?_ ?_
   | refine LeO.bind ?_ (fun _ => ?_)
set_option maxHeartbeats 8000000 in
set_option maxRecDepth 100000 in
theorem redraftlaw03_chosen.calls (k : Nat) (A0 : Option Addr) (c0 : Nat) (l0 : List (S36)) (a1 : Int) (a2 : Int) (a3 : Bool) (r : List (S133)) (w : World) (hr0 : Kd.C k36 w A0 l0.length l0) (hc0 : l0.length ≤ c0) (h : redraftlaw03_chosen.f k l0 a1 a2 a3 = some r) :
  Calls Tryd.prog 68 #[.slice A0 l0.length c0, .int .i64 a1, .int .i64 a2, .bool a3] w fun e w' => ∃ v0_ : Value, e = .returned (v0_) ∧ Kd.R k133 133 w' w.heap.size (fun _ => True) v0_ r ∧ Below w.heap.size w w' := by
 have hu133 := Tryd.underlying133
 have HR0 := Aside0.mk hr0
 have HC0 := Aside0.mk hc0
 clear hr0 hc0
 have HB := Aside0.mk (Below.refl w.heap.size w)
 have H : (redraftlaw03_chosen.l0 k l0 a1 a2 a3 ([] : List (S133)) 0) = some r := h
 clear h
 have H' := Aside0.mk H
 clear H
 go_enter Tryd.func68, Tryd.ntmps68
 go_wp2
 go_loopg [9, 10] k (fun kq v9 v10 w' => ∃ (x9_1 : List (S133)) (x10_1 : Int), v10 = .int .i64 x10_1 ∧ Aside0 (redraftlaw03_chosen.l0 kq l0 a1 a2 a3 x9_1 x10_1 = some r) ∧ Aside0 (kq ≤ k) ∧ Aside0 (Kd.R k133 133 w' w.heap.size (fun _ => True) v9 x9_1) ∧ Aside0 (Below w.heap.size w w'))
 case atStart => exact ⟨(([] : List (S133))), (0), (by first | rfl | (simp; done) | (simp [*]; done)), H', ⟨Nat.le_refl _⟩, ⟨by first | exact Kd.R_nil _ _ _ _ _ | exact Kd.N_nil _ _ _ _ _ | exact Kd.V_nil _ _ _ _ _ | exact Kd.Q_nil _ _ _ _ _ | exact Kd.S_nil _ _ _ _ _⟩, ⟨by repeat (first | (with_reducible first | exact HB.out | apply below_alloc | apply pw_below_drewN | apply below_drew1) | exact HB.out)⟩⟩
 case round =>
  clear H'
  try clear p2
  obtain ⟨x9_1, x10_1, rfl, HA, HK1, HO_9, HB⟩ := hrel
  cases gk with
  | zero => exact absurd HA.out (by simp [redraftlaw03_chosen.l0])
  | succ k1 =>
   have H := HA.out
   clear HA
   simp only [redraftlaw03_chosen.l0] at H
   by_cases c5 : x10_1 < (l0.length : Int)
   ·rw [if_pos c5] at H
    have c5b0 : decide (x10_1 < (l0.length : Int)) = true := decide_eq_true c5
    clear c5
    replace H := Option.bind_eq_some_iff.mp H
    obtain ⟨t164, A60, H⟩ := H
    replace H : ((redraftlaw03_rest.f a2 11).bind fun t165 => ((redraftlaw03_rest.f (wrap64 ((wrap64 (x10_1 * t164)) + t165)) 11).bind fun t166 => (if t166 < 5 then (if a3 = true then (if 0 ≤ x10_1 then (redraftlaw03_chosen.j1 k1 l0 a1 a2 a3 x9_1 x10_1 (((rd_T36 l0 x10_1).f1) == 0)) else (none)) else (redraftlaw03_chosen.j1 k1 l0 a1 a2 a3 x9_1 x10_1 false)) else (redraftlaw03_chosen.j1 k1 l0 a1 a2 a3 x9_1 x10_1 true)))) = some r := H
    have A6 := Aside0.mk A60
    clear A60
    replace H := Option.bind_eq_some_iff.mp H
    obtain ⟨t165, A70, H⟩ := H
    replace H : ((redraftlaw03_rest.f (wrap64 ((wrap64 (x10_1 * t164)) + t165)) 11).bind fun t166 => (if t166 < 5 then (if a3 = true then (if 0 ≤ x10_1 then (redraftlaw03_chosen.j1 k1 l0 a1 a2 a3 x9_1 x10_1 (((rd_T36 l0 x10_1).f1) == 0)) else (none)) else (redraftlaw03_chosen.j1 k1 l0 a1 a2 a3 x9_1 x10_1 false)) else (redraftlaw03_chosen.j1 k1 l0 a1 a2 a3 x9_1 x10_1 true))) = some r := H
    have A7 := Aside0.mk A70
    clear A70
    replace H := Option.bind_eq_some_iff.mp H
    obtain ⟨t166, A80, H⟩ := H
    replace H : (if t166 < 5 then (if a3 = true then (if 0 ≤ x10_1 then (redraftlaw03_chosen.j1 k1 l0 a1 a2 a3 x9_1 x10_1 (((rd_T36 l0 x10_1).f1) == 0)) else (none)) else (redraftlaw03_chosen.j1 k1 l0 a1 a2 a3 x9_1 x10_1 false)) else (redraftlaw03_chosen.j1 k1 l0 a1 a2 a3 x9_1 x10_1 true)) = some r := H
    have A8 := Aside0.mk A80
    clear A80
    have HC9 := Aside0.mk H
    clear H
    go_upto_region 6 with (first | ((with_reducible refine gate_callee (f := 28) rfl ?_); refine goesL_ (some 21) rfl rfl Tryd.func28 (by kernel_rfl) rfl #[.int .i64 a1, .int .i64 7] rfl (by (try simp only [List.map_toArray, List.map_cons, List.map_nil]); first | done | rfl | (simp only [List.length_drop, List.length_take]; rfl)) ?_; (with_reducible refine (redraftlaw03_rest.calls a1 7 t164 _ A6.out).mono ?_); rintro e w' ⟨rfl, ⟨nd, rfl⟩⟩; refine ⟨_, rfl, ?_⟩) | ((with_reducible refine gate_callee (f := 28) rfl ?_); refine goesL_ (some 24) rfl rfl Tryd.func28 (by kernel_rfl) rfl #[.int .i64 a2, .int .i64 11] rfl (by (try simp only [List.map_toArray, List.map_cons, List.map_nil]); first | done | rfl | (simp only [List.length_drop, List.length_take]; rfl)) ?_; (with_reducible refine (redraftlaw03_rest.calls a2 11 t165 _ A7.out).mono ?_); rintro e w' ⟨rfl, ⟨nd, rfl⟩⟩; refine ⟨_, rfl, ?_⟩) | ((with_reducible refine gate_callee (f := 28) rfl ?_); refine goesL_ (some 26) rfl rfl Tryd.func28 (by kernel_rfl) rfl #[.int .i64 (wrap64 ((wrap64 (x10_1 * t164)) + t165)), .int .i64 11] rfl (by (try simp only [List.map_toArray, List.map_cons, List.map_nil]); first | done | rfl | (simp only [List.length_drop, List.length_take]; rfl)) ?_; (with_reducible refine (redraftlaw03_rest.calls (wrap64 ((wrap64 (x10_1 * t164)) + t165)) 11 t166 _ A8.out).mono ?_); rintro e w' ⟨rfl, ⟨nd, rfl⟩⟩; refine ⟨_, rfl, ?_⟩))
    (try simp only [Act.put, List.setIfInBounds_toArray, List.set_cons_zero, List.set_cons_succ])
    go_cut [11, 40] (fun v11 v40 wc => ∃ (kq : Nat) (x40_8 : Bool), v40 = .bool x40_8 ∧ Aside0 (redraftlaw03_chosen.j1 kq l0 a1 a2 a3 x9_1 x10_1 x40_8 = some r) ∧ Aside0 (kq ≤ k1) ∧ Aside0 (Kd.R k133 133 wc w.heap.size (fun _ => True) u9 x9_1) ∧ Aside0 (Below w.heap.size w wc))
    case first =>
     have H := HC9.out
     clear HC9
     by_cases c10 : t166 < 5
     ·rw [if_pos c10] at H
      have c10b0 : decide (t166 < 5) = true := decide_eq_true c10
      clear c10
      (first | rw [c10b0] | (simp only [i64_w, i32_w]; rw [c10b0]) | skip)
      by_cases c11 : a3 = true
      ·subst c11
       have H1 : (if 0 ≤ x10_1 then (redraftlaw03_chosen.j1 k1 l0 a1 a2 true x9_1 x10_1 (((rd_T36 l0 x10_1).f1) == 0)) else (none)) = some r := by rw [if_pos rfl] at H; exact H
       clear H
       have H := H1
       clear H1
       by_cases c12 : 0 ≤ x10_1
       ·rw [if_pos c12] at H
        have c12b0 : decide (0 ≤ x10_1) = true := decide_eq_true c12
        clear c12
        have H' := Aside0.mk H
        clear H
        have p167 : 0 ≤ (x10_1 : Int) := of_decide_eq_true (by first | (with_reducible assumption) | assumption)
        have q167 : x10_1 < (l0.length : Int) := of_decide_eq_true (by first | (with_reducible assumption) | assumption)
        obtain ⟨ad167, e167, hx167_0, hx167_1⟩ := at_T36 HR0.out x10_1 p167 q167
        cases e167
        replace hx167_0 := (HB.out.cell (World.block_lt_of_cell? w _ hx167_0)).trans hx167_0
        replace hx167_1 := (HB.out.cell (World.block_lt_of_cell? w _ hx167_1)).trans hx167_1
        replace p167 := eq_true p167
        replace q167 := eq_true q167
        go_wp2
        go_meet
        case rel => exact ⟨_, ((((rd_T36 l0 x10_1).f1) == 0)), (by first | rfl | (simp; done) | (simp [*]; done)), H', ⟨by have := HK1.out; first | omega | exact Nat.le_refl _⟩, ⟨by (with_reducible repeat (first | apply Kd.R_alloc | apply Kd.R_drewN | apply Kd.R_drew)); exact HO_9.out⟩, ⟨by repeat (first | (with_reducible first | exact HB.out | apply below_alloc | apply pw_below_drewN | apply below_drew1) | exact HB.out)⟩⟩
       ·rw [if_neg c12] at H
        exact absurd H (by simp)
      ·replace c11 := Bool.eq_false_iff.mpr c11
       subst c11
       have H1 : (redraftlaw03_chosen.j1 k1 l0 a1 a2 false x9_1 x10_1 false) = some r := by rw [if_neg (show ¬ (false = true) by decide)] at H; exact H
       clear H
       have H := H1
       clear H1
       have H' := Aside0.mk H
       clear H
       go_wp2
       go_meet
       case rel => exact ⟨_, (false), (by first | rfl | (simp; done) | (simp [*]; done)), H', ⟨by have := HK1.out; first | omega | exact Nat.le_refl _⟩, ⟨by (with_reducible repeat (first | apply Kd.R_alloc | apply Kd.R_drewN | apply Kd.R_drew)); exact HO_9.out⟩, ⟨by repeat (first | (with_reducible first | exact HB.out | apply below_alloc | apply pw_below_drewN | apply below_drew1) | exact HB.out)⟩⟩
     ·rw [if_neg c10] at H
      have c10b0 : decide (t166 < 5) = false := decide_eq_false c10
      clear c10
      (first | rw [c10b0] | (simp only [i64_w, i32_w]; rw [c10b0]) | skip)
      have H' := Aside0.mk H
      clear H
      go_wp2
      go_meet
      case rel => exact ⟨_, (true), (by first | rfl | (simp; done) | (simp [*]; done)), H', ⟨by have := HK1.out; first | omega | exact Nat.le_refl _⟩, ⟨by (with_reducible repeat (first | apply Kd.R_alloc | apply Kd.R_drewN | apply Kd.R_drew)); exact HO_9.out⟩, ⟨by repeat (first | (with_reducible first | exact HB.out | apply below_alloc | apply pw_below_drewN | apply below_drew1) | exact HB.out)⟩⟩
    case rest =>
     clear HC9
     try clear c1
     try clear p1
     try clear q1
     try clear hx1
     try clear c2
     try clear p2
     try clear c5
     try clear c5b0
     try clear c6
     try clear p6
     try clear c10
     try clear c10b0
     try clear c11
     try clear c12
     try clear c12b0
     try clear hx167_0
     try clear hx167_1
     try clear p167
     try clear p2
     try clear q167
     obtain ⟨kq, x40_8, rfl, HA, HJ8, HO_9, HB⟩ := hcut
     cases kq with
     | zero => exact absurd HA.out (by simp [redraftlaw03_chosen.j1])
     | succ kj8 =>
      have H := HA.out
      clear HA
      simp only [redraftlaw03_chosen.j1] at H
      by_cases c13 : x40_8 = true
      ·subst c13
       have H1 : (redraftlaw03_chosen.l0 kj8 l0 a1 a2 a3 x9_1 (wrap64 (x10_1 + 1))) = some r := by rw [if_pos rfl] at H; exact H
       clear H
       have H := H1
       clear H1
       have H' := Aside0.mk H
       clear H
       go_wp2
       go_roundg kj8
       case measure => have := HK1.out; have := HJ8.out; omega
       case rel => exact ⟨(x9_1), (wrap64 (x10_1 + 1)), (by first | rfl | (simp; done) | (simp [*]; done)), H', ⟨by have := HK1.out; have := HJ8.out; omega⟩, ⟨by (with_reducible repeat (first | apply Kd.R_alloc | apply Kd.R_drewN | apply Kd.R_drew)); exact HO_9.out⟩, ⟨by repeat (first | (with_reducible first | exact HB.out | apply below_alloc | apply pw_below_drewN | apply below_drew1) | exact HB.out)⟩⟩
      ·replace c13 := Bool.eq_false_iff.mpr c13
       subst c13
       have H1 : (if (x9_1.length : Int) > 0 then (if 0 ≤ (wrap64 ((x9_1.length : Int) - 1)) then (if (wrap64 ((x9_1.length : Int) - 1)) < (x9_1.length : Int) then (if ((rd_T133 x9_1 (wrap64 ((x9_1.length : Int) - 1))).f1) = x10_1 then (redraftlaw03_chosen.l0 kj8 l0 a1 a2 a3 (x9_1.set ((wrap64 ((x9_1.length : Int) - 1)) : Int).toNat (⟨(rd_T133 x9_1 (wrap64 ((x9_1.length : Int) - 1))).f0, wrap64 (x10_1 + 1)⟩ : S133)) (wrap64 (x10_1 + 1))) else (if x9_1.length < 8796093022208 then (redraftlaw03_chosen.l0 kj8 l0 a1 a2 a3 (x9_1 ++ [(⟨x10_1, wrap64 (x10_1 + 1)⟩ : S133)]) (wrap64 (x10_1 + 1))) else (none))) else (none)) else (none)) else (if x9_1.length < 8796093022208 then (redraftlaw03_chosen.l0 kj8 l0 a1 a2 a3 (x9_1 ++ [(⟨x10_1, wrap64 (x10_1 + 1)⟩ : S133)]) (wrap64 (x10_1 + 1))) else (none))) = some r := by rw [if_neg (show ¬ (false = true) by decide)] at H; exact H
       clear H
       have H := H1
       clear H1
       by_cases c14 : (x9_1.length : Int) > 0
       ·rw [if_pos c14] at H
        have c14b0 : decide (0 < (x9_1.length : Int)) = true := decide_eq_true c14
        have c14b1 : decide (0 < x9_1.length) = true := decide_eq_true (by omega)
        clear c14
        obtain ⟨ji15, hji15⟩ : ∃ j_ : Int, (wrap64 ((x9_1.length : Int) - 1)) = j_ := ⟨_, rfl⟩
        replace H : (if 0 ≤ (ji15) then (if (ji15) < (x9_1.length : Int) then (if ((rd_T133 x9_1 (ji15)).f1) = x10_1 then (redraftlaw03_chosen.l0 kj8 l0 a1 a2 a3 (x9_1.set ((ji15) : Int).toNat (⟨(rd_T133 x9_1 (ji15)).f0, wrap64 (x10_1 + 1)⟩ : S133)) (wrap64 (x10_1 + 1))) else (if x9_1.length < 8796093022208 then (redraftlaw03_chosen.l0 kj8 l0 a1 a2 a3 (x9_1 ++ [(⟨x10_1, wrap64 (x10_1 + 1)⟩ : S133)]) (wrap64 (x10_1 + 1))) else (none))) else (none)) else (none)) = some r := by first | (rw [hji15] at H; exact H) | (simp only [hji15] at H ⊢; exact H)
        have hji15w : (IntKind.i64.wrap ((x9_1.length : Int) - 1)) = ji15 := (i64_w _).trans hji15
        by_cases c16 : 0 ≤ (ji15)
        ·rw [if_pos c16] at H
         have c16b0 : decide (0 ≤ (ji15)) = true := decide_eq_true c16
         clear c16
         by_cases c17 : (ji15) < (x9_1.length : Int)
         ·rw [if_pos c17] at H
          have c17b0 : decide ((ji15) < (x9_1.length : Int)) = true := decide_eq_true c17
          clear c17
          by_cases c18 : ((rd_T133 x9_1 (ji15)).f1) = x10_1
          ·rw [if_pos c18] at H
           have c18b0 : (((rd_T133 x9_1 (ji15)).f1) == x10_1) = true := beq_iff_eq.mpr c18
           have c18b1 : (((rd_T133 x9_1 (ji15)).f1) != x10_1) = false := bne_eq_false_iff_eq.mpr c18
           clear c18
           obtain ⟨y169, hy169⟩ : ∃ y_ : List (S133), y_ = (x9_1.set ((ji15) : Int).toNat (⟨(rd_T133 x9_1 (ji15)).f0, wrap64 (x10_1 + 1)⟩ : S133)) := ⟨_, rfl⟩
           replace H : (redraftlaw03_chosen.l0 kj8 l0 a1 a2 a3 y169 (wrap64 (x10_1 + 1))) = some r := by first | (rw [hy169]; with_reducible exact H) | (have H2_ := (Option.bind_some _ _).symm.trans H; rw [hy169]; with_reducible exact H2_) | (have H2_ := (Option.bind_some _ _).symm.trans H; with_reducible exact H2_) | with_reducible exact H | (rw [hy169]; exact H) | exact H
           have Ny169 := Aside0.mk hy169
           clear hy169
           have H' := Aside0.mk H
           clear H
           obtain ⟨Ao20, co20, eo20⟩ := Kd.R_slice HO_9.out
           subst eo20
           have p168 : 0 ≤ ((ji15) : Int) := of_decide_eq_true (by first | (with_reducible assumption) | assumption)
           have q168 : (ji15) < (x9_1.length : Int) := of_decide_eq_true (by first | (with_reducible assumption) | assumption)
           obtain ⟨ad168, e168, hx168_0, hx168_1⟩ := at_T133 (Kd.R_reads' HO_9.out).2.2 (ji15) p168 q168
           cases e168
           replace p168 := eq_true p168
           replace q168 := eq_true q168
           have p19 : 0 ≤ ((ji15) : Int) := of_decide_eq_true (by first | (with_reducible assumption) | assumption)
           have q19 : ((ji15) : Int) < ((x9_1.length : Int) : Int) := of_decide_eq_true (by first | (with_reducible assumption) | assumption)
           obtain ⟨go19, co19, eo19, gb19, gl19, cl19, HG19⟩ := Kd.R_form HO_9.out (by omega)
           (first | cases eo19 | (injection eo19 with ea_ en_ ec_; (first | subst ea_ | (injection ea_ with ea_; subst ea_)); subst ec_; clear en_))
           have GB19 := Aside0.mk gb19
           have GG19 := Aside0.mk HG19
           clear gb19 gl19 HG19
           (first | simp only [add_plain] at hx168_0 | skip)
           (first | simp only [add_plain] at hx168_1 | skip)
           obtain ⟨ce19, hcl19, hM19, hcc19, hfr19⟩ := Kd.R_elem HO_9.out z133 ((ji15) : Int) p19 q19
           obtain rfl := k133_openM hM19
           have hx19_0 : wc.cell? ⟨go19, ((ji15) : Int).toNat * 2, none⟩ = some (.int .i64 ((rd_T133 x9_1 (ji15)).f0)) := hcc19 0 _ rfl
           have hx19_1 : wc.cell? ⟨go19, ((ji15) : Int).toNat * 2 + 1, none⟩ = some (.int .i64 ((rd_T133 x9_1 (ji15)).f1)) := hcc19 1 _ rfl
           have hf19_0 : wc.frozen? ⟨go19, ((ji15) : Int).toNat * 2, none⟩ = false := hfr19 0
           have hf19_1 : wc.frozen? ⟨go19, ((ji15) : Int).toNat * 2 + 1, none⟩ = false := hfr19 1
           clear hcl19 hcc19 hfr19 hM19
           replace p19 := eq_true p19
           replace q19 := eq_true q19
           have HX21 := Aside0.mk (show Kd.R k133 133 wc w.heap.size (fun _ => True) (.slice (some ⟨go19, 0, none⟩) x9_1.length co20) x9_1 from (by (with_reducible repeat (first | apply Kd.R_alloc | apply Kd.R_drewN | apply Kd.R_drew)); exact HO_9.out))
           obtain ⟨ce21, hcl21, hM21, hcc21, hfr21⟩ := Kd.R_elem HX21.out z133 ((ji15) : Int) (of_decide_eq_true (by first | (with_reducible assumption) | assumption)) (by have h_ : ((ji15) : Int) < ((x9_1.length : Int) : Int) := of_decide_eq_true (by first | (with_reducible assumption) | assumption); first | exact h_ | (have e_ := (Kd.R_reads' HO_9.out).1; omega) | simpa using h_)
           obtain rfl := k133_openM hM21
           have HP21 := Kd.R_seg HX21.out ((ji15) : Int) (of_decide_eq_true (by first | (with_reducible assumption) | assumption)) (by have h_ : ((ji15) : Int) < ((x9_1.length : Int) : Int) := of_decide_eq_true (by first | (with_reducible assumption) | assumption); first | exact h_ | (have e_ := (Kd.R_reads' HO_9.out).1; omega) | simpa using h_) (seg := [.int .i64 (wrap64 (x10_1 + 1))]) (j := 1) hcl21 hcc21 (show 2 ≤ 2 from by decide) (x' := (⟨(rd_T133 x9_1 (ji15)).f0, wrap64 (x10_1 + 1)⟩ : S133)) (k133_mkM _ _ _ (⟨(rd_T133 x9_1 (ji15)).f0, wrap64 (x10_1 + 1)⟩ : S133) ) (fun _ hk => hk)
           have hx21_1 := hcc21 1 _ rfl
           (try simp only [show (k133).sz = 2 from rfl, Nat.mul_one, Nat.add_zero] at hx21_1)
           have hf21_1 := hfr21 1
           (try simp only [show (k133).sz = 2 from rfl, Nat.mul_one, Nat.add_zero] at hf21_1)
           clear hcl21 hcc21 hfr21 hM21
           go_wp2_with (first | ((with_reducible refine gate_store (t := 3) (p := 61) rfl ?_); refine store_event (t := 3) (p := 61) (v := ?vo_w22) (w1 := (wc.setCell ⟨go19, ((ji15) : Int).toNat * 2 + 1, none⟩ (.int .i64 (wrap64 (x10_1 + 1))))) ?hg ?ho ?hn ?hr ?_; (case ho => rfl); (case hg => rfl); (case hn => rfl); (case hr => first | (go_simp; done) | (go_simp; rfl)); intro w22 hw; have hg : wc.grownBy w22 (some go19) := (by rw [hw]; exact HP21.2); have hp_ : Kd.R k133 133 w22 w.heap.size (fun _ => True) (.slice (some ⟨go19, 0, none⟩) x9_1.length co20) y169 := (by rw [hw, Ny169.out]; exact HP21.1); clear HP21; have n0_ := Aside0.mk (hp_); have n1_ := Aside0.mk ((by rw [hw]; exact below_set (HB.out) GB19.out : Below w.heap.size w w22)); clear HO_9; clear HB; have HO_9 := n0_; have HB := n1_; clear n0_ n1_; clear hg hw hp_))
           go_roundg kj8
           case measure => have := HK1.out; have := HJ8.out; omega
           case rel => exact ⟨(y169), (wrap64 (x10_1 + 1)), (by first | rfl | (simp; done) | (simp [*]; done)), H', ⟨by have := HK1.out; have := HJ8.out; omega⟩, ⟨by (with_reducible repeat (first | apply Kd.R_alloc | apply Kd.R_drewN | apply Kd.R_drew)); exact HO_9.out⟩, ⟨by repeat (first | (with_reducible first | exact HB.out | apply below_alloc | apply pw_below_drewN | apply below_drew1) | exact HB.out)⟩⟩
          ·rw [if_neg c18] at H
           have c18b0 : (((rd_T133 x9_1 (ji15)).f1) == x10_1) = false := beq_eq_false_iff_ne.mpr c18
           have c18b1 : (((rd_T133 x9_1 (ji15)).f1) != x10_1) = true := bne_iff_ne.mpr c18
           by_cases c23 : x9_1.length < 8796093022208
           ·rw [if_pos c23] at H
            have LMc23 := Aside0.mk c23
            clear c23
            obtain ⟨y170, hy170⟩ : ∃ y_ : List (S133), y_ = (x9_1 ++ [(⟨x10_1, wrap64 (x10_1 + 1)⟩ : S133)]) := ⟨_, rfl⟩
            replace H : (redraftlaw03_chosen.l0 kj8 l0 a1 a2 a3 y170 (wrap64 (x10_1 + 1))) = some r := by first | (rw [hy170]; with_reducible exact H) | (have H2_ := (Option.bind_some _ _).symm.trans H; rw [hy170]; with_reducible exact H2_) | (have H2_ := (Option.bind_some _ _).symm.trans H; with_reducible exact H2_) | with_reducible exact H | (rw [hy170]; exact H) | exact H
            have Ny170 := Aside0.mk hy170
            clear hy170
            have H' := Aside0.mk H
            clear H
            obtain ⟨Ao24, co24, eo24⟩ := Kd.R_slice HO_9.out
            subst eo24
            have p168 : 0 ≤ ((ji15) : Int) := of_decide_eq_true (by first | (with_reducible assumption) | assumption)
            have q168 : (ji15) < (x9_1.length : Int) := of_decide_eq_true (by first | (with_reducible assumption) | assumption)
            obtain ⟨ad168, e168, hx168_0, hx168_1⟩ := at_T133 (Kd.R_reads' HO_9.out).2.2 (ji15) p168 q168
            cases e168
            replace p168 := eq_true p168
            replace q168 := eq_true q168
            go_wp2_with (first | ((with_reducible refine gate_builtin (b := .append) (xs := #[.tmp 62, .tmp 67]) rfl ?_); at_builtin; refine Kd.R_append k133 (w0 := w) w.heap.size rfl (.tmp 62) (.tmp 67) 61 133 (.agg #[(.int .i64 0), (.int .i64 0)]) 16 rfl Tryd.underlying61 info133 rfl (by decide) (by omega) (.slice (some ad168) x9_1.length co24) x9_1 (⟨x10_1, wrap64 (x10_1 + 1)⟩ : S133) [.int .i64 x10_1, .int .i64 (wrap64 (x10_1 + 1))] (fun _ => True) (fun _ => False) rfl rfl ?aP (fun _ hk => hk.elim) ?aF ?aO ?aB ?aS ?aL ?_; (case aP => exact k133_mkM _ _ _ (⟨x10_1, wrap64 (x10_1 + 1)⟩ : S133)); (case aB => exact (by repeat (first | (with_reducible first | exact HB.out | apply below_alloc | apply pw_below_drewN | apply below_drew1) | exact HB.out))); (case aF => exact (fun _ _ => trivial)); (case aO => exact (by (with_reducible repeat (first | apply Kd.R_alloc | apply Kd.R_drewN | apply Kd.R_drew)); exact HO_9.out)); (case aS => exact (below_size (by repeat (first | (with_reducible first | exact HB.out | apply below_alloc | apply pw_below_drewN | apply below_drew1) | exact HB.out)))); (case aL => have := LMc23.out; omega); intro v171 w25 ho hb hg hat; rw [← Ny170.out] at ho; have n0_ := Aside0.mk (hb); have n1_ := Aside0.mk (ho); clear HB; clear HO_9; have HB := n0_; have HO172 := n1_; clear n0_ n1_; clear ho hb hg hat))
            go_roundg kj8
            case measure => have := HK1.out; have := HJ8.out; omega
            case rel => exact ⟨(y170), (wrap64 (x10_1 + 1)), (by first | rfl | (simp; done) | (simp [*]; done)), H', ⟨by have := HK1.out; have := HJ8.out; omega⟩, ⟨by (with_reducible repeat (first | apply Kd.R_alloc | apply Kd.R_drewN | apply Kd.R_drew)); exact HO172.out⟩, ⟨by repeat (first | (with_reducible first | exact HB.out | apply below_alloc | apply pw_below_drewN | apply below_drew1) | exact HB.out)⟩⟩
           ·rw [if_neg c23] at H
            exact absurd H (by simp)
         ·rw [if_neg c17] at H
          exact absurd H (by simp)
        ·rw [if_neg c16] at H
         exact absurd H (by simp)
       ·rw [if_neg c14] at H
        have c14b0 : decide (0 < (x9_1.length : Int)) = false := decide_eq_false c14
        have c14b1 : decide (0 < x9_1.length) = false := decide_eq_false (by omega)
        clear c14
        by_cases c26 : x9_1.length < 8796093022208
        ·rw [if_pos c26] at H
         have LMc26 := Aside0.mk c26
         clear c26
         obtain ⟨y173, hy173⟩ : ∃ y_ : List (S133), y_ = (x9_1 ++ [(⟨x10_1, wrap64 (x10_1 + 1)⟩ : S133)]) := ⟨_, rfl⟩
         replace H : (redraftlaw03_chosen.l0 kj8 l0 a1 a2 a3 y173 (wrap64 (x10_1 + 1))) = some r := by first | (rw [hy173]; with_reducible exact H) | (have H2_ := (Option.bind_some _ _).symm.trans H; rw [hy173]; with_reducible exact H2_) | (have H2_ := (Option.bind_some _ _).symm.trans H; with_reducible exact H2_) | with_reducible exact H | (rw [hy173]; exact H) | exact H
         have Ny173 := Aside0.mk hy173
         clear hy173
         have H' := Aside0.mk H
         clear H
         obtain ⟨Ao27, co27, eo27⟩ := Kd.R_slice HO_9.out
         subst eo27
         go_wp2_with (first | ((with_reducible refine gate_builtin (b := .append) (xs := #[.tmp 62, .tmp 67]) rfl ?_); at_builtin; refine Kd.R_append k133 (w0 := w) w.heap.size rfl (.tmp 62) (.tmp 67) 61 133 (.agg #[(.int .i64 0), (.int .i64 0)]) 16 rfl Tryd.underlying61 info133 rfl (by decide) (by omega) (.slice Ao27 x9_1.length co27) x9_1 (⟨x10_1, wrap64 (x10_1 + 1)⟩ : S133) [.int .i64 x10_1, .int .i64 (wrap64 (x10_1 + 1))] (fun _ => True) (fun _ => False) rfl rfl ?aP (fun _ hk => hk.elim) ?aF ?aO ?aB ?aS ?aL ?_; (case aP => exact k133_mkM _ _ _ (⟨x10_1, wrap64 (x10_1 + 1)⟩ : S133)); (case aB => exact (by repeat (first | (with_reducible first | exact HB.out | apply below_alloc | apply pw_below_drewN | apply below_drew1) | exact HB.out))); (case aF => exact (fun _ _ => trivial)); (case aO => exact (by (with_reducible repeat (first | apply Kd.R_alloc | apply Kd.R_drewN | apply Kd.R_drew)); exact HO_9.out)); (case aS => exact (below_size (by repeat (first | (with_reducible first | exact HB.out | apply below_alloc | apply pw_below_drewN | apply below_drew1) | exact HB.out)))); (case aL => have := LMc26.out; omega); intro v174 w28 ho hb hg hat; rw [← Ny173.out] at ho; have n0_ := Aside0.mk (hb); have n1_ := Aside0.mk (ho); clear HB; clear HO_9; have HB := n0_; have HO175 := n1_; clear n0_ n1_; clear ho hb hg hat))
         go_roundg kj8
         case measure => have := HK1.out; have := HJ8.out; omega
         case rel => exact ⟨(y173), (wrap64 (x10_1 + 1)), (by first | rfl | (simp; done) | (simp [*]; done)), H', ⟨by have := HK1.out; have := HJ8.out; omega⟩, ⟨by (with_reducible repeat (first | apply Kd.R_alloc | apply Kd.R_drewN | apply Kd.R_drew)); exact HO175.out⟩, ⟨by repeat (first | (with_reducible first | exact HB.out | apply below_alloc | apply pw_below_drewN | apply below_drew1) | exact HB.out)⟩⟩
        ·rw [if_neg c26] at H
         exact absurd H (by simp)
   ·rw [if_neg c5] at H
    have c5b0 : decide (x10_1 < (l0.length : Int)) = false := decide_eq_false c5
    clear c5
    obtain rfl := Option.some.inj H
    go_wp2
    go_ret
    exact ⟨_, by first | rfl | (simp [errW_none, errW_some] <;> rfl) | (simp [*, errW_none, errW_some] <;> rfl), by (with_reducible repeat (first | apply Kd.R_alloc | apply Kd.R_drewN | apply Kd.R_drew)); exact HO_9.out, by repeat (first | (with_reducible first | exact HB.out | apply below_alloc | apply pw_below_drewN | apply below_drew1) | exact HB.out)⟩
def redraftlaw03_EqRuns.l0 : Nat → List (S58) → List (S58) → Int → Option (Bool)
 | 0, _, _, _ => none
 | k + 1, x0, x1, x5 => if x5 < (x0.length : Int) then (if 0 ≤ x5 then (if x5 < (x1.length : Int) then (if (!((((rd_T58 x0 x5).f0).toList) == (((rd_T58 x1 x5).f0).toList)) || (!(((rd_T58 x0 x5).f1) == ((rd_T58 x1 x5).f1)))) = true then (some false) else (redraftlaw03_EqRuns.l0 k x0 x1 (wrap64 (x5 + 1)))) else (none)) else (none)) else (some true)
def redraftlaw03_EqRuns.f (k : Nat) (l0 : List (S58)) (l1 : List (S58)) : Option (Bool) := if (l0.length : Int) = (l1.length : Int) then (redraftlaw03_EqRuns.l0 k l0 l1 0) else (some false)
theorem redraftlaw03_EqRuns.mono_l : ∀ k, (∀ y0 y1 y2, LeO (redraftlaw03_EqRuns.l0 k y0 y1 y2) (redraftlaw03_EqRuns.l0 (k + 1) y0 y1 y2))
 | 0 => fun _ _ _ r h => by simp [redraftlaw03_EqRuns.l0] at h
 | k + 1 => by
  have ih0 := redraftlaw03_EqRuns.mono_l k
  ·intro y0 y1 y2
   unfold redraftlaw03_EqRuns.l0
   repeat' first
   | (with_reducible exact ih0 _ _ _)
   | (with_reducible exact LeO.refl _)
   | (with_reducible exact LeO.none _)
   | (with_reducible refine LeO.ite ?_ ?_)
   | (with_reducible refine LeO.bind ?_ (fun _ => ?_))
   | exact ih0 _ _ _
   | exact LeO.none _
   | refine LeO.ite ?_ ?_
   | refine LeO.bind ?_ (fun _ => ?_)
theorem redraftlaw03_EqRuns.mono : ∀ a0 a1 k, LeO (redraftlaw03_EqRuns.f k a0 a1) (redraftlaw03_EqRuns.f (k + 1) a0 a1) := by
 intro a0 a1 k
 have ih0 := redraftlaw03_EqRuns.mono_l k
 unfold redraftlaw03_EqRuns.f
 repeat' first
   | (with_reducible exact ih0 _ _ _)
   | (with_reducible exact LeO.refl _)
   | (with_reducible exact LeO.none _)
   | (with_reducible refine LeO.ite ?_ ?_)
   | (with_reducible refine LeO.bind ?_ (fun _ => ?_))
   | exact ih0 _ _ _
   | exact LeO.none _
   | refine LeO.ite ?_ ?_
   | refine LeO.bind ?_ (fun _ => ?_)
set_option maxHeartbeats 8000000 in
set_option maxRecDepth 100000 in
theorem redraftlaw03_EqRuns.calls (k : Nat) (A0 : Option Addr) (c0 : Nat) (l0 : List (S58)) (A1 : Option Addr) (c1 : Nat) (l1 : List (S58)) (r : Bool) (w : World) (hr0 : Kd.C k58 w A0 l0.length l0) (hc0 : l0.length ≤ c0) (hr1 : Kd.C k58 w A1 l1.length l1) (hc1 : l1.length ≤ c1) (h : redraftlaw03_EqRuns.f k l0 l1 = some r) :
  Calls Tryd.prog 35 #[.slice A0 l0.length c0, .slice A1 l1.length c1] w fun e w' => e = .returned (.bool r) ∧ Drawn0 w w' := by
 have hu58 := Tryd.underlying58
 have HR0 := Aside0.mk hr0
 have HC0 := Aside0.mk hc0
 clear hr0 hc0
 have HR1 := Aside0.mk hr1
 have HC1 := Aside0.mk hc1
 clear hr1 hc1
 have H : (if (l0.length : Int) = (l1.length : Int) then (redraftlaw03_EqRuns.l0 k l0 l1 0) else (some false)) = some r := h
 clear h
 by_cases c3 : (l0.length : Int) = (l1.length : Int)
 ·rw [if_pos c3] at H
  have c3b0 : ((l0.length : Int) == (l1.length : Int)) = true := beq_iff_eq.mpr c3
  have c3b1 : ((l0.length : Int) != (l1.length : Int)) = false := bne_eq_false_iff_eq.mpr c3
  have c3b2 : (l0.length == l1.length) = true := by first | simpa using c3 | (simp at c3 ⊢; omega)
  clear c3
  have H' := Aside0.mk H
  clear H
  go_enter Tryd.func35, Tryd.ntmps35
  go_wp2
  repeat (go_quiet (fail); try go_wp2)
  go_loopg [5] k (fun kq v5 w' => ∃ (x5_1 : Int), v5 = .int .i64 x5_1 ∧ Aside0 (redraftlaw03_EqRuns.l0 kq l0 l1 x5_1 = some r) ∧ Aside0 (kq ≤ k) ∧ Drawn0 w w')
  case atStart => exact ⟨(0), (by first | rfl | (simp; done) | (simp [*]; done)), H', ⟨Nat.le_refl _⟩, by repeat (first | exact Drawn0.refl _ | apply Drawn0.step)⟩
  case round =>
   clear H'
   try clear c1
   try clear p2
   try clear c3
   try clear c3b0
   try clear c3b1
   try clear c3b2
   obtain ⟨x5_1, rfl, HA, HK1, ⟨m1, rfl⟩⟩ := hrel
   cases gk with
   | zero => exact absurd HA.out (by simp [redraftlaw03_EqRuns.l0])
   | succ k1 =>
    have H := HA.out
    clear HA
    simp only [redraftlaw03_EqRuns.l0] at H
    by_cases c4 : x5_1 < (l0.length : Int)
    ·rw [if_pos c4] at H
     have c4b0 : decide (x5_1 < (l0.length : Int)) = true := decide_eq_true c4
     clear c4
     by_cases c5 : 0 ≤ x5_1
     ·rw [if_pos c5] at H
      have c5b0 : decide (0 ≤ x5_1) = true := decide_eq_true c5
      clear c5
      by_cases c6 : x5_1 < (l1.length : Int)
      ·rw [if_pos c6] at H
       have c6b0 : decide (x5_1 < (l1.length : Int)) = true := decide_eq_true c6
       clear c6
       by_cases c7 : (!((((rd_T58 l0 x5_1).f0).toList) == (((rd_T58 l1 x5_1).f0).toList)) || (!(((rd_T58 l0 x5_1).f1) == ((rd_T58 l1 x5_1).f1)))) = true
       ·rw [if_pos c7] at H
        have c7b0 : (!((((rd_T58 l0 x5_1).f0).toList) == (((rd_T58 l1 x5_1).f0).toList)) || (!(((rd_T58 l0 x5_1).f1) == ((rd_T58 l1 x5_1).f1)))) = true := c7
        clear c7
        obtain rfl := Option.some.inj H
        have p185 : 0 ≤ (x5_1 : Int) := of_decide_eq_true (by first | (with_reducible assumption) | assumption)
        have q185 : x5_1 < (l0.length : Int) := of_decide_eq_true (by first | (with_reducible assumption) | assumption)
        obtain ⟨ad185, e185, hx185_0, hx185_1⟩ := at_T58 HR0.out x5_1 p185 q185
        cases e185
        replace p185 := eq_true p185
        replace q185 := eq_true q185
        have p186 : 0 ≤ (x5_1 : Int) := of_decide_eq_true (by first | (with_reducible assumption) | assumption)
        have q186 : x5_1 < (l1.length : Int) := of_decide_eq_true (by first | (with_reducible assumption) | assumption)
        obtain ⟨ad186, e186, hx186_0, hx186_1⟩ := at_T58 HR1.out x5_1 p186 q186
        cases e186
        replace p186 := eq_true p186
        replace q186 := eq_true q186
        go_wp2
        repeat (go_quiet (fail); try go_wp2)
        go_ret
        exact ⟨by first | rfl | (simp; done) | (simp [*]; done), by repeat (first | exact Drawn0.refl _ | apply Drawn0.step)⟩
       ·rw [if_neg c7] at H
        have c7b0 : (!((((rd_T58 l0 x5_1).f0).toList) == (((rd_T58 l1 x5_1).f0).toList)) || (!(((rd_T58 l0 x5_1).f1) == ((rd_T58 l1 x5_1).f1)))) = false := by simpa using c7
        clear c7
        have H' := Aside0.mk H
        clear H
        have p185 : 0 ≤ (x5_1 : Int) := of_decide_eq_true (by first | (with_reducible assumption) | assumption)
        have q185 : x5_1 < (l0.length : Int) := of_decide_eq_true (by first | (with_reducible assumption) | assumption)
        obtain ⟨ad185, e185, hx185_0, hx185_1⟩ := at_T58 HR0.out x5_1 p185 q185
        cases e185
        replace p185 := eq_true p185
        replace q185 := eq_true q185
        have p186 : 0 ≤ (x5_1 : Int) := of_decide_eq_true (by first | (with_reducible assumption) | assumption)
        have q186 : x5_1 < (l1.length : Int) := of_decide_eq_true (by first | (with_reducible assumption) | assumption)
        obtain ⟨ad186, e186, hx186_0, hx186_1⟩ := at_T58 HR1.out x5_1 p186 q186
        cases e186
        replace p186 := eq_true p186
        replace q186 := eq_true q186
        go_wp2
        repeat (go_quiet (fail); try go_wp2)
        go_roundg k1
        case measure => have := HK1.out; omega
        case rel => exact ⟨(wrap64 (x5_1 + 1)), (by first | rfl | (simp; done) | (simp [*]; done)), H', ⟨by have := HK1.out; omega⟩, by repeat (first | exact Drawn0.refl _ | apply Drawn0.step)⟩
      ·rw [if_neg c6] at H
       exact absurd H (by simp)
     ·rw [if_neg c5] at H
      exact absurd H (by simp)
    ·rw [if_neg c4] at H
     have c4b0 : decide (x5_1 < (l0.length : Int)) = false := decide_eq_false c4
     clear c4
     obtain rfl := Option.some.inj H
     go_wp2
     repeat (go_quiet (fail); try go_wp2)
     go_ret
     exact ⟨by first | rfl | (simp; done) | (simp [*]; done), by repeat (first | exact Drawn0.refl _ | apply Drawn0.step)⟩
 ·rw [if_neg c3] at H
  have c3b0 : ((l0.length : Int) == (l1.length : Int)) = false := beq_eq_false_iff_ne.mpr c3
  have c3b1 : ((l0.length : Int) != (l1.length : Int)) = true := bne_iff_ne.mpr c3
  have c3b2 : (l0.length == l1.length) = false := by first | simpa using c3 | (simp at c3 ⊢; omega)
  obtain rfl := Option.some.inj H
  go_enter Tryd.func35, Tryd.ntmps35
  go_wp2
  repeat (go_quiet (fail); try go_wp2)
  go_ret
  exact ⟨by first | rfl | (simp; done) | (simp [*]; done), by repeat (first | exact Drawn0.refl _ | apply Drawn0.step)⟩
def span_Count.l0 : Nat → Int → List (S133) → Int → Int → Option (Int × Int)
 | 0, _, _, _, _ => none
 | k + 1, x6, x17, x18, x19 => if x19 < x18 then (if 0 ≤ x19 then (if x19 < (x17.length : Int) then (span_Count.l0 k (wrap64 (x6 + (wrap64 (((rd_T133 x17 x19).f1) - ((rd_T133 x17 x19).f0))))) x17 x18 (wrap64 (x19 + 1))) else (none)) else (none)) else (some (x6, 0))
def span_Count.f (k : Nat) (l0 : List (S133)) : Option (Int × Int) := (span_Check.f k l0).bind fun bt187 => (if bt187.2 = 0 then (span_Count.l0 k 0 l0 (l0.length : Int) 0) else (some (0, bt187.2)))
theorem span_Count.mono_l : ∀ k, (∀ y0 y1 y2 y3, LeO (span_Count.l0 k y0 y1 y2 y3) (span_Count.l0 (k + 1) y0 y1 y2 y3))
 | 0 => fun _ _ _ _ r h => by simp [span_Count.l0] at h
 | k + 1 => by
  have ih0 := span_Count.mono_l k
  ·intro y0 y1 y2 y3
   unfold span_Count.l0
   repeat' first
   | (with_reducible exact ih0 _ _ _ _)
   | (with_reducible exact span_Check.mono _ _)
   | (with_reducible exact LeO.refl _)
   | (with_reducible exact LeO.none _)
   | (with_reducible refine LeO.ite ?_ ?_)
   | (with_reducible refine LeO.bind ?_ (fun _ => ?_))
   | exact ih0 _ _ _ _
   | exact span_Check.mono _ _
   | exact LeO.none _
   | refine LeO.ite ?_ ?_
   | refine LeO.bind ?_ (fun _ => ?_)
theorem span_Count.mono : ∀ a0 k, LeO (span_Count.f k a0) (span_Count.f (k + 1) a0) := by
 intro a0 k
 have ih0 := span_Count.mono_l k
 unfold span_Count.f
 repeat' first
   | (with_reducible exact ih0 _ _ _ _)
   | (with_reducible exact span_Check.mono _ _)
   | (with_reducible exact LeO.refl _)
   | (with_reducible exact LeO.none _)
   | (with_reducible refine LeO.ite ?_ ?_)
   | (with_reducible refine LeO.bind ?_ (fun _ => ?_))
   | exact ih0 _ _ _ _
   | exact span_Check.mono _ _
   | exact LeO.none _
   | refine LeO.ite ?_ ?_
   | refine LeO.bind ?_ (fun _ => ?_)
set_option maxHeartbeats 8000000 in
set_option maxRecDepth 100000 in
theorem span_Count.calls (k : Nat) (A0 : Option Addr) (c0 : Nat) (l0 : List (S133)) (r1 : Int) (r2 : Int) (w : World) (hr0 : Kd.C k133 w A0 l0.length l0) (hc0 : l0.length ≤ c0) (h : span_Count.f k l0 = some (r1, r2)) :
  Calls Tryd.prog 38 #[.slice A0 l0.length c0] w fun e w' => e = .returned (.tuple #[.int .i64 r1, .int .i64 r2]) ∧ Below w.heap.size w w' := by
 have hu133 := Tryd.underlying133
 have HR0 := Aside0.mk hr0
 have HC0 := Aside0.mk hc0
 clear hr0 hc0
 have HB := Aside0.mk (Below.refl w.heap.size w)
 have H : ((span_Check.f k l0).bind fun bt187 => (if bt187.2 = 0 then (span_Count.l0 k 0 l0 (l0.length : Int) 0) else (some (0, bt187.2)))) = some (r1, r2) := h
 clear h
 replace H := Option.bind_eq_some_iff.mp H
 obtain ⟨⟨t187, t188⟩, A20, H⟩ := H
 replace H : (if t188 = 0 then (span_Count.l0 k 0 l0 (l0.length : Int) 0) else (some (0, t188))) = some (r1, r2) := H
 have A2 := Aside0.mk A20
 clear A20
 by_cases c3 : t188 = 0
 ·rw [if_pos c3] at H
  have c3b0 : (t188 == 0) = true := beq_iff_eq.mpr c3
  have c3b1 : (t188 != 0) = false := bne_eq_false_iff_eq.mpr c3
  clear c3
  have H' := Aside0.mk H
  clear H
  go_enter Tryd.func38, Tryd.ntmps38
  go_wp2_with (first | ((with_reducible refine gate_callee (f := 37) rfl ?_); refine goesL_ (some 11) rfl rfl Tryd.func37 (by kernel_rfl) rfl #[.slice A0 l0.length c0] rfl (by (try simp only [List.map_toArray, List.map_cons, List.map_nil]); first | done | rfl | (simp only [List.length_drop, List.length_take]; rfl)) ?_; (with_reducible refine (span_Check.calls k _ _ l0 t187 t188 _ ?side1 ?side2 A2.out).mono ?_); (case side1 => repeat (first | exact HR0.out | (with_reducible refine Kd.C_alloc ?_ _) | (with_reducible refine Kd.C_drewN ?_ _) | (with_reducible refine Kd.C_drew ?_))); (case side2 => exact HC0.out); rintro e w4 ⟨rfl, hb⟩; refine ⟨_, rfl, ?_⟩; have n0_ := Aside0.mk (below_step (by repeat (first | (with_reducible first | exact HB.out | apply below_alloc | apply pw_below_drewN | apply below_drew1) | exact HB.out)) hb); clear HB; have HB := n0_; clear n0_; (try clear hb); (try clear hb2); (try clear hk); (try clear hi)))
  go_loopg [6, 19] k (fun kq v6 v19 w' => ∃ (x6_1 : Int) (x19_1 : Int), v6 = .int .i64 x6_1 ∧ v19 = .int .i64 x19_1 ∧ Aside0 (span_Count.l0 kq x6_1 l0 (l0.length : Int) x19_1 = some (r1, r2)) ∧ Aside0 (kq ≤ k) ∧ Aside0 (Below w.heap.size w w'))
  case atStart => exact ⟨(0), (0), (by first | rfl | (simp; done) | (simp [*]; done)), (by first | rfl | (simp; done) | (simp [*]; done)), H', ⟨Nat.le_refl _⟩, ⟨by repeat (first | (with_reducible first | exact HB.out | apply below_alloc | apply pw_below_drewN | apply below_drew1) | exact HB.out)⟩⟩
  case round =>
   clear H'
   try clear p2
   try clear c3
   try clear c3b0
   try clear c3b1
   obtain ⟨x6_1, x19_1, rfl, rfl, HA, HK1, HB⟩ := hrel
   cases gk with
   | zero => exact absurd HA.out (by simp [span_Count.l0])
   | succ k1 =>
    have H := HA.out
    clear HA
    simp only [span_Count.l0] at H
    by_cases c5 : x19_1 < (l0.length : Int)
    ·rw [if_pos c5] at H
     have c5b0 : decide (x19_1 < (l0.length : Int)) = true := decide_eq_true c5
     clear c5
     by_cases c6 : 0 ≤ x19_1
     ·rw [if_pos c6] at H
      have c6b0 : decide (0 ≤ x19_1) = true := decide_eq_true c6
      clear c6
      by_cases c7 : x19_1 < (l0.length : Int)
      ·rw [if_pos c7] at H
       have c7b0 : decide (x19_1 < (l0.length : Int)) = true := decide_eq_true c7
       clear c7
       have H' := Aside0.mk H
       clear H
       have p189 : 0 ≤ (x19_1 : Int) := of_decide_eq_true (by first | (with_reducible assumption) | assumption)
       have q189 : x19_1 < (l0.length : Int) := of_decide_eq_true (by first | (with_reducible assumption) | assumption)
       obtain ⟨ad189, e189, hx189_0, hx189_1⟩ := at_T133 HR0.out x19_1 p189 q189
       cases e189
       replace hx189_0 := (HB.out.cell (World.block_lt_of_cell? w _ hx189_0)).trans hx189_0
       replace hx189_1 := (HB.out.cell (World.block_lt_of_cell? w _ hx189_1)).trans hx189_1
       replace p189 := eq_true p189
       replace q189 := eq_true q189
       go_wp2_with (first | ((with_reducible refine gate_dst (N := 8) rfl ?_); refine box_event ?hg (N := 8) ?hd (cs := #[.int .i64 0, .int .i64 0]) (t := 133) ?hr ?_; (case hd => rfl); (case hg => rfl); (case hr => first | (go_simp; done) | (go_simp; rfl)); intro gb190 hg w8 hbox hb; have n0_ := Aside0.mk (below_step (by repeat (first | (with_reducible first | exact HB.out | apply below_alloc | apply pw_below_drewN | apply below_drew1) | exact HB.out)) hb); have n1_ := Aside0.mk (hbox); have n2_ := Aside0.mk ((by rw [hg]; exact (below_size (by repeat (first | (with_reducible first | exact HB.out | apply below_alloc | apply pw_below_drewN | apply below_drew1) | exact HB.out))) : w.heap.size ≤ gb190)); have n3_ := Aside0.mk ((by rw [hg]; exact (below_size (by repeat (first | (with_reducible first | exact HB.out | apply below_alloc | apply pw_below_drewN | apply below_drew1) | exact HB.out))) : w.heap.size ≤ gb190)); clear HB; have HB := n0_; have BK190 := n1_; have GW190 := n2_; have GE190 := n3_; clear n0_ n1_ n2_ n3_; clear hb hbox hg; have hcz9_0 : w8.cell? ⟨gb190, 0, none⟩ = some (.int .i64 0) := (blk_cell BK190.out 0).trans rfl; have hcz9_1 : w8.cell? ⟨gb190, 1, none⟩ = some (.int .i64 0) := (blk_cell BK190.out 1).trans rfl; have hfz9_0 := blk_frozen BK190.out 0; have hfz9_1 := blk_frozen BK190.out 1))
       go_roundg k1
       case measure => have := HK1.out; omega
       case rel => exact ⟨(wrap64 (x6_1 + (wrap64 (((rd_T133 l0 x19_1).f1) - ((rd_T133 l0 x19_1).f0))))), (wrap64 (x19_1 + 1)), (by first | rfl | (simp; done) | (simp [*]; done)), (by first | rfl | (simp; done) | (simp [*]; done)), H', ⟨by have := HK1.out; omega⟩, ⟨by repeat (first | (with_reducible first | exact HB.out | apply below_alloc | apply pw_below_drewN | apply below_drew1 | refine below_set ?_ GE190.out) | exact HB.out)⟩⟩
      ·rw [if_neg c7] at H
       exact absurd H (by simp)
     ·rw [if_neg c6] at H
      exact absurd H (by simp)
    ·rw [if_neg c5] at H
     have c5b0 : decide (x19_1 < (l0.length : Int)) = false := decide_eq_false c5
     clear c5
     simp only [Option.some.injEq, Prod.mk.injEq] at H
     obtain ⟨rfl, rfl⟩ := H
     go_wp2
     go_ret2
     exact ⟨by first | rfl | (simp [errW_none, errW_some] <;> rfl) | (simp [*, errW_none, errW_some] <;> rfl), by repeat (first | (with_reducible first | exact HB.out | apply below_alloc | apply pw_below_drewN | apply below_drew1) | exact HB.out)⟩
 ·rw [if_neg c3] at H
  have c3b0 : (t188 == 0) = false := beq_eq_false_iff_ne.mpr c3
  have c3b1 : (t188 != 0) = true := bne_iff_ne.mpr c3
  simp only [Option.some.injEq, Prod.mk.injEq] at H
  obtain ⟨rfl, rfl⟩ := H
  go_enter Tryd.func38, Tryd.ntmps38
  go_wp2_with (first | ((with_reducible refine gate_callee (f := 37) rfl ?_); refine goesL_ (some 11) rfl rfl Tryd.func37 (by kernel_rfl) rfl #[.slice A0 l0.length c0] rfl (by (try simp only [List.map_toArray, List.map_cons, List.map_nil]); first | done | rfl | (simp only [List.length_drop, List.length_take]; rfl)) ?_; (with_reducible refine (span_Check.calls k _ _ l0 t187 t188 _ ?side1 ?side2 A2.out).mono ?_); (case side1 => repeat (first | exact HR0.out | (with_reducible refine Kd.C_alloc ?_ _) | (with_reducible refine Kd.C_drewN ?_ _) | (with_reducible refine Kd.C_drew ?_))); (case side2 => exact HC0.out); rintro e w10 ⟨rfl, hb⟩; refine ⟨_, rfl, ?_⟩; have n0_ := Aside0.mk (below_step (by repeat (first | (with_reducible first | exact HB.out | apply below_alloc | apply pw_below_drewN | apply below_drew1) | exact HB.out)) hb); clear HB; have HB := n0_; clear n0_; (try clear hb); (try clear hb2); (try clear hk); (try clear hi)))
  go_ret2
  exact ⟨by first | rfl | (simp [errW_none, errW_some] <;> rfl) | (simp [*, errW_none, errW_some] <;> rfl), by repeat (first | (with_reducible first | exact HB.out | apply below_alloc | apply pw_below_drewN | apply below_drew1) | exact HB.out)⟩
def redraftlaw03_at.f (a0 : Int) : Option (Int) := some (Int.tmod (wrap64 ((Int.tmod a0 3) + 3)) 3)
set_option maxHeartbeats 8000000 in
set_option maxRecDepth 100000 in
theorem redraftlaw03_at.calls (a0 : Int) (r : Int) (w : World) (h : redraftlaw03_at.f a0 = some r) :
  Calls Tryd.prog 79 #[.int .i64 a0] w fun e w' => e = .returned (.int .i64 r) ∧ Drawn0 w w' := by
 have H : (some (Int.tmod (wrap64 ((Int.tmod a0 3) + 3)) 3)) = some r := h
 clear h
 obtain rfl := Option.some.inj H
 go_enter Tryd.func79, Tryd.ntmps79
 go_wp2
 go_ret
 exact ⟨by first | rfl | (simp; done) | (simp [*]; done), by repeat (first | exact Drawn0.refl _ | apply Drawn0.step)⟩
end Go.Proofs.YteeigokkafcaaaaDoor.Pr
end
section
namespace Go.Proofs.YteeigokkafcaaaaDoorRope
open Go.RowKit Go.Proofs.YteeigokkafcaaaaDoorW.PrintWords Go.Proofs.YteeigokkafcaaaaDoorW.PrintMore Go.Proofs.YteeigokkafcaaaaDoor.Pr
set_option linter.unusedSimpArgs false
set_option linter.unusedVariables false
def addR (l : List (Nat × Nat)) (q : Nat) : List (Nat × Nat) :=
  match l.reverse with
  | [] => [(q, q + 1)]
  | b :: t => if b.2 = q then t.reverse ++ [(b.1, q + 1)] else l ++ [(q, q + 1)]
theorem addR_nil (q : Nat) : addR [] q = [(q, q + 1)] := rfl
theorem addR_snoc (L : List (Nat × Nat)) (b : Nat × Nat) (q : Nat) : addR (L ++ [b]) q = if b.2 = q then L ++ [(b.1, q + 1)] else L ++ [b] ++ [(q, q + 1)] := by
  unfold addR
  rw [List.reverse_append]
  simp
structure Chs (cs : List (Int × Int)) (down : Bool) (q : Nat) (l : List (Nat × Nat)) : Prop where
  one : ∀ r ∈ l, r.1 < r.2 ∧ r.2 ≤ q
  two : l.Pairwise (fun a b => a.2 < b.1)
  len : l.length ≤ q
  hid : ∀ r ∈ l, ∀ p, r.1 ≤ p → p < r.2 → down = true → (cs.getD p (0, 0)).2 ≠ 0
theorem Chs.zero (cs : List (Int × Int)) (down : Bool) : Chs cs down 0 [] := ⟨by simp, List.Pairwise.nil, Nat.le_refl _, by simp⟩
theorem Chs.skip {cs : List (Int × Int)} {down : Bool} {q : Nat} {l : List (Nat × Nat)} (h : Chs cs down q l) : Chs cs down (q + 1) l :=
  ⟨fun r hr => ⟨(h.one r hr).1, Nat.le_succ_of_le (h.one r hr).2⟩, h.two, Nat.le_succ_of_le h.len, h.hid⟩
theorem Chs.add {cs : List (Int × Int)} {down : Bool} {q : Nat} {l : List (Nat × Nat)} (h : Chs cs down q l) (hd : down = true → (cs.getD q (0, 0)).2 ≠ 0) : Chs cs down (q + 1) (addR l q) := by
  rcases List.eq_nil_or_concat l with rfl | ⟨L, b, rfl⟩
  · rw [addR_nil]
    refine ⟨fun r hr => ?_, by simp, by simp, fun r hr p h1 h2 hdn => ?_⟩
    · obtain rfl := List.mem_singleton.1 hr
      exact ⟨Nat.lt_succ_self _, Nat.le_refl _⟩
    · obtain rfl := List.mem_singleton.1 hr
      obtain rfl : p = q := by dsimp only at h1 h2; omega
      exact hd hdn
  · rw [List.concat_eq_append] at *
    rw [addR_snoc]
    have hb := h.one b (by simp)
    have ht := List.pairwise_append.1 h.two
    have hlen := h.len
    simp only [List.length_append, List.length_cons, List.length_nil] at hlen
    by_cases c : b.2 = q
    · rw [if_pos c]
      refine ⟨fun r hr => ?_, ?_, by simp; omega, fun r hr p h1 h2 hdn => ?_⟩
      · rcases List.mem_append.1 hr with hr | hr
        · have := h.one r (List.mem_append_left _ hr); exact ⟨this.1, by omega⟩
        · obtain rfl := List.mem_singleton.1 hr; exact ⟨by dsimp only; omega, Nat.le_refl _⟩
      · refine List.pairwise_append.2 ⟨ht.1, by simp, fun a ha x hx => ?_⟩
        obtain rfl := List.mem_singleton.1 hx
        exact ht.2.2 a ha b (by simp)
      · rcases List.mem_append.1 hr with hr | hr
        · exact h.hid r (List.mem_append_left _ hr) p h1 h2 hdn
        · obtain rfl := List.mem_singleton.1 hr
          dsimp only at h1 h2
          by_cases c2 : p = q
          · rw [c2]; exact hd hdn
          · exact h.hid b (by simp) p h1 (by omega) hdn
    · rw [if_neg c]
      refine ⟨fun r hr => ?_, ?_, by simp; omega, fun r hr p h1 h2 hdn => ?_⟩
      · rcases List.mem_append.1 hr with hr | hr
        · have := h.one r hr; exact ⟨this.1, by omega⟩
        · obtain rfl := List.mem_singleton.1 hr; exact ⟨Nat.lt_succ_self _, Nat.le_refl _⟩
      · refine List.pairwise_append.2 ⟨h.two, by simp, fun a ha x hx => ?_⟩
        obtain rfl := List.mem_singleton.1 hx
        dsimp only
        rcases List.mem_append.1 ha with ha | ha
        · have := ht.2.2 a ha b (by simp); omega
        · obtain rfl := List.mem_singleton.1 ha; omega
      · rcases List.mem_append.1 hr with hr | hr
        · exact h.hid r hr p h1 h2 hdn
        · obtain rfl := List.mem_singleton.1 hr
          obtain rfl : p = q := by dsimp only at h1 h2; omega
          exact hd hdn
theorem sRng_append (a b : List (Nat × Nat)) : sRng (a ++ b) = sRng a ++ sRng b := by simp [sRng]
theorem chosen_l0 {cs : List (Int × Int)} (hb : cs.length ≤ 1048576) (a b : Int) (down : Bool) : ∀ (d q : Nat) (l : List (Nat × Nat)), q + d = cs.length → Chs cs down q l → ∃ k l', redraftlaw03_chosen.l0 k (sCells cs) a b down (sRng l) (q : Int) = some (sRng l') ∧ Chs cs down cs.length l' := by
  intro d
  induction d with
  | zero =>
    intro q l hq h
    refine ⟨1, l, ?_, ?_⟩
    · rw [redraftlaw03_chosen.l0, if_neg (by rw [sCells_len]; omega)]
    · rwa [show cs.length = q by omega]
  | succ d ih =>
    intro q l hq h
    have hql : q < cs.length := by omega
    have e1 : wrap64 ((q : Int) + 1) = ((q + 1 : Nat) : Int) := by rw [w64 (by omega) (by omega)]; omega
    have hskip := ih (q + 1) l (by omega) h.skip
    have hj : ∀ x : Bool, (x = false → down = true → cs[q].2 ≠ 0) → ∃ k l', redraftlaw03_chosen.j1 k (sCells cs) a b down (sRng l) (q : Int) x = some (sRng l') ∧ Chs cs down cs.length l' := by
      intro x hx
      cases x with
      | true =>
        obtain ⟨k, l', hk, hl'⟩ := hskip
        exact ⟨k + 1, l', by rw [redraftlaw03_chosen.j1, if_pos rfl, e1]; exact hk, hl'⟩
      | false =>
        have hadd := ih (q + 1) (addR l q) (by omega) (h.add (fun hd => by
          rw [List.getD_eq_getElem?_getD, List.getElem?_eq_getElem hql]
          exact hx rfl hd))
        obtain ⟨k, l', hk, hl'⟩ := hadd
        refine ⟨k + 1, l', ?_, hl'⟩
        have hll := h.len
        rw [redraftlaw03_chosen.j1, if_neg (by decide), e1]
        rcases List.eq_nil_or_concat l with rfl | ⟨L, r, rfl⟩
        · rw [if_neg (by simp [sRng]), if_pos (by simp [sRng])]
          rw [addR_nil] at hk
          exact hk
        · rw [List.concat_eq_append] at *
          rw [addR_snoc] at hk
          have hlr : (sRng (L ++ [r])).length = L.length + 1 := by rw [sRng_len]; simp
          have hLb : L.length + 1 ≤ q := by simpa using hll
          have e2 : wrap64 (((sRng (L ++ [r])).length : Int) - 1) = (L.length : Int) := by rw [hlr, w64 (by omega) (by omega)]; omega
          have hrd : rd_T133 (sRng (L ++ [r])) (L.length : Int) = ⟨(r.1 : Int), (r.2 : Int)⟩ := by
            have := rd_sRng (l := L ++ [r]) (i := L.length) (by simp)
            rw [this]
            simp
          rw [if_pos (by omega), e2, if_pos (by omega), if_pos (by omega), hrd]
          dsimp only
          by_cases c : r.2 = q
          · rw [if_pos (by omega)]
            rw [if_pos c] at hk
            have hset : (sRng (L ++ [r])).set (L.length : Int).toNat ⟨(r.1 : Int), ((q + 1 : Nat) : Int)⟩ = sRng (L ++ [(r.1, q + 1)]) := by
              rw [Int.toNat_natCast, sRng_append, List.set_append_right _ _ (by rw [sRng_len]; exact Nat.le_refl _), sRng_len, Nat.sub_self, sRng_append]
              rfl
            rw [hset]
            exact hk
          · rw [if_neg (by omega), if_pos (by omega)]
            rw [if_neg c, sRng_append] at hk
            exact hk
    have r1 : redraftlaw03_rest.f a 7 = some (a % 7) := rest_is (by decide) (by decide)
    have r2 : redraftlaw03_rest.f b 11 = some (b % 11) := rest_is (by decide) (by decide)
    obtain ⟨z, hz⟩ : ∃ z, z = wrap64 (wrap64 ((q : Int) * (a % 7)) + b % 11) := ⟨_, rfl⟩
    have r3 : redraftlaw03_rest.f z 11 = some (z % 11) := rest_is (by decide) (by decide)
    have key : ∀ k, redraftlaw03_chosen.l0 (k + 1) (sCells cs) a b down (sRng l) (q : Int) = if z % 11 < 5 then (if down = true then redraftlaw03_chosen.j1 k (sCells cs) a b down (sRng l) (q : Int) (cs[q].2 == 0) else redraftlaw03_chosen.j1 k (sCells cs) a b down (sRng l) (q : Int) false) else redraftlaw03_chosen.j1 k (sCells cs) a b down (sRng l) (q : Int) true := by
      intro k
      rw [redraftlaw03_chosen.l0, if_pos (by rw [sCells_len]; omega), r1, Option.bind_some, r2, Option.bind_some, ← hz, r3, Option.bind_some, if_pos (Int.natCast_nonneg q), rd_sCells hql]
    by_cases c1 : z % 11 < 5
    · by_cases c2 : down = true
      · obtain ⟨k, l', hk, hl'⟩ := hj (cs[q].2 == 0) (fun e _ => by simpa using e)
        exact ⟨k + 1, l', by rw [key, if_pos c1, if_pos c2]; exact hk, hl'⟩
      · obtain ⟨k, l', hk, hl'⟩ := hj false (fun _ e => absurd e c2)
        exact ⟨k + 1, l', by rw [key, if_pos c1, if_neg c2]; exact hk, hl'⟩
    · obtain ⟨k, l', hk, hl'⟩ := hj true (fun e => by cases e)
      exact ⟨k + 1, l', by rw [key, if_neg c1]; exact hk, hl'⟩
theorem chosen_is (cs : List (Int × Int)) (hb : cs.length ≤ 32768) (a b : Int) (down : Bool) : ∃ k l, redraftlaw03_chosen.f k (sCells cs) a b down = some (sRng l) ∧ Norm l cs.length ∧ (down = true → ∀ r ∈ l, ∀ c ∈ (cs.take r.2).drop r.1, c.2 ≠ 0) := by
  obtain ⟨k, l, hk, h⟩ := chosen_l0 (cs := cs) (by omega) a b down cs.length 0 [] (by omega) (Chs.zero _ _)
  refine ⟨k, l, hk, ⟨h.one, fun i hi => ?_, by have := h.len; omega⟩, fun hd r hr c hc => ?_⟩
  · exact List.pairwise_iff_getElem.1 h.two i (i + 1) (by omega) hi (Nat.lt_succ_self _)
  · obtain ⟨i, hi, rfl⟩ := List.getElem_of_mem hc
    have hone := h.one r hr
    have hi' := hi
    rw [List.length_drop, List.length_take] at hi'
    have := h.hid r hr (r.1 + i) (Nat.le_add_right _ _) (by omega) hd
    rw [List.getD_eq_getElem?_getD, List.getElem?_eq_getElem (by omega)] at this
    simpa using this
end Go.Proofs.YteeigokkafcaaaaDoorRope
end
section
namespace Go.Proofs.YteeigokkafcaaaaDoorRope
open Go.RowKit Go.Proofs.YteeigokkafcaaaaDoorW.PrintWords Go.Proofs.YteeigokkafcaaaaDoorW.PrintMore Go.Proofs.YteeigokkafcaaaaDoor.Pr
set_option linter.unusedSimpArgs false
set_option linter.unusedVariables false
structure RowOk (H : Int) (cs : List (Int × Int)) : Prop where
  rn : ∀ c ∈ cs, Rn c.1
  h : ∀ c ∈ cs, 0 ≤ c.2 ∧ c.2 ≤ H
theorem cells4k {W : World} {g k : Nat} {a b c d : Value} (h : W.heap[g]? = some (Obj.cells #[a, b, c, d] k (0, 0))) : W.cell? ⟨g, 0, none⟩ = some a ∧ W.cell? ⟨g, 1, none⟩ = some b ∧ W.cell? ⟨g, 2, none⟩ = some c ∧ W.cell? ⟨g, 3, none⟩ = some d := by
  simp [World.cell?, h]
theorem RopeHas.lt {W : World} {b : Nat} {cs : List (Int × Int)} (h : RopeHas W b cs) : b < W.heap.size := by
  obtain ⟨K, t, h, _⟩ := h
  obtain ⟨v, hv, _⟩ := h.h
  exact new_lt hv
theorem Stand.row' {w W W' : World} {b : Nat} {A A' : Option Addr} {c c' : Nat} {cs cs' cs'' : List (Int × Int)} (h : Stand w W b A c cs cs') (hb : Below W.heap.size W W') {ok : Nat → Prop} (hr : Kd.R k36 36 W' W.heap.size ok (.slice A' cs''.length c') (sCells cs'')) : Stand w W' b A' c' cs'' cs' := by
  have h' := h.step hb
  refine ⟨h'.bel, h'.bars, ⟨W.heap.size, Kd.R_mono (Kd.R_bound hr) (fun k hk e => ?_)⟩, h'.rope, h'.lb, h'.nz⟩
  have := h.rope.lt
  have := hk.2.1
  omega
theorem RowOk.ins {H : Int} {cs : List (Int × Int)} (h : RowOk H cs) {at_ : Nat} {l : List Int} {hd : Int} (hl : ∀ r ∈ l, Rn r) (hh : 0 ≤ hd ∧ hd ≤ H) : RowOk (H + 1) (insC cs at_ l hd) := by
  refine ⟨ins_rn h.rn hl, fun c hm => ?_⟩
  rw [insC, List.mem_append, List.mem_append] at hm
  rcases hm with (hm | hm) | hm
  · have := h.h _ (List.mem_of_mem_take hm); omega
  · obtain ⟨r, hr, rfl⟩ := List.mem_map.1 hm; exact ⟨hh.1, by dsimp only; omega⟩
  · have := h.h _ (List.mem_of_mem_drop hm); omega
theorem bump1_mem {cs : List (Int × Int)} {r : Nat × Nat} {b : Int} {c : Int × Int} (h : c ∈ bump1 cs r b) : c ∈ cs ∨ ∃ d ∈ (cs.take r.2).drop r.1, c = (d.1, d.2 + b) := by
  rw [bump1, List.mem_append, List.mem_append] at h
  rcases h with (h | h) | h
  · exact .inl (List.mem_of_mem_take h)
  · obtain ⟨d, hd, rfl⟩ := List.mem_map.1 h
    exact .inr ⟨d, hd, rfl⟩
  · exact .inl (List.mem_of_mem_drop h)
theorem bumpC_mem {cs : List (Int × Int)} {l : List (Nat × Nat)} {b : Int} (hN : Norm l cs.length) : ∀ i, i ≤ l.length → ∀ c ∈ bumpC cs (l.take i) b, c ∈ cs ∨ ∃ r ∈ l, ∃ d ∈ (cs.take r.2).drop r.1, c = (d.1, d.2 + b) := by
  intro i
  induction i with
  | zero => intro _ c hc; exact .inl hc
  | succ i ih =>
    intro hi c hc
    have hil : i < l.length := by omega
    rw [bumpC_take hil] at hc
    rcases bump1_mem hc with h | ⟨d, hd, rfl⟩
    · exact ih (by omega) c h
    · rw [bumpC_mid hN hil] at hd
      exact .inr ⟨l[i], List.getElem_mem hil, d, hd, rfl⟩
theorem RowOk.bump {H : Int} {cs : List (Int × Int)} (h : RowOk H cs) {l : List (Nat × Nat)} {b : Int} (hN : Norm l cs.length) (hok : BumpOk cs l b) (hb : b ≤ 1) : RowOk (H + 1) (bumpC cs l b) := by
  have hm := bumpC_mem (b := b) hN l.length (Nat.le_refl _)
  rw [List.take_length] at hm
  refine ⟨fun c hc => ?_, fun c hc => ?_⟩
  · rcases hm c hc with h1 | ⟨r, hr, d, hd, rfl⟩
    · exact h.rn _ h1
    · exact h.rn d (List.mem_of_mem_take (List.mem_of_mem_drop hd))
  · rcases hm c hc with h1 | ⟨r, hr, d, hd, rfl⟩
    · have := h.h _ h1; omega
    · have := h.h _ (List.mem_of_mem_take (List.mem_of_mem_drop hd))
      have := hok r hr d hd
      dsimp only
      omega
end Go.Proofs.YteeigokkafcaaaaDoorRope
end
section
namespace Go.Proofs.YteeigokkafcaaaaDoorRope
open Go.RowKit Go.Proofs.YteeigokkafcaaaaDoorW.PrintWords Go.Proofs.YteeigokkafcaaaaDoorW.PrintMore Go.Proofs.YteeigokkafcaaaaDoor.Pr
set_option linter.unusedSimpArgs false
set_option linter.unusedVariables false
def BoxAt (W : World) (b : Nat) : Prop := ∃ p, W.heap[b]? = some (.cells #[.pointer p] 108 (0, 0))
theorem RopeHas.box {W : World} {b : Nat} {cs : List (Int × Int)} (h : RopeHas W b cs) : BoxAt W b := by
  obtain ⟨K, t, h, _⟩ := h
  obtain ⟨p, hv, _⟩ := h.blk
  exact ⟨p, hv⟩
theorem cell_box {W : World} {b : Nat} (hb : BoxAt W b) {ad : Addr} {k : IntKind} {x : Int} (h : W.cell? ad = some (.int k x)) : ad.block ≠ b := by
  obtain ⟨p, hb⟩ := hb
  intro e
  rw [World.cell?, e, hb] at h
  dsimp only at h
  split at h
  · cases h
  · rcases hq : ad.off with _ | q
    · rw [hq] at h; simp at h
    · rw [hq] at h; simp at h
theorem runes_box {W : World} {A : Option Addr} {rs : List Int} (h : RunesAt W A rs) (hne : rs ≠ []) {b : Nat} (hb : BoxAt W b) : ∀ ad, A = some ad → ad.block ≠ b := by
  intro ad e
  have hz : 0 < rs.length := List.length_pos_iff.2 hne
  obtain ⟨ad', e', hc⟩ := Kd.at_int h 0 (Int.le_refl _) (by omega)
  rw [e] at e'
  injection e' with e'
  subst e'
  exact cell_box hb hc
theorem Rep.away {K : Nat → Prop} {W : World} {b : Nat} (hb : BoxAt W b) {t : Tree} : ∀ {v : Value} {a : Int}, Rep K W t v → t.Good a → Rep (fun k => K k ∧ k ≠ b) W t v := by
  induction t with
  | nil => intro v a h _; exact h
  | node l rs hid r plus ihl ihr =>
    rintro v a ⟨g, vl, vr, A, c, rfl, hh, hg, hc, hr, hA, h1, h2⟩ ⟨g1, g2, g3, g4, g5, g6, g7, g8, g9⟩
    refine ⟨g, vl, vr, A, c, rfl, hh, ⟨hg, ?_⟩, hc, hr, fun ad e => ⟨hA ad e, runes_box hr g1 hb ad e⟩, ihl h1 g8, ihr h2 g9⟩
    rintro rfl
    obtain ⟨p, hb⟩ := hb
    rw [hb] at hh
    injection hh with hh
    injection hh with _ hh _
    exact absurd hh (by decide)
theorem RopeHas.beside {W W' : World} {b d : Nat} {cs : List (Int × Int)} (h : RopeHas W b cs) (hd : BoxAt W d) (hne : b ≠ d) (hg : W.grownBy W' (some d)) : RopeHas W' b cs := by
  obtain ⟨K, t, ⟨⟨v, hv, ht⟩, hn⟩, hc⟩ := h
  refine ⟨fun k => K k ∧ k ≠ d, t, ⟨⟨v, (hg.block b (new_lt hv) (fun e => hne (by injection e))).trans hv, ?_⟩, fun hk => hn hk.1⟩, hc⟩
  exact ⟨(ht.rep.away hd ht.good).move (fun k hk hl => hg.block k hl (fun e => hk.2 (by injection e))), ht.good⟩
end Go.Proofs.YteeigokkafcaaaaDoorRope
end
section
namespace Go.Proofs.YteeigokkafcaaaaDoorRope
open Go.RowKit Go.Proofs.YteeigokkafcaaaaDoorW.PrintWords Go.Proofs.YteeigokkafcaaaaDoorW.PrintMore Go.Proofs.YteeigokkafcaaaaDoor.Pr
set_option linter.unusedSimpArgs false
set_option linter.unusedVariables false
structure Sta (w W : World) (b : Nat) (A : Option Addr) (c : Nat) (cs cs' : List (Int × Int)) : Prop where
  gr : w.grownBy W (some b)
  bars : BarsAt W
  row : Row (fun k => k = b) W A c cs
  rope : RopeHas W b cs'
  nz : b ≠ 0
theorem grownBy_refl (W : World) (row : Option Nat) : W.grownBy W row := ⟨rfl, rfl, rfl, Nat.le_refl _, fun _ _ _ => rfl⟩
theorem grownBy_join {a w w' : World} {row : Option Nat} (h : a.grownBy w row) (k : w.grownBy w' row) : a.grownBy w' row :=
  ⟨k.os.trans h.os, k.tape.trans h.tape, k.output.trans h.output, Nat.le_trans h.size k.size, fun i hi hne => (k.block i (Nat.lt_of_lt_of_le hi h.size) hne).trans (h.block i hi hne)⟩
theorem grownBy_of_below {W W' : World} {row : Option Nat} (h : Below W.heap.size W W') : W.grownBy W' row := ⟨h.os, h.tape, h.output, h.size, fun k hk _ => h.block k hk⟩
section
variable {w W W' : World} {b : Nat} {A : Option Addr} {c : Nat} {cs cs' cs'' : List (Int × Int)}
theorem Sta.step (h : Sta w W b A c cs cs') (hb : Below W.heap.size W W') : Sta w W' b A c cs cs' :=
  ⟨grownBy_join h.gr (grownBy_of_below hb), h.bars.below hb, h.row.below hb, h.rope.below hb, h.nz⟩
theorem Sta.put (h : Sta w W b A c cs cs') (hg : W.grownBy W' (some b)) (hr : RopeHas W' b cs'') : Sta w W' b A c cs cs'' :=
  ⟨grownBy_join h.gr hg, h.bars.grown hg h.nz, h.row.grown hg rfl, hr, h.nz⟩
theorem Sta.row' {A' : Option Addr} {c' : Nat} (h : Sta w W b A c cs cs') (hb : Below W.heap.size W W') {ok : Nat → Prop} (hr : Kd.R k36 36 W' W.heap.size ok (.slice A' cs''.length c') (sCells cs'')) : Sta w W' b A' c' cs'' cs' ∧ Row (fun k => k < w.heap.size) W' A' c' cs'' := by
  have h' := h.step hb
  have hlt := h.rope.lt
  refine ⟨⟨h'.gr, h'.bars, ⟨W.heap.size, Kd.R_mono (Kd.R_bound hr) (fun k hk e => ?_)⟩, h'.rope, h'.nz⟩, ⟨W.heap.size, Kd.R_mono (Kd.R_bound hr) (fun k hk e => ?_)⟩⟩
  · have := hk.2.1
    omega
  · have := hk.2.1
    have := h.gr.size
    omega
end
noncomputable def choL (cs : List (Int × Int)) (a b : Int) (down : Bool) : List (Nat × Nat) := if h : cs.length ≤ 32768 then Classical.choose (Classical.choose_spec (chosen_is cs h a b down)) else []
theorem choL_is (cs : List (Int × Int)) (hb : cs.length ≤ 32768) (a b : Int) (down : Bool) : ∃ k, redraftlaw03_chosen.f k (sCells cs) a b down = some (sRng (choL cs a b down)) ∧ Norm (choL cs a b down) cs.length ∧ (down = true → ∀ r ∈ choL cs a b down, ∀ c ∈ (cs.take r.2).drop r.1, c.2 ≠ 0) := by
  refine ⟨Classical.choose (chosen_is cs hb a b down), ?_⟩
  rw [choL, dif_pos hb]
  exact Classical.choose_spec (Classical.choose_spec (chosen_is cs hb a b down))
noncomputable def actC (cs : List (Int × Int)) (kd ka kb kn : Int) : List (Int × Int) :=
  if kd = 0 then insC cs (ka % ((cs.length : Int) + 1)).toNat (wordsL ((kn % 48).toNat + 1) kb) (kb % 3)
  else if kd = 1 then bumpC cs (choL cs ka kb false) 1 else bumpC cs (choL cs ka kb true) (-1)
set_option maxRecDepth 100000 in
set_option maxHeartbeats 16000000 in
theorem actsD_put {w W : World} {b : Nat} {A : Option Addr} {c : Nat} {cs : List (Int × Int)} {H : Int} (S : Sta w W b A c cs cs) (hr : RowOk H cs) (hH : 2 ≤ H) (hl : cs.length ≤ 20000) (ka kb kn : Int) :
    Calls Tryd.prog 27 #[.pointer (some ⟨b, 0, none⟩), .slice A cs.length c, .agg #[.int .i64 0, .int .i64 ka, .int .i64 kb, .int .i64 kn]] W fun e w' => ∃ A' c', e = .returned (.tuple #[.slice A' (actC cs 0 ka kb kn).length c', .bool true]) ∧ Sta w w' b A' c' (actC cs 0 ka kb kn) (actC cs 0 ka kb kn) ∧ Row (fun k => k < w.heap.size) w' A' c' (actC cs 0 ka kb kn) ∧ RowOk (H + 1) (actC cs 0 ka kb kn) ∧ (actC cs 0 ka kb kn).length ≤ cs.length + 48 := by
  obtain ⟨N, hN⟩ : ∃ N, N = cs.length := ⟨_, rfl⟩
  have bN : (N : Int) ≤ 20000 := by omega
  have m1 := Int.emod_nonneg ka (show ((N : Int) + 1) ≠ 0 by omega)
  have m2 := Int.emod_lt_of_pos ka (show (0 : Int) < (N : Int) + 1 by omega)
  obtain ⟨at_, hat⟩ : ∃ at_ : Nat, ka % ((N : Int) + 1) = (at_ : Int) := ⟨(ka % ((N : Int) + 1)).toNat, by omega⟩
  have m3 := Int.emod_nonneg kn (show (48 : Int) ≠ 0 by decide)
  have m4 := Int.emod_lt_of_pos kn (show (0 : Int) < 48 by decide)
  obtain ⟨q, hq⟩ : ∃ q : Nat, kn % 48 = (q : Int) := ⟨(kn % 48).toNat, by omega⟩
  have m5 := Int.emod_nonneg kb (show (3 : Int) ≠ 0 by decide)
  have m6 := Int.emod_lt_of_pos kb (show (0 : Int) < 3 by decide)
  obtain ⟨hd, hhd⟩ : ∃ hd : Int, kb % 3 = hd := ⟨_, rfl⟩
  have hd0 : 0 ≤ hd ∧ hd ≤ 2 := by omega
  have hatN : at_ ≤ cs.length := by omega
  have hq48 : q < 48 := by omega
  clear m1 m2 m3 m4 m5 m6
  obtain ⟨s, hs⟩ : ∃ s, s = wordsL (q + 1) kb := ⟨_, rfl⟩
  have hsl : s.length = q + 1 := by rw [hs, wordsL_len]
  have hsL : Lets s := by rw [hs]; exact wordsL_lets _ _
  have hlen : (insC cs at_ s hd).length ≤ cs.length + 48 := by rw [insC_len]; omega
  rw [← hN] at hlen
  have hrow : RowOk (H + 1) (insC cs at_ s hd) := hr.ins hsL.rns (by omega)
  have bq : (q : Int) < 48 := by omega
  have R1 : ∀ W, Calls Tryd.prog 28 #[.int .i64 ka, .int .i64 ((N : Int) + 1)] W fun e w' => e = .returned (.int .i64 (at_ : Int)) ∧ Below W.heap.size W w' := fun W => by rw [← hat]; exact rest_b (by omega) (by omega) W
  have R2 : ∀ W : World, Calls Tryd.prog 28 #[.int .i64 kn, .int .i64 48] W fun e w' => e = .returned (.int .i64 (q : Int)) ∧ ∃ m, w' = W.drewN m := fun W => by
    refine (redraftlaw03_rest.calls kn 48 _ W (rest_is (by decide) (by decide))).mono ?_
    rintro e w' ⟨he, ⟨nd, hw⟩⟩
    rw [hq] at he
    exact ⟨he, nd, hw⟩
  have R3 : ∀ W, Calls Tryd.prog 28 #[.int .i64 kb, .int .i64 3] W fun e w' => e = .returned (.int .i64 hd) ∧ Below W.heap.size W w' := fun W => by rw [← hhd]; exact rest_b (by omega) (by omega) W
  have R4 : ∀ W : World, Calls Tryd.prog 29 #[.int .i64 (1 + (q : Int)), .int .i64 kb] W fun e w' => e = .returned (.string (txt s)) ∧ ∃ m, w' = W.drewN m := fun W => by
    rw [hs, show 1 + (q : Int) = ((q + 1 : Nat) : Int) by omega]
    refine (words_calls (q + 1) kb (by omega) W).mono ?_
    rintro e w' ⟨he, ⟨nd, hw⟩⟩
    exact ⟨he, nd, hw⟩
  have I1 : ∀ W, RopeHas W b cs → BarsAt W → Calls Tryd.prog 33 #[.pointer (some ⟨b, 0, none⟩), .int .i64 (at_ : Int), .string (txt s), .int .i64 hd] W fun e w' => e = .returned (.int .i64 0) ∧ RopeHas w' b (insC cs at_ s hd) ∧ W.grownBy w' (some b) := fun W h hw => rope_insert h hw hatN hsL (fun e => by rw [e] at hsl; simp at hsl) (by omega) (by omega)
  have I2 : ∀ W, Row (fun k => k = b) W A c cs → Calls Tryd.prog 52 #[.slice A N c, .int .i64 (at_ : Int), .string (txt s), .int .i64 hd] W fun e w' => ∃ A' c', e = .returned (.slice A' (insC cs at_ s hd).length c') ∧ Kd.R k36 36 w' W.heap.size (fun b => W.heap.size ≤ b) (.slice A' (insC cs at_ s hd).length c') (sCells (insC cs at_ s hd)) ∧ Below W.heap.size W w' := fun W h => by rw [hN]; exact put_calls hatN (by omega) hsL h.rd h.cap
  replace R1 := Lib.hid R1
  replace R2 := Lib.hid R2
  replace R3 := Lib.hid R3
  replace R4 := Lib.hid R4
  replace I1 := Lib.hid I1
  replace I2 := Lib.hid I2
  obtain ⟨st, hst⟩ : ∃ st, st = txt s := ⟨_, rfl⟩
  rw [← hst] at R4 I1 I2
  have hact : actC cs 0 ka kb kn = insC cs at_ s hd := by
    rw [actC, if_pos rfl, ← hN, hat, Int.toNat_natCast, hq, Int.toNat_natCast, hhd, ← hs]
  rw [hact]
  obtain ⟨cs', hcs'⟩ : ∃ cs', cs' = insC cs at_ s hd := ⟨_, rfl⟩
  rw [← hcs']
  rw [← hcs'] at I1 I2 hlen hrow
  have HLEN := Lib.hid hlen
  have HROW := Lib.hid hrow
  have hbx : (W.alloc (.cells #[.int .i64 0, .int .i64 ka, .int .i64 kb, .int .i64 kn] 44)).heap[W.heap.size]? = some (Obj.cells #[.int .i64 0, .int .i64 ka, .int .i64 kb, .int .i64 kn] 44 (0, 0)) := heap_new _ _
  have S1 := S.step (below_alloc (Below.refl _ W) (.cells #[.int .i64 0, .int .i64 ka, .int .i64 kb, .int .i64 kn] 44))
  rw [← hN]
  clear hact hat hq hhd hs hsl hsL hatN hq48 hlen hrow hr hH hl hst hcs' S hN
  go_enter Tryd.func27, Tryd.ntmps27
  go_wp2_with (go_at_call 28; refine (R1.out _).mono ?_; clear R1; rintro e w2 ⟨rfl, hb2⟩)
  have hbx2 := (hb2.block _ (new_lt hbx)).trans hbx
  have S2 := S1.step hb2
  obtain ⟨x0, x1, x2, x3⟩ := cells4k hbx2
  clear hbx hb2 S1
  go_quiet (first
      | (go_at_call 28; exact Calls.quiet_of (R2.out _))
      | (go_at_call 29; exact Calls.quiet_of (R4.out _)))
  have S3 := S2.step (pw_below_drewN (Below.refl _ w2) nq)
  go_wp2_with (first
    | (go_at_call 28; refine (R3.out _).mono ?_; clear R3; rintro e w5 ⟨rfl, hb5⟩; have S5 := S3.step hb5)
    | (go_at_call 33; refine (I1.out w5 S5.rope S5.bars).mono ?_; clear I1; rintro e w6 ⟨rfl, hro, hg⟩; have S6 := S5.put hg hro)
    | (go_at_call 52; refine (I2.out w6 S6.row).mono ?_; clear I2; rintro e w7 ⟨A', c', rfl, hR7, hb7⟩))
  go_ret2
  exact ⟨A', c', rfl, (S6.row' hb7 hR7).1, (S6.row' hb7 hR7).2, HROW.out, HLEN.out⟩
set_option maxRecDepth 100000 in
set_option maxHeartbeats 16000000 in
theorem actsD_up {w W : World} {b : Nat} {A : Option Addr} {c : Nat} {cs : List (Int × Int)} {H : Int} (S : Sta w W b A c cs cs) (hr : RowOk H cs) (hH : 2 ≤ H ∧ H ≤ 1000) (hl : cs.length ≤ 20000) (ka kb kn : Int) :
    Calls Tryd.prog 27 #[.pointer (some ⟨b, 0, none⟩), .slice A cs.length c, .agg #[.int .i64 1, .int .i64 ka, .int .i64 kb, .int .i64 kn]] W fun e w' => ∃ A' c', e = .returned (.tuple #[.slice A' (actC cs 1 ka kb kn).length c', .bool true]) ∧ Sta w w' b A' c' (actC cs 1 ka kb kn) (actC cs 1 ka kb kn) ∧ Row (fun k => k < w.heap.size) w' A' c' (actC cs 1 ka kb kn) ∧ RowOk (H + 1) (actC cs 1 ka kb kn) ∧ (actC cs 1 ka kb kn).length ≤ cs.length + 48 := by
  have hact : actC cs 1 ka kb kn = bumpC cs (choL cs ka kb false) 1 := by rw [actC, if_neg (by decide), if_pos rfl]
  rw [hact]
  clear hact
  obtain ⟨k, hk, hN, hdn⟩ := choL_is cs (by omega) ka kb false
  obtain ⟨l, hl_⟩ : ∃ l, l = choL cs ka kb false := ⟨_, rfl⟩
  rw [← hl_] at hk hN hdn ⊢
  clear hl_
  have hok : BumpOk cs l 1 := by
    intro r hr' d hd
    have h1 := hr.h d (List.mem_of_mem_take (List.mem_of_mem_drop hd))
    have h2 := fun h => hdn h r hr' d hd
    omega
  have hlen : (bumpC cs l 1).length = cs.length := bumpC_len hN
  have hrow : RowOk (H + 1) (bumpC cs l 1) := hr.bump hN hok (by decide)
  obtain ⟨kb', hkb⟩ := bumped_is hN (by omega) hok
  have hll := hN.len
  have B1 : ∀ W A' c', RopeHas W b cs → Kd.C k133 W A' l.length (sRng l) → l.length ≤ c' → Calls Tryd.prog 39 #[.pointer (some ⟨b, 0, none⟩), .slice A' l.length c', .int .i64 1] W fun e w' => e = .returned (.int .i64 0) ∧ RopeHas w' b (bumpC cs l 1) ∧ W.grownBy w' (some b) := fun W A' c' h h2 h3 => rope_bump h (.inl rfl) hN hok (by omega) h2 h3
  have C1 : ∀ W, Row (fun k => k = b) W A c cs → Calls Tryd.prog 68 #[.slice A cs.length c, .int .i64 ka, .int .i64 kb, .bool false] W fun e w' => ∃ A' c', e = .returned (.slice A' l.length c') ∧ Kd.R k133 133 w' W.heap.size (fun _ => True) (.slice A' l.length c') (sRng l) ∧ Below W.heap.size W w' := fun W h => by
    have h1 := h.rd
    have h2 := h.cap
    rw [← sCells_len cs] at h1 h2 ⊢
    refine (redraftlaw03_chosen.calls k A c (sCells cs) ka kb false (sRng l) W h1 h2 hk).mono ?_
    rintro e w' ⟨v, he, hR, hb⟩
    obtain ⟨A', c', hv⟩ := Kd.R_slice hR
    rw [sRng_len] at hv
    subst hv
    exact ⟨A', c', he, hR, hb⟩
  have C2 : ∀ W A' c', Row (fun k => k = b) W A c cs → Kd.C k133 W A' l.length (sRng l) → l.length ≤ c' → Calls Tryd.prog 50 #[.slice A cs.length c, .slice A' l.length c', .int .i64 1] W fun e w' => ∃ A' c', e = .returned (.slice A' (bumpC cs l 1).length c') ∧ Kd.R k36 36 w' W.heap.size (fun _ => True) (.slice A' (bumpC cs l 1).length c') (sCells (bumpC cs l 1)) ∧ Below W.heap.size W w' := fun W A' c' h h3 h4 => by
    have h1 := h.rd
    have h2 := h.cap
    rw [← sCells_len cs] at h1 h2 ⊢
    rw [← sRng_len l] at h3 h4 ⊢
    refine (redraftlaw03_bumped.calls kb' A c (sCells cs) A' c' (sRng l) 1 (sCells (bumpC cs l 1)) W h1 h2 h3 h4 hkb).mono ?_
    rintro e w' ⟨v, he, hR, hb⟩
    obtain ⟨A', c', hv⟩ := Kd.R_slice hR
    rw [sCells_len] at hv
    subst hv
    exact ⟨A', c', he, hR, hb⟩
  replace B1 := Lib.hid B1
  replace C1 := Lib.hid C1
  replace C2 := Lib.hid C2
  obtain ⟨cs', hcs'⟩ : ∃ cs', cs' = bumpC cs l 1 := ⟨_, rfl⟩
  rw [← hcs']
  rw [← hcs'] at B1 C2 hlen hrow
  have HLEN := Lib.hid hlen
  have HROW := Lib.hid hrow
  have HLL := Lib.hid hll
  have hbx : (W.alloc (.cells #[.int .i64 1, .int .i64 ka, .int .i64 kb, .int .i64 kn] 44)).heap[W.heap.size]? = some (Obj.cells #[.int .i64 1, .int .i64 ka, .int .i64 kb, .int .i64 kn] 44 (0, 0)) := heap_new _ _
  have S1 := S.step (below_alloc (Below.refl _ W) (.cells #[.int .i64 1, .int .i64 ka, .int .i64 kb, .int .i64 kn] 44))
  clear hk hN hdn hok hlen hrow hkb hll hr hH hl hcs' S
  go_enter Tryd.func27, Tryd.ntmps27
  go_wp2_with (first
    | (go_at_call 68; refine (C1.out _ S1.row).mono ?_; clear C1; rintro e w2 ⟨A2, c2, rfl, hR2, hb2⟩; have S2 := S1.step hb2; have hC2 : Kd.C k133 w2 A2 l.length (sRng l) := (by have := (Kd.R_reads' hR2).2.2; rwa [sRng_len] at this); have hc2 := (Kd.R_reads' hR2).2.1; have HL0 : Hid ((([] : List S133).length + l.length) * 16 ≤ 140737488355328) := Lib.hid (by have := HLL.out; simp only [List.length_nil]; omega))
    | ((with_reducible refine gate_builtin (b := .append) (xs := #[.const (.slice none 0 0), .tmp 58]) rfl ?_); at_builtin; refine Kd.R_append_rows k133 (w0 := w2) w2.heap.size rfl (.const (.slice none 0 0)) (.tmp 58) 61 133 (.agg #[.int .i64 0, .int .i64 0]) 16 rfl Tryd.underlying61 info133 rfl (by decide) (by decide) _ ([] : List S133) (sRng l) _ _ _ (fun b => w2.heap.size ≤ b) (fun _ => False) rfl rfl (Kd.R_nil _ _ _ _ _) hC2 (fun _ _ h => h) (fun _ h => h.elim) (fun _ h => h) (Below.refl _ _) (Nat.le_refl _) HL0.out ?_; intro v3 w3 hR3 hB3 hg3 hat3; clear hg3 hat3; rw [List.nil_append] at hR3; obtain ⟨A3, c3, hv3⟩ := Kd.R_slice hR3; rw [sRng_len] at hv3; subst hv3; have S3 := S2.step hB3; have hC3 : Kd.C k133 w3 A3 l.length (sRng l) := (by have := (Kd.R_reads' hR3).2.2; rwa [sRng_len] at this); have hc3 := (Kd.R_reads' hR3).2.1)
    | (go_at_call 39; refine (B1.out w3 A3 c3 S3.rope hC3 hc3).mono ?_; clear B1; rintro e w4 ⟨rfl, hro, hg⟩; have S4 := S3.put hg hro; have hlt := S1.rope.lt; have hR4 := Kd.R_step (w1 := w4) (Kd.R_mono (Kd.R_bound (Kd.R_below hR2 hB3)) (fun k hk => hk.2.1)) (fun k hk hl => hg.block k hl (fun e => by injection e with e; omega)); have hC4 : Kd.C k133 w4 A2 l.length (sRng l) := (by have := (Kd.R_reads' hR4).2.2; rwa [sRng_len] at this))
    | (go_at_call 50; refine (C2.out w4 A2 c2 S4.row hC4 hc2).mono ?_; clear C2; rintro e w5 ⟨A', c', rfl, hR5, hb5⟩))
  go_ret2
  exact ⟨A', c', rfl, (S4.row' hb5 hR5).1, (S4.row' hb5 hR5).2, HROW.out, by have := HLEN.out; omega⟩
set_option maxRecDepth 100000 in
set_option maxHeartbeats 16000000 in
theorem actsD_down {w W : World} {b : Nat} {A : Option Addr} {c : Nat} {cs : List (Int × Int)} {H : Int} (S : Sta w W b A c cs cs) (hr : RowOk H cs) (hH : 2 ≤ H ∧ H ≤ 1000) (hl : cs.length ≤ 20000) (kd ka kb kn : Int) (h0 : kd ≠ 0) (h1 : kd ≠ 1) :
    Calls Tryd.prog 27 #[.pointer (some ⟨b, 0, none⟩), .slice A cs.length c, .agg #[.int .i64 kd, .int .i64 ka, .int .i64 kb, .int .i64 kn]] W fun e w' => ∃ A' c', e = .returned (.tuple #[.slice A' (actC cs kd ka kb kn).length c', .bool true]) ∧ Sta w w' b A' c' (actC cs kd ka kb kn) (actC cs kd ka kb kn) ∧ Row (fun k => k < w.heap.size) w' A' c' (actC cs kd ka kb kn) ∧ RowOk (H + 1) (actC cs kd ka kb kn) ∧ (actC cs kd ka kb kn).length ≤ cs.length + 48 := by
  have hact : actC cs kd ka kb kn = bumpC cs (choL cs ka kb true) (-1) := by rw [actC, if_neg h0, if_neg h1]
  rw [hact]
  clear hact
  obtain ⟨k, hk, hN, hdn⟩ := choL_is cs (by omega) ka kb true
  obtain ⟨l, hl_⟩ : ∃ l, l = choL cs ka kb true := ⟨_, rfl⟩
  rw [← hl_] at hk hN hdn ⊢
  clear hl_
  have hok : BumpOk cs l (-1) := by
    intro r hr' d hd
    have h1 := hr.h d (List.mem_of_mem_take (List.mem_of_mem_drop hd))
    have h2 := fun h => hdn h r hr' d hd
    have h3 := h2 rfl
    omega
  have hlen : (bumpC cs l (-1)).length = cs.length := bumpC_len hN
  have hrow : RowOk (H + 1) (bumpC cs l (-1)) := hr.bump hN hok (by decide)
  obtain ⟨kb', hkb⟩ := bumped_is hN (by omega) hok
  have hll := hN.len
  have B1 : ∀ W A' c', RopeHas W b cs → Kd.C k133 W A' l.length (sRng l) → l.length ≤ c' → Calls Tryd.prog 39 #[.pointer (some ⟨b, 0, none⟩), .slice A' l.length c', .int .i64 (-1)] W fun e w' => e = .returned (.int .i64 0) ∧ RopeHas w' b (bumpC cs l (-1)) ∧ W.grownBy w' (some b) := fun W A' c' h h2 h3 => rope_bump h (.inr rfl) hN hok (by omega) h2 h3
  have C1 : ∀ W, Row (fun k => k = b) W A c cs → Calls Tryd.prog 68 #[.slice A cs.length c, .int .i64 ka, .int .i64 kb, .bool true] W fun e w' => ∃ A' c', e = .returned (.slice A' l.length c') ∧ Kd.R k133 133 w' W.heap.size (fun _ => True) (.slice A' l.length c') (sRng l) ∧ Below W.heap.size W w' := fun W h => by
    have h1 := h.rd
    have h2 := h.cap
    rw [← sCells_len cs] at h1 h2 ⊢
    refine (redraftlaw03_chosen.calls k A c (sCells cs) ka kb true (sRng l) W h1 h2 hk).mono ?_
    rintro e w' ⟨v, he, hR, hb⟩
    obtain ⟨A', c', hv⟩ := Kd.R_slice hR
    rw [sRng_len] at hv
    subst hv
    exact ⟨A', c', he, hR, hb⟩
  have C2 : ∀ W A' c', Row (fun k => k = b) W A c cs → Kd.C k133 W A' l.length (sRng l) → l.length ≤ c' → Calls Tryd.prog 50 #[.slice A cs.length c, .slice A' l.length c', .int .i64 (-1)] W fun e w' => ∃ A' c', e = .returned (.slice A' (bumpC cs l (-1)).length c') ∧ Kd.R k36 36 w' W.heap.size (fun _ => True) (.slice A' (bumpC cs l (-1)).length c') (sCells (bumpC cs l (-1))) ∧ Below W.heap.size W w' := fun W A' c' h h3 h4 => by
    have h1 := h.rd
    have h2 := h.cap
    rw [← sCells_len cs] at h1 h2 ⊢
    rw [← sRng_len l] at h3 h4 ⊢
    refine (redraftlaw03_bumped.calls kb' A c (sCells cs) A' c' (sRng l) (-1) (sCells (bumpC cs l (-1))) W h1 h2 h3 h4 hkb).mono ?_
    rintro e w' ⟨v, he, hR, hb⟩
    obtain ⟨A', c', hv⟩ := Kd.R_slice hR
    rw [sCells_len] at hv
    subst hv
    exact ⟨A', c', he, hR, hb⟩
  replace B1 := Lib.hid B1
  replace C1 := Lib.hid C1
  replace C2 := Lib.hid C2
  obtain ⟨cs', hcs'⟩ : ∃ cs', cs' = bumpC cs l (-1) := ⟨_, rfl⟩
  rw [← hcs']
  rw [← hcs'] at B1 C2 hlen hrow
  have HLEN := Lib.hid hlen
  have HROW := Lib.hid hrow
  have HLL := Lib.hid hll
  have hbx : (W.alloc (.cells #[.int .i64 kd, .int .i64 ka, .int .i64 kb, .int .i64 kn] 44)).heap[W.heap.size]? = some (Obj.cells #[.int .i64 kd, .int .i64 ka, .int .i64 kb, .int .i64 kn] 44 (0, 0)) := heap_new _ _
  have S1 := S.step (below_alloc (Below.refl _ W) (.cells #[.int .i64 kd, .int .i64 ka, .int .i64 kb, .int .i64 kn] 44))
  have d0 : (kd == 0) = false := beq_eq_false_iff_ne.mpr h0
  have d1 : (kd == 1) = false := beq_eq_false_iff_ne.mpr h1
  clear h0 h1
  clear hk hN hdn hok hlen hrow hkb hll hr hH hl hcs' S
  go_enter Tryd.func27, Tryd.ntmps27
  go_wp2_with (first
    | (go_at_call 68; refine (C1.out _ S1.row).mono ?_; clear C1; rintro e w2 ⟨A2, c2, rfl, hR2, hb2⟩; have S2 := S1.step hb2; have hC2 : Kd.C k133 w2 A2 l.length (sRng l) := (by have := (Kd.R_reads' hR2).2.2; rwa [sRng_len] at this); have hc2 := (Kd.R_reads' hR2).2.1; have HL0 : Hid ((([] : List S133).length + l.length) * 16 ≤ 140737488355328) := Lib.hid (by have := HLL.out; simp only [List.length_nil]; omega))
    | ((with_reducible refine gate_builtin (b := .append) (xs := #[.const (.slice none 0 0), .tmp 58]) rfl ?_); at_builtin; refine Kd.R_append_rows k133 (w0 := w2) w2.heap.size rfl (.const (.slice none 0 0)) (.tmp 58) 61 133 (.agg #[.int .i64 0, .int .i64 0]) 16 rfl Tryd.underlying61 info133 rfl (by decide) (by decide) _ ([] : List S133) (sRng l) _ _ _ (fun b => w2.heap.size ≤ b) (fun _ => False) rfl rfl (Kd.R_nil _ _ _ _ _) hC2 (fun _ _ h => h) (fun _ h => h.elim) (fun _ h => h) (Below.refl _ _) (Nat.le_refl _) HL0.out ?_; intro v3 w3 hR3 hB3 hg3 hat3; clear hg3 hat3; rw [List.nil_append] at hR3; obtain ⟨A3, c3, hv3⟩ := Kd.R_slice hR3; rw [sRng_len] at hv3; subst hv3; have S3 := S2.step hB3; have hC3 : Kd.C k133 w3 A3 l.length (sRng l) := (by have := (Kd.R_reads' hR3).2.2; rwa [sRng_len] at this); have hc3 := (Kd.R_reads' hR3).2.1)
    | (go_at_call 39; refine (B1.out w3 A3 c3 S3.rope hC3 hc3).mono ?_; clear B1; rintro e w4 ⟨rfl, hro, hg⟩; have S4 := S3.put hg hro; have hlt := S1.rope.lt; have hR4 := Kd.R_step (w1 := w4) (Kd.R_mono (Kd.R_bound (Kd.R_below hR2 hB3)) (fun k hk => hk.2.1)) (fun k hk hl => hg.block k hl (fun e => by injection e with e; omega)); have hC4 : Kd.C k133 w4 A2 l.length (sRng l) := (by have := (Kd.R_reads' hR4).2.2; rwa [sRng_len] at this))
    | (go_at_call 50; refine (C2.out w4 A2 c2 S4.row hC4 hc2).mono ?_; clear C2; rintro e w5 ⟨A', c', rfl, hR5, hb5⟩))
  go_ret2
  exact ⟨A', c', rfl, (S4.row' hb5 hR5).1, (S4.row' hb5 hR5).2, HROW.out, by have := HLEN.out; omega⟩
theorem actsD_calls {w W : World} {b : Nat} {A : Option Addr} {c : Nat} {cs : List (Int × Int)} {H : Int} (S : Sta w W b A c cs cs) (hr : RowOk H cs) (hH : 2 ≤ H ∧ H ≤ 1000) (hl : cs.length ≤ 20000) (kd ka kb kn : Int) :
    Calls Tryd.prog 27 #[.pointer (some ⟨b, 0, none⟩), .slice A cs.length c, .agg #[.int .i64 kd, .int .i64 ka, .int .i64 kb, .int .i64 kn]] W fun e w' => ∃ A' c', e = .returned (.tuple #[.slice A' (actC cs kd ka kb kn).length c', .bool true]) ∧ Sta w w' b A' c' (actC cs kd ka kb kn) (actC cs kd ka kb kn) ∧ Row (fun k => k < w.heap.size) w' A' c' (actC cs kd ka kb kn) ∧ RowOk (H + 1) (actC cs kd ka kb kn) ∧ (actC cs kd ka kb kn).length ≤ cs.length + 48 := by
  by_cases h0 : kd = 0
  · subst h0; exact actsD_put S hr hH.1 hl ka kb kn
  · by_cases h1 : kd = 1
    · subst h1; exact actsD_up S hr hH hl ka kb kn
    · exact actsD_down S hr hH hl kd ka kb kn h0 h1
end Go.Proofs.YteeigokkafcaaaaDoorRope
end
section
namespace Go.Proofs.YteeigokkafcaaaaDoorRope
open Go.RowKit Go.Proofs.YteeigokkafcaaaaDoorW.PrintWords Go.Proofs.YteeigokkafcaaaaDoorW.PrintMore Go.Proofs.YteeigokkafcaaaaDoor.Pr
set_option linter.unusedSimpArgs false
set_option linter.unusedVariables false
def Free (o : Obj) : Prop := ∀ c ty f, o = Obj.cells c ty f → ty ≠ 36 ∧ ty ≠ 153 ∧ ty ≠ 113 ∧ ty ≠ 135 ∧ ty ≠ 105 ∧ ∀ v ∈ c, ∀ x, v ≠ Value.int .i32 x
theorem Free.one {v : Value} {ty : Nat} (h : ty ≠ 36 ∧ ty ≠ 153 ∧ ty ≠ 113 ∧ ty ≠ 135 ∧ ty ≠ 105) (hv : ∀ x, v ≠ Value.int .i32 x) : Free (.cells #[v] ty (0, 0)) := by
  intro c ty' f e
  injection e with e1 e2 e3
  subst e1 e2
  refine ⟨h.1, h.2.1, h.2.2.1, h.2.2.2.1, h.2.2.2.2, fun v' hv' x => ?_⟩
  rw [Array.mem_singleton.1 hv']
  exact hv x
theorem Free.other {o : Obj} (h : o.isCells = false) : Free o := by
  intro c ty f e
  rw [e] at h
  cases h
theorem free_cell {W : World} {d : Nat} {o : Obj} (hd : W.heap[d]? = some o) (ho : Free o) {ad : Addr} {x : Int} (h : W.cell? ad = some (.int .i32 x)) : ad.block ≠ d := by
  intro e
  rw [World.cell?, e, hd] at h
  cases o with
  | cells c ty f =>
    have := (ho c ty f rfl).2.2.2.2.2
    dsimp only at h
    split at h
    · cases h
    · obtain ⟨h1, h2⟩ := Array.getElem?_eq_some_iff.1 h
      exact this _ (h2 ▸ Array.getElem_mem h1) x rfl
  | _ => cases h
theorem free_runes {W : World} {A : Option Addr} {rs : List Int} (h : RunesAt W A rs) (hne : rs ≠ []) {d : Nat} {o : Obj} (hd : W.heap[d]? = some o) (ho : Free o) : ∀ ad, A = some ad → ad.block ≠ d := by
  intro ad e
  have hz : 0 < rs.length := List.length_pos_iff.2 hne
  obtain ⟨ad', e', hc⟩ := Kd.at_int h 0 (Int.le_refl _) (by omega)
  rw [e] at e'
  injection e' with e'
  subst e'
  exact free_cell hd ho hc
theorem rep_free {K : Nat → Prop} {W : World} {d : Nat} {o : Obj} (hd : W.heap[d]? = some o) (ho : Free o) {t : Tree} : ∀ {v : Value} {a : Int}, Rep K W t v → t.Good a → Rep (fun k => K k ∧ k ≠ d) W t v := by
  induction t with
  | nil => intro v a h _; exact h
  | node l rs hid r plus ihl ihr =>
    rintro v a ⟨g, vl, vr, A, c, rfl, hh, hg, hc, hr, hA, h1, h2⟩ ⟨g1, g2, g3, g4, g5, g6, g7, g8, g9⟩
    refine ⟨g, vl, vr, A, c, rfl, hh, ⟨hg, ?_⟩, hc, hr, fun ad e => ⟨hA ad e, free_runes hr g1 hd ho ad e⟩, ihl h1 g8, ihr h2 g9⟩
    rintro rfl
    rw [hd] at hh
    injection hh with hh
    exact absurd rfl (ho _ _ _ hh).2.1
theorem RopeHas.free {W W' : World} {b d : Nat} {cs : List (Int × Int)} {o : Obj} (h : RopeHas W b cs) (hd : W.heap[d]? = some o) (ho : Free o) (hne : b ≠ d) (hg : W.grownBy W' (some d)) : RopeHas W' b cs := by
  obtain ⟨K, t, ⟨⟨v, hv, ht⟩, hn⟩, hc⟩ := h
  refine ⟨fun k => K k ∧ k ≠ d, t, ⟨⟨v, (hg.block b (new_lt hv) (fun e => hne (by injection e))).trans hv, ?_⟩, fun hk => hn hk.1⟩, hc⟩
  exact ⟨(rep_free hd ho ht.rep ht.good).move (fun k hk hl => hg.block k hl (fun e => hk.2 (by injection e))), ht.good⟩
abbrev Row0 (W : World) (A : Option Addr) (c : Nat) (cs : List (Int × Int)) : Prop := Row (fun _ => False) W A c cs
theorem Row.free {S : Nat → Prop} {W W' : World} {A : Option Addr} {c d : Nat} {cs : List (Int × Int)} {o : Obj} (h : Row S W A c cs) (hd : W.heap[d]? = some o) (ho : Free o) (hg : W.grownBy W' (some d)) : Row S W' A c cs := by
  obtain ⟨base, h⟩ := h
  refine ⟨base, Kd.R_mono (Kd.R_step (Kd.R_bound h) (fun k hk hl => hg.block k hl (fun e => ?_))) (fun k hk => hk.1)⟩
  injection e with e
  obtain ⟨_, _, _, q, hq, c', hc'⟩ := hk
  rw [e, hd] at hc'
  injection hc' with hc'
  have hne := (ho _ _ _ hc').1
  rw [show k36.E = [] from rfl] at hq
  exact hne (List.mem_singleton.1 hq)
theorem Row.beside {S : Nat → Prop} {W : World} {A : Option Addr} {c b : Nat} {cs : List (Int × Int)} (h : Row S W A c cs) (hb : BoxAt W b) : Row (fun k => k = b) W A c cs := by
  obtain ⟨base, h⟩ := h
  refine ⟨base, Kd.R_mono (Kd.R_bound h) (fun k hk e => ?_)⟩
  obtain ⟨_, _, _, q, hq, c', hc'⟩ := hk
  obtain ⟨p, hb⟩ := hb
  rw [e, hb] at hc'
  injection hc' with hc'
  injection hc' with _ hc' _
  rw [show k36.E = [] from rfl] at hq
  rw [List.mem_singleton.1 hq] at hc'
  exact absurd hc' (by decide)
theorem BarsAt.free {W W' : World} {d : Nat} (h : BarsAt W) (hg : W.grownBy W' (some d)) (hb : d ≠ 0) : BarsAt W' := h.grown hg hb
theorem KpC.grown {B b LB d : Nat} {W W' : World} {o : Obj} (hg : W.grownBy W' (some d)) (hd : W.heap[d]? = some o) (ho : ∀ c ty, ty = 153 ∨ ty = 113 ∨ ty = 135 ∨ ty = 105 → o ≠ .cells c ty (0, 0)) (h1 : d = b ∨ B ≤ d) (h2 : d ≠ LB) (hB : B ≤ W.heap.size) (hL : LB < W.heap.size) : KpC B b LB W W' := by
  refine ⟨hg.size, fun k hk hkb => hg.block k (Nat.lt_of_lt_of_le hk hB) (fun e => by injection e with e; omega), fun k c ty ht hk => ?_, hg.block LB hL (fun e => by injection e with e; exact h2 e.symm)⟩
  refine (hg.block k (new_lt hk) (fun e => ?_)).trans hk
  injection e with e
  rw [e, hd] at hk
  injection hk with hk
  exact ho c ty ht hk
theorem Free.kp {o : Obj} (h : Free o) : ∀ c ty, ty = 153 ∨ ty = 113 ∨ ty = 135 ∨ ty = 105 → o ≠ .cells c ty (0, 0) := by
  intro c ty ht e
  obtain ⟨_, h1, h2, h3, h4, _⟩ := h c ty (0, 0) e
  rcases ht with ht | ht | ht | ht
  · exact h1 ht
  · exact h2 ht
  · exact h3 ht
  · exact h4 ht
theorem new_lt' {W : World} {k : Nat} {o : Obj} (h : W.heap[k]? = some o) : k < W.heap.size := (Array.getElem?_eq_some_iff.1 h).1
structure Hold (w w6 W : World) (B b LB : Nat) (L : List (Nat × Obj)) (A : Option Addr) (c : Nat) (m : List (Int × Int)) : Prop where
  bel : Below w.heap.size w W
  kp : KpC B b LB w6 W
  bars : BarsAt W
  row : Row0 W A c m
  rope : RopeHas W b m
  at_ : ∀ x ∈ L, W.heap[x.1]? = some x.2
  ne : ∀ x ∈ L, x.1 ≠ b
  lo : ∀ x ∈ L, B ≤ x.1 ∧ x.1 ≠ LB
  lb : w.heap.size ≤ b
  nz : b ≠ 0
  wB : w.heap.size ≤ B
  w0 : 0 < B
  bB : b < B
  B6 : B ≤ w6.heap.size
  L6 : LB < w6.heap.size
  lB : B ≤ LB
section
variable {w w6 W W' : World} {B b LB : Nat} {L L' : List (Nat × Obj)} {A A' : Option Addr} {c c' : Nat} {m m' : List (Int × Int)}
theorem Hold.sta (h : Hold w w6 W B b LB L A c m) : Sta W W b A c m m := ⟨grownBy_refl _ _, h.bars, h.row.beside h.rope.box, h.rope, h.nz⟩
theorem Hold.stand (h : Hold w w6 W B b LB L A c m) : Stand w W b A c m m := ⟨h.bel, h.bars, h.row.beside h.rope.box, h.rope, h.lb, h.nz⟩
theorem Hold.hB (h : Hold w w6 W B b LB L A c m) : B ≤ W.heap.size := Nat.le_trans h.B6 h.kp.s
theorem Hold.hL (h : Hold w w6 W B b LB L A c m) : LB < W.heap.size := Nat.lt_of_lt_of_le h.L6 h.kp.s
theorem Hold.step (h : Hold w w6 W B b LB L A c m) (hb : Below W.heap.size W W') : Hold w w6 W' B b LB L A c m :=
  ⟨h.bel.trans (hb.mono h.bel.size), h.kp.trans (KpC.of hb h.hB h.hL), h.bars.below hb, h.row.below hb, h.rope.below hb, fun x hx => (hb.block _ (new_lt' (h.at_ x hx))).trans (h.at_ x hx), h.ne, h.lo, h.lb, h.nz, h.wB, h.w0, h.bB, h.B6, h.L6, h.lB⟩
theorem Hold.sub (h : Hold w w6 W B b LB L A c m) (hs : ∀ x ∈ L', x ∈ L) : Hold w w6 W B b LB L' A c m :=
  ⟨h.bel, h.kp, h.bars, h.row, h.rope, fun x hx => h.at_ x (hs x hx), fun x hx => h.ne x (hs x hx), fun x hx => h.lo x (hs x hx), h.lb, h.nz, h.wB, h.w0, h.bB, h.B6, h.L6, h.lB⟩
theorem Hold.put (h : Hold w w6 W B b LB L A c m) {k : Nat} {o : Obj} (hk : W.heap[k]? = some o) (hl : B ≤ k ∧ k ≠ LB) : Hold w w6 W B b LB ((k, o) :: L) A c m :=
  ⟨h.bel, h.kp, h.bars, h.row, h.rope, fun x hx => by rcases List.mem_cons.1 hx with rfl | hx; exact hk; exact h.at_ x hx, fun x hx => by
    rcases List.mem_cons.1 hx with rfl | hx
    · have := h.bB; show k ≠ b; omega
    · exact h.ne x hx, fun x hx => by rcases List.mem_cons.1 hx with rfl | hx; exact hl; exact h.lo x hx, h.lb, h.nz, h.wB, h.w0, h.bB, h.B6, h.L6, h.lB⟩
theorem Hold.add (h : Hold w w6 W B b LB L A c m) (v : Value) (ty : Nat) : Hold w w6 (W.alloc (.cells #[v] ty)) B b LB ((W.heap.size, .cells #[v] ty (0, 0)) :: L) A c m :=
  (h.step (below_alloc (Below.refl _ W) _)).put (heap_new _ _) ⟨h.hB, fun e => by have := h.hL; omega⟩
theorem Hold.turn (h : Hold w w6 W B b LB L A c m) {d : Nat} {o : Obj} (hd : W.heap[d]? = some o) (ho : Free o) (hl : B ≤ d ∧ d ≠ LB) (hL : ∀ x ∈ L, x.1 ≠ d) (hg : W.grownBy W' (some d)) : Hold w w6 W' B b LB L A c m := by
  have h1 := h.wB
  have h2 := h.w0
  have h3 := h.bB
  exact ⟨below_grown h.bel hg (by omega) h.bel.size, h.kp.trans (KpC.grown hg hd ho.kp (.inr hl.1) hl.2 h.hB h.hL), h.bars.free hg (by omega), h.row.free hd ho hg, h.rope.free hd ho (by omega) hg, fun x hx => (hg.block _ (new_lt' (h.at_ x hx)) (fun e => hL x hx (by injection e))).trans (h.at_ x hx), h.ne, h.lo, h.lb, h.nz, h.wB, h.w0, h.bB, h.B6, h.L6, h.lB⟩
theorem Hold.set {k ty : Nat} {v0 : Value} (h : Hold w w6 W B b LB ((k, .cells #[v0] ty (0, 0)) :: L) A c m) (hf : Free (.cells #[v0] ty (0, 0))) (hL : ∀ x ∈ L, x.1 ≠ k) (v : Value) : Hold w w6 (W.setCell ⟨k, 0, none⟩ v) B b LB ((k, .cells #[v] ty (0, 0)) :: L) A c m := by
  have hk := h.at_ _ List.mem_cons_self
  have hl := h.lo _ List.mem_cons_self
  exact ((h.sub (fun x hx => List.mem_cons_of_mem _ hx)).turn hk hf hl hL grown_set).put (Boxed.set v (show Boxed W k ty v0 from hk)) hl
theorem Hold.act (h : Hold w w6 W B b LB L A c m) (S : Sta W W' b A' c' m' m') (R : Row (fun k => k < W.heap.size) W' A' c' m') : Hold w w6 W' B b LB L A' c' m' := by
  obtain ⟨p, hp⟩ := h.rope.box
  exact ⟨below_grown h.bel S.gr h.lb h.bel.size, h.kp.trans (KpC.grown S.gr hp (by
    intro c ty ht e
    injection e with _ e _
    rw [← e] at ht
    exact absurd ht (by decide)) (.inl rfl) (by have := h.bB; have := h.lB; omega) h.hB h.hL), S.bars, S.row.less (fun _ h => h.elim), S.rope, fun x hx => (S.gr.block _ (new_lt' (h.at_ x hx)) (fun e => h.ne x hx (by injection e))).trans (h.at_ x hx), h.ne, h.lo, h.lb, h.nz, h.wB, h.w0, h.bB, h.B6, h.L6, h.lB⟩
theorem Hold.box (h : Hold w w6 W B b LB L A c m) {k : Nat} {v : Value} {ty : Nat} (hx : (k, Obj.cells #[v] ty (0, 0)) ∈ L) : Boxed W k ty v := h.at_ _ hx
end
end Go.Proofs.YteeigokkafcaaaaDoorRope
end
section
namespace Go
open Go.RowKit
variable {F : Fence} {n : Nat} {P : Program}
theorem wpIn_rangeFunc_ownB {α : Type} {g : Operand} {ps : Array Tmp} {assign body : Code} {Q : Exit → Act → World → Prop} {a : Act} {w : World}
    (hro : F.round = none) (h1 : 1 ≤ n) {gf : Nat} {lb : Array Value} (hg : a.eval g = .func (.func gf) #[] lb) (hFg : F.fn gf) (eg : ∀ args w, (callFunc gf args).run P w = .ok (.enter gf args) w)
    {encs : α → Array Value} {Kp : World → World → Prop} {S Sp : List α → Prop} {N : Nat} (hseq : SeqStopsK F (n - 1) P gf lb encs Kp S Sp N w)
    (hKt : ∀ {A B C : World}, Kp A B → Kp B C → Kp A C) (hKb : ∀ (W : World) (l : Nat) (o o' : Obj), w.heap.size ≤ l → W.heap[l]? = some o → o.isCells = false → o.isWalk = false → Kp W (W.putObj l o')) (hps : ∀ x, (encs x).size = ps.size)
    (I : List α → World → Prop) (Ix : Code → List α → World → Prop) (hI : OwnFrom w.heap.size I) (hIx : ∀ c, OwnFrom w.heap.size (Ix c)) (h0 : I [] w) (bo : α → Array Value) (bt : TypeId)
    (hKa : ∀ (pre : List α) (W : World) (o : Obj), I pre W → Kp W (W.alloc o)) (a₁ : α → Nat → Act)
    (hassign : ∀ (l : Nat) (x : α) (W : World) (q : Nat), q = W.heap.size → ∀ (K : Act → World → Prop), K (a₁ x q) (W.alloc (.cells (bo x) bt)) →
      assign.wpIn (F.inRound l) (n - 1 - 1) P (Exit.then K (fun _ _ _ => False)) { tmps := (ps.zip (encs x)).foldl (fun t (p, v) => t.setIfInBounds p v) a.tmps, defers := [] } W)
    (hbody : ∀ (l : Nat) (pre : List α) (x : α) (W : World) (q : Nat), I pre W → W.heap[q]? = some (.cells (bo x) bt (0, 0)) → pre.length < N → body.wpIn (F.inRound l) (n - 1 - 1) P (ownPostG w.heap.size Kp I Ix (pre ++ [x]) W) (a₁ x q) W)
    (hdone : ∀ (D : Nat) (xs : List α) (W : World), w.heap.size ≤ D → S xs → I xs W → W.heap[D]? = some (.deferred (some [])) → Q .normal { a with defers := { target := .collected D, args := #[] } :: a.defers } W)
    (hstop : ∀ (D : Nat) (c : Code) (pre : List α) (W : World), w.heap.size ≤ D → Sp pre → Ix c pre W → W.heap[D]? = some (.deferred (some [])) → c.wpIn F n P Q { a with defers := { target := .collected D, args := #[] } :: a.defers } W) :
    (Code.rangeFunc g ps assign body).wpIn F n P Q a w := by
  refine wpIn_rangeFunc_ownH hro h1 hg hFg eg hseq hKt hKb (Below.refl _ _) hps I Ix hI hIx h0 (fun x a' W => ∃ q, W.heap[q]? = some (.cells (bo x) bt (0, 0)) ∧ a' = a₁ x q) ?_ ?_ ?_ hdone hstop
  · intro x a' s W W' row hs hgr hr
    obtain ⟨q, hq, he⟩ := hs
    refine ⟨q, (hgr.block q (Array.getElem?_eq_some_iff.1 hq).1 (fun e => ?_)).trans hq, he⟩
    obtain ⟨_, o, ho, hc⟩ := hr q e.symm
    rw [hq] at ho
    cases ho
    cases hc
  · intro l pre x W K hi hK
    refine hassign l x W _ rfl K (hK _ _ ?_ (hKa pre W _ hi) (hI.alloc _ hi) ⟨_, World.alloc_heap_new W _, rfl⟩)
    exact ⟨by simp, fun k o _ ho _ => (Below.heap_alloc _ _ _ (Array.getElem?_eq_some_iff.1 ho).1).trans ho⟩
  · rintro l pre x a' W _ _ hi ⟨q, hq, rfl⟩ hlen
    exact hbody l pre x W q hi hq hlen
end Go
end
section
namespace Go
open Go.RowKit
section
variable {F : Fence} {n : Nat} {P : Program} {md : Region.Mode} {ops : Array Oper} {C : World → Prop}
def noDefer (ops : Array Oper) : Bool := ops.all fun o => match o.op with | .defer _ => false | _ => true
theorem noDefer_spec {ops : Array Oper} (h : noDefer ops = true) {i : Nat} {o : Oper} (hi : ops[i]? = some o) : ∀ c, o.op ≠ .defer c := by
  intro c e
  obtain ⟨h1, h2⟩ := Array.getElem?_eq_some_iff.1 hi
  have := (Array.all_eq_true.1 h) i h1
  rw [h2, e] at this
  cases this
theorem wpIn_of_quietR {o : Oper} {a : Act} {K : Act → Prop} {K' : Act → World → Prop} {Q' : Exit → Act → World → Prop} {w : World} (hnd : ∀ c, o.op ≠ .defer c) (hw : C w) (h : ∀ a w', C w' → K a → K' a w')
    (ha : o.askedIn F P a C) (hh : o.quietIn F n P a C K) : o.wpIn F n P a w K' Q' := by
  obtain ⟨v, h1, h2⟩ := hh
  have h3 := h1 w hw
  unfold Oper.quietAtIn at h3
  unfold Oper.wpIn
  refine ⟨ha w hw, ?_⟩
  rw [Oper.semAt_plain F _ _ hnd]
  generalize (execOp a.eval o).run P w = r at *
  cases r with
  | ok x w' =>
    cases x <;> simp only [Oper.quietUponIn] at h3 <;> simp only [Oper.uponIn]
    case value u =>
      obtain ⟨e1, e2⟩ := h3
      rw [e1, e2]
      exact h _ _ hw h2
    case skip =>
      obtain ⟨e1, e2⟩ := h3
      rw [e1, ← e2]
      exact h _ _ hw h2
    case enter f args =>
      obtain ⟨e1, hd, hc⟩ := h3
      rw [e1]
      exact ⟨hd, hc.mono fun e w'' ⟨he, hw''⟩ => by subst he; exact h _ _ hw'' h2⟩
  | halt x w' => simp only [Oper.quietUponIn] at h3
theorem wpOpIn_of_quietR {i : Nat} {a : Act} {K : Act → Prop} {K' : Act → World → Prop} {Q' : Exit → Act → World → Prop} {w : World} (hnd : noDefer ops = true) (hC : C w) (h : ∀ a w', C w' → K a → K' a w')
    (hh : qOpIn F n P ops C i K a) : wpOpIn F n P ops Q' i K' a w := by
  unfold qOpIn at hh
  unfold wpOpIn
  split
  · rename_i ho; simp only [ho] at hh; exact h _ _ hC hh
  · rename_i o ho
    simp only [ho] at hh
    obtain ⟨ha, hh⟩ := hh
    split
    · rename_i hw; simp only [hw, if_true] at hh; exact wpIn_of_quietR (noDefer_spec hnd ho) hC h ha hh
    · rename_i hw; simp only [hw] at hh; exact ⟨ha w hC, h _ _ hC hh⟩
theorem wpAnyIn_of_quietR {Q : Act → Prop} {Q' : Exit → Act → World → Prop} (hnd : noDefer ops = true) (hQ : ∀ a w, C w → Q a → Q' .normal a w) : ∀ (fuel : Nat) (listed : Array Bool) (a : Act) (w : World), C w →
    wpAnyQIn F n P md ops C Q fuel listed a → wpAnyIn F n P md ops Q' fuel listed a w
  | 0, _, _, _, hw, h => ⟨h.1, hQ _ _ hw h.2⟩
  | fuel + 1, _, _, _, hw, h => ⟨fun h0 => hQ _ _ hw (h.1 h0), fun i hi => wpOpIn_of_quietR hnd hw (fun a' w' hw' => wpAnyIn_of_quietR hnd hQ fuel _ a' w' hw') (h.2 i hi)⟩
theorem wpIn_region_quietR {id : Nat} {Q : Exit → Act → World → Prop} {a : Act} {w : World} {l : List Oper} (hnd : noDefer l.toArray = true) (hm : P.follows .mixedOrders = true) (hB : Region.lexB .any l.toArray = true)
    (h : wpQuietIn F n P l.toArray (fun w' => ∃ n, w' = w.drewN n) (fun a' => ∀ w', (∃ n, w' = w.drewN n) → Q .normal a' w') l a) : (Code.region id l.toArray true).wpIn F n P Q a w := by
  simp only [Region.lexB, Bool.and_eq_true] at hB
  refine wpIn_region_any hm (wpAnyIn_of_quietR (C := fun w' => ∃ n, w' = w.drewN n) (Q := fun a' => ∀ w', (∃ n, w' = w.drewN n) → Q .normal a' w') hnd (fun _ w' hw' h => h w' hw') _ _ _ _ ⟨1, rfl⟩ ?_)
  have := wpAnyQIn_lex (F := F) (n := n) (C := fun w' => ∃ n, w' = w.drewN n) (md := .any) hB.1 l.toArray.toList 0 (Array.replicate l.toArray.size false) a (by simp) (by simpa using hB.2) h
  simpa using this
end
end Go
end
section
namespace Go.Proofs.YteeigokkafcaaaaDoorRope
open Go.RowKit Go.Proofs.YteeigokkafcaaaaDoorW.PrintWords Go.Proofs.YteeigokkafcaaaaDoorW.PrintMore Go.Proofs.YteeigokkafcaaaaDoor.Pr
set_option linter.unusedSimpArgs false
set_option linter.unusedVariables false
theorem nth0_here {cs : List (Int × Int)} {q : Nat} (h : q < cs.length) (h0 : cs[q].2 = 0) : nth0 cs (vis (cs.take q)) = q := by
  have e := nth0_append (cs.take q) (cs.drop q) (vis (cs.take q))
  rw [List.take_append_drop, if_neg (Nat.lt_irrefl _), Nat.sub_self, List.length_take, List.drop_eq_getElem_cons h, nth0, if_pos h0, if_pos rfl] at e
  rw [e]
  omega
set_option maxRecDepth 100000 in
set_option maxHeartbeats 32000000 in
theorem is_calls {w W : World} {b : Nat} {A : Option Addr} {c : Nat} {cs : List (Int × Int)} (S : Stand w W b A c cs cs) (hrn : ∀ x ∈ cs, Rn x.1) (hl : cs.length ≤ 20000) :
    Calls Tryd.prog 40 #[.pointer (some ⟨b, 0, none⟩), .slice A cs.length c] W fun e w' => e = .returned (.bool true) ∧ Below W.heap.size W w' := by
  obtain ⟨N, hN⟩ : ∃ N, N = cs.length := ⟨_, rfl⟩
  have bN : (N : Int) ≤ 20000 := by omega
  obtain ⟨V, hV⟩ : ∃ V, V = vis cs := ⟨_, rfl⟩
  have hVN : V ≤ N := by rw [hV, hN]; exact vis_le cs
  have C1 : ∀ W b, RopeHas W b cs → Calls Tryd.prog 19 #[.pointer (some ⟨b, 0, none⟩)] W fun e w' => e = .returned (.int .i64 (N : Int)) ∧ Below W.heap.size W w' := fun W b h => by rw [hN]; exact rope_total h
  have C2 : ∀ W b, RopeHas W b cs → Calls Tryd.prog 20 #[.pointer (some ⟨b, 0, none⟩)] W fun e w' => e = .returned (.int .i64 (V : Int)) ∧ Below W.heap.size W w' := fun W b h => by rw [hV]; exact rope_shown h
  have C3 : ∀ W b, RopeHas W b cs → Calls Tryd.prog 30 #[.pointer (some ⟨b, 0, none⟩)] W fun e w' => e = .returned (.string (txt (visR cs))) ∧ Below W.heap.size W w' := fun W b h => rope_text h (by omega) hrn
  have C4 : ∀ W A c, Kd.C k36 W A N (sCells cs) → Calls Tryd.prog 32 #[.slice A N c, .int .i64 0, .int .i64 (N : Int)] W fun e w' => e = .returned (.string (txt (visR cs))) ∧ Below W.heap.size W w' := fun W A c h => by rw [hN] at h ⊢; exact textS_calls (by omega) hrn h
  have C5 : ∀ W A c, Kd.C k36 W A N (sCells cs) → N ≤ c → Calls Tryd.prog 17 #[.slice A N c, .int .i64 (N : Int)] W fun e w' => e = .returned (.int .i64 (V : Int)) ∧ Below W.heap.size W w' := fun W A c h h2 => by
    rw [hN] at h h2 ⊢
    have := shownS_calls (Nat.le_refl _) (by omega) h h2
    rw [List.take_length, ← hV] at this
    exact this
  have C6 : ∀ W b (q : Nat) (h : q < cs.length), RopeHas W b cs → Calls Tryd.prog 34 #[.pointer (some ⟨b, 0, none⟩), .int .i64 (q : Int)] W fun e w' => e = .returned (.tuple #[.agg #[.int .i32 cs[q].1, .int .i64 cs[q].2], .int .i64 0]) ∧ Below W.heap.size W w' := fun W b q hq h => rope_cell h (by omega) hq
  have C7 : ∀ W b (q : Nat), q ≤ cs.length → RopeHas W b cs → Calls Tryd.prog 22 #[.pointer (some ⟨b, 0, none⟩), .int .i64 (q : Int)] W fun e w' => e = .returned (.tuple #[.int .i64 (vis (cs.take q) : Int), .int .i64 0]) ∧ Below W.heap.size W w' := fun W b q hq h => rope_before h (by omega) hq
  have C8 : ∀ W b, RopeHas W b cs → Calls Tryd.prog 34 #[.pointer (some ⟨b, 0, none⟩), .int .i64 (N : Int)] W fun e w' => e = .returned (.tuple #[.agg #[.int .i32 0, .int .i64 0], .int .i64 12]) ∧ Below W.heap.size W w' := fun W b h => rope_cell_no h (Nat.le_of_eq hN.symm)
  have C9 : ∀ W b, RopeHas W b cs → Calls Tryd.prog 21 #[.pointer (some ⟨b, 0, none⟩), .int .i64 (V : Int)] W fun e w' => e = .returned (.tuple #[.int .i64 (N : Int), .int .i64 0]) ∧ Below W.heap.size W w' := fun W b h => by
    have := rope_totalOf h (by omega) (p := V) (by omega)
    rw [hV, nth0_end, ← hN, ← hV] at this
    exact this
  have C10 : ∀ W b, RopeHas W b cs → Calls Tryd.prog 21 #[.pointer (some ⟨b, 0, none⟩), .int .i64 ((V : Int) + 1)] W fun e w' => e = .returned (.tuple #[.int .i64 0, .int .i64 12]) ∧ Below W.heap.size W w' := fun W b h => rope_totalOf_no h (by omega)
  have C11 : ∀ W b (q : Nat) (h : q < cs.length), cs[q].2 = 0 → RopeHas W b cs → Calls Tryd.prog 21 #[.pointer (some ⟨b, 0, none⟩), .int .i64 (vis (cs.take q) : Int)] W fun e w' => e = .returned (.tuple #[.int .i64 (q : Int), .int .i64 0]) ∧ Below W.heap.size W w' := fun W b q hq h0 h => by
    have := rope_totalOf h (by omega) (p := vis (cs.take q)) (vis_take_le cs q)
    rw [nth0_here hq h0] at this
    exact this
  replace C1 := Lib.hid C1
  replace C2 := Lib.hid C2
  replace C3 := Lib.hid C3
  replace C4 := Lib.hid C4
  replace C5 := Lib.hid C5
  replace C6 := Lib.hid C6
  replace C7 := Lib.hid C7
  replace C8 := Lib.hid C8
  replace C9 := Lib.hid C9
  replace C10 := Lib.hid C10
  replace C11 := Lib.hid C11
  obtain ⟨st, hst⟩ : ∃ st, st = txt (visR cs) := ⟨_, rfl⟩
  rw [← hst] at C3 C4
  have HN := Lib.hid hN
  have HV := Lib.hid hV
  rw [← hN]
  clear hst hN hV hrn hl
  go_enter Tryd.func40, Tryd.ntmps40
  go_wp2_with (first
    | (go_at_call 19; refine (C1.out W b S.rope).mono ?_; rintro e w1 ⟨rfl, hb1⟩; have S1 := S.step hb1)
    | (go_at_call 20; refine (C2.out w1 b S1.rope).mono ?_; rintro e w2 ⟨rfl, hb2⟩; have S2 := S1.step hb2)
    | (go_at_call 17; refine (C5.out w2 A c (by rw [HN.out]; exact S2.row.rd) (by rw [HN.out]; exact S2.row.cap)).mono ?_; rintro e w3 ⟨rfl, hb3⟩; have S3 := S2.step hb3)
    | (go_at_call 30; refine (C3.out w3 b S3.rope).mono ?_; rintro e w4 ⟨rfl, hb4⟩; have S4 := S3.step hb4)
    | (go_at_call 32; refine (C4.out w4 A c (by rw [HN.out]; exact S4.row.rd)).mono ?_; rintro e w5 ⟨rfl, hb5⟩; have S5 := S4.step hb5))
  have hB5 : Below W.heap.size W w5 := hb1.trans ((hb2.trans ((hb3.trans ((hb4.trans (hb5.mono hb4.size)).mono hb3.size)).mono hb2.size)).mono hb1.size)
  clear S S1 S2 S3 S4 hb1 hb2 hb3 hb4 hb5 C1 C2 C3 C4 C5
  go_loopw [5, 6] (fun v5 v6 wr => ∃ q : Nat, q ≤ N ∧ v6 = .int .i64 (q : Int) ∧ v5 = .int .i64 (vis (cs.take q) : Int) ∧ Stand w wr b A c cs cs ∧ Below W.heap.size W wr) (fun _ v6 _ => N - (intOf v6).toNat)
  case atStart => exact ⟨0, Nat.zero_le _, rfl, rfl, S5, hB5⟩
  case round =>
    clear S5 hB5
    obtain ⟨q, hq, rfl, rfl, Sr, hBr⟩ := hrel
    have qb : (q : Int) ≤ 20000 := by omega
    by_cases hlt : q < N
    · have hlt' : q < cs.length := by rw [← HN.out]; exact hlt
      obtain ⟨ad, hAd, x0, x1⟩ := row_cell Sr.row.rd hlt'
      have hsn := vis_snoc hlt'
      have hvl := vis_take_le cs q
      have D6 := fun (W : World) (h : RopeHas W b cs) => C6.out W b q hlt' h
      have D7 := fun (W : World) (h : RopeHas W b cs) => C7.out W b q (Nat.le_of_lt hlt') h
      have D11 := fun (h0 : cs[q].2 = 0) (W : World) (h : RopeHas W b cs) => C11.out W b q hlt' h0 h
      obtain ⟨v, hv⟩ : ∃ v, v = vis (cs.take q) := ⟨_, rfl⟩
      rw [← hv] at hsn hvl D7 D11 ⊢
      have vb : (v : Int) ≤ 20000 := by have := HV.out; omega
      have hcell : ∀ W', Below wr.heap.size wr W' → W'.cell? (ad.add (q * 2)) = some (.int .i32 cs[q].1) ∧ W'.cell? ⟨(ad.add (q * 2)).block, (ad.add (q * 2)).off + 1, none⟩ = some (.int .i64 cs[q].2) := fun W' h => ⟨pw_cell_below h x0, pw_cell_below h x1⟩
      obtain ⟨⟨r, h⟩, hrh⟩ : ∃ x, cs[q] = x := ⟨_, rfl⟩
      rw [hrh] at x0 x1 hsn D6 D11 hcell
      dsimp only at x0 x1 hsn D6 D11 hcell
      have HCE := Lib.hid hcell
      have HSN := Lib.hid hsn
      have HVV := Lib.hid hv
      have D6 := Lib.hid D6
      have D7 := Lib.hid D7
      have D11 := Lib.hid D11
      have c0 := x0
      have c1 := x1
      clear hcell hsn hvl hv hrh hlt' hq
      subst hAd
      go_wp2_with (first
        | (go_at_call 34; refine (D6.out wr Sr.rope).mono ?_; rintro e w2 ⟨rfl, hb2⟩; have S2 := Sr.step hb2; have S3 := S2.step (below_alloc (Below.refl _ w2) (.cells #[.int .i32 r, .int .i64 h] 36)); have hba := below_alloc (Below.refl w2.heap.size w2) (.cells #[.int .i32 r, .int .i64 h] 36); have hbx : (w2.alloc (.cells #[.int .i32 r, .int .i64 h] 36)).heap[w2.heap.size]? = some (Obj.cells #[.int .i32 r, .int .i64 h] 36 (0, 0)) := heap_new _ _)
        | (go_at_call 22; refine (D7.out _ S3.rope).mono ?_; rintro e w4 ⟨rfl, hb4⟩; have S4 := S3.step hb4))
      have hb24 : Below w2.heap.size w2 w4 := hba.trans (hb4.mono hba.size)
      have hbw : Below wr.heap.size wr w4 := hb2.trans (hb24.mono hb2.size)
      obtain ⟨z0, z1⟩ := cells2k ((hb4.block _ (new_lt hbx)).trans hbx)
      obtain ⟨y0, y1⟩ := HCE.out w4 hbw
      have t1 : (q : Int) < (N : Int) := by omega
      clear x0 x1 c0 c1 hbx hba hb2 hb4 S2 S3 Sr hb24
      have p0 : (0 ≤ (q : Int)) = True := eq_true (by omega)
      have p1 : ((q : Int) < (N : Int)) = True := eq_true t1
      by_cases h0 : h = 0
      · have D := D11.out h0
        have DD := Lib.hid D
        rw [if_pos h0] at HSN
        subst h0
        clear D
        go_quiet (fail)
        have S5 := S4.step (pw_below_drewN (Below.refl _ w4) nq)
        have hbw5 := pw_below_drewN hbw nq
        clear z0 z1
        have y0 : (w4.drewN nq).cell? _ = _ := y0
        have y1 : (w4.drewN nq).cell? _ = _ := y1
        have dq : (q == q) = true := beq_self_eq_true q
        go_wp2_with (go_at_call 21; refine (DD.out _ S5.rope).mono ?_; rintro e w6 ⟨rfl, hb6⟩; have S6 := S5.step hb6)
        go_roundw
        case rel => exact ⟨q + 1, hlt, by go_num, by rw [HSN.out]; go_num, S6, hBr.trans ((hbw5.trans (hb6.mono hbw5.size)).mono hBr.size)⟩
        case measure => simp [intOf]; omega
      · have d0 : (h == 0) = false := beq_eq_false_iff_ne.mpr h0
        rw [if_neg h0, Nat.add_zero] at HSN
        clear h0
        go_quiet (fail)
        have S5 := S4.step (pw_below_drewN (Below.refl _ w4) nq)
        have hbw5 := pw_below_drewN hbw nq
        clear z0 z1
        have y0 : (w4.drewN nq).cell? _ = _ := y0
        have y1 : (w4.drewN nq).cell? _ = _ := y1
        go_wp2
        go_roundw
        case rel => exact ⟨q + 1, hlt, by go_num, by rw [HSN.out, Nat.add_zero], S5, hBr.trans (hbw5.mono hBr.size)⟩
        case measure => simp [intOf]; omega
    · obtain rfl : q = N := by omega
      have hvv : vis (cs.take q) = V := by rw [HV.out, show q = cs.length from HN.out, List.take_length]
      have HVV := Lib.hid hvv
      rw [hvv]
      have vb : (V : Int) ≤ 20000 := by omega
      have d1 : decide (q < q) = false := decide_eq_false (Nat.lt_irrefl _)
      clear hvv hlt hq
      go_wp2_with (first
        | (go_at_call 21; refine (C9.out wr b Sr.rope).mono ?_; clear C9; rintro e w2 ⟨rfl, hb2⟩; have S2 := Sr.step hb2)
        | (go_at_call 21; refine (C10.out w2 b S2.rope).mono ?_; clear C10; rintro e w3 ⟨rfl, hb3⟩; have S3 := S2.step hb3)
        | (go_at_call 34; refine (C8.out w3 b S3.rope).mono ?_; clear C8; rintro e w4 ⟨rfl, hb4⟩))
      go_ret
      refine ⟨rfl, ?_⟩
      have hb24 := hb2.trans ((hb3.trans (hb4.mono hb3.size)).mono hb2.size)
      exact below_alloc (hBr.trans (hb24.mono hBr.size)) _
end Go.Proofs.YteeigokkafcaaaaDoorRope
end
section
namespace Go.Proofs.YteeigokkafcaaaaDoorRope
open Go.RowKit Go.Proofs.YteeigokkafcaaaaDoorW.PrintWords Go.Proofs.YteeigokkafcaaaaDoorW.PrintMore Go.Proofs.YteeigokkafcaaaaDoor.Pr
set_option linter.unusedSimpArgs false
set_option linter.unusedVariables false
def k44 : Kd (Int × Int × Int × Int) := Kd.iso (Kd.pair (Kd.int .i64) (Kd.pair (Kd.int .i64) (Kd.pair (Kd.int .i64) (Kd.int .i64)))) (fun x : Int × Int × Int × Int => x)
theorem at_T44 {w : World} {A : Option Addr} {ps : List (Int × Int × Int × Int)} (h : Kd.C k44 w A ps.length ps) {k : Nat} (hk : k < ps.length) : ∃ ad, A = some ad ∧ w.cell? (ad.add (k * 4)) = some (.int .i64 ps[k].1) ∧ w.cell? ⟨(ad.add (k * 4)).block, (ad.add (k * 4)).off + 1, none⟩ = some (.int .i64 ps[k].2.1) ∧ w.cell? ⟨(ad.add (k * 4)).block, (ad.add (k * 4)).off + 2, none⟩ = some (.int .i64 ps[k].2.2.1) ∧ w.cell? ⟨(ad.add (k * 4)).block, (ad.add (k * 4)).off + 3, none⟩ = some (.int .i64 ps[k].2.2.2) := by
  obtain ⟨ad, c, e, hl, hK, hc⟩ := Kd.C_get h (0, 0, 0, 0) (k : Int) (by omega) (by omega)
  have hx : ps.getD (k : Int).toNat (0, 0, 0, 0) = ps[k] := by simp [hk]
  rw [hx] at hK
  obtain ⟨c0, c1, rfl, h0, c2, c3, rfl, h1, c4, c5, rfl, h2, h3⟩ := hK
  have h0' : c0 = [.int .i64 ps[k].1] := h0
  have h1' : c2 = [.int .i64 ps[k].2.1] := h1
  have h2' : c4 = [.int .i64 ps[k].2.2.1] := h2
  have h3' : c5 = [.int .i64 ps[k].2.2.2] := h3
  subst h0' h1' h2' h3'
  have hs : k44.sz = 4 := rfl
  refine ⟨ad, e, ?_, ?_, ?_, ?_⟩
  · have := hc 0 _ rfl
    rw [hs] at this
    simpa using this
  · have := hc 1 _ rfl
    rw [hs, Int.toNat_natCast, add_field _ _ _ (by decide)] at this
    exact this
  · have := hc 2 _ rfl
    rw [hs, Int.toNat_natCast, add_field _ _ _ (by decide)] at this
    exact this
  · have := hc 3 _ rfl
    rw [hs, Int.toNat_natCast, add_field _ _ _ (by decide)] at this
    exact this
theorem runsG_hid : ∀ (ps : List (Int × Int)) (i : Nat) (prev : Option Int), ∀ x ∈ runsG i prev ps, 0 ≤ x.2 ∧ x.2 ≤ 2
  | [], _, _, x, hx => by cases hx
  | p :: ps, i, prev, x, hx => by
    rcases List.mem_cons.1 hx with rfl | hx
    · have := hidOf_rng prev p.2
      exact ⟨this.1, by have := this.2; show hidOf prev p.2 ≤ _; omega⟩
    · exact runsG_hid ps _ _ x hx
theorem rcells_ok (ps : List (Int × Int)) : RowOk 2 (rcells (runsL ps)) := by
  refine ⟨rcells_rn ps, fun c hc => ?_⟩
  unfold rcells at hc
  obtain ⟨x, hx, hc⟩ := List.mem_flatMap.1 hc
  obtain ⟨r, hr, rfl⟩ := List.mem_map.1 hc
  exact runsG_hid _ _ _ x hx
end Go.Proofs.YteeigokkafcaaaaDoorRope
end
section
namespace Go.Proofs.YteeigokkafcaaaaDoorRope
open Go.RowKit Go.Proofs.YteeigokkafcaaaaDoorW.PrintWords Go.Proofs.YteeigokkafcaaaaDoorW.PrintMore Go.Proofs.YteeigokkafcaaaaDoor.Pr
set_option linter.unusedSimpArgs false
set_option linter.unusedVariables false
theorem eqlF69 (W : World) (f : Nat) (bl : Array Value) : (binOp .eql 69 (.func (.func f) #[] bl) .nilFunc).run Tryd.prog W = .ok (.bool false) W := by
  unfold binOp Op.equal
  obtain ⟨d, hd⟩ : ∃ d, Op.maxDepth = d + 1 := ⟨9999, rfl⟩
  rw [hd]
  simp [Op.equalIn, run_underlying Tryd.underlying69, go_sem]
attribute [local go_sem] eqlF69
attribute [local go_sem] Oper.semAt_some
theorem RowOk.up' {H H' : Int} {cs : List (Int × Int)} (h : RowOk H cs) (hh : H ≤ H') : RowOk H' cs := ⟨h.rn, fun c hc => by have := h.h c hc; omega⟩
theorem Hold.fix {w w6 W : World} {B b LB : Nat} {L : List (Nat × Obj)} {A : Option Addr} {c : Nat} {m : List (Int × Int)} (h : Hold w w6 W B b LB L A c m) {k ty : Nat} {v : Value} (hx : Boxed w6 k ty v) (h1 : k < B) (h2 : k ≠ b) : Boxed W k ty v := (h.kp.bl k h1 h2).trans hx
abbrev bSl (A : Option Addr) (c : Nat) (m : List (Int × Int)) : Obj := .cells #[.slice A m.length c] 25 (0, 0)
abbrev bOk : Obj := .cells #[.bool true] 4 (0, 0)
abbrev bI (i : Int) : Obj := .cells #[.int .i64 i] 3 (0, 0)
theorem free_bSl (A : Option Addr) (c : Nat) (m : List (Int × Int)) : Free (bSl A c m) := Free.one (by decide) (by intro x h; cases h)
theorem free_bOk : Free bOk := Free.one (by decide) (by intro x h; cases h)
theorem free_bI (i : Int) : Free (bI i) := Free.one (by decide) (by intro x h; cases h)
theorem swap2 {α : Type} {a b : α} : ∀ x ∈ [b, a], x ∈ [a, b] := by
  intro x hx
  rcases List.mem_cons.1 hx with rfl | hx
  · exact List.mem_cons_of_mem _ List.mem_cons_self
  · rw [List.mem_singleton.1 hx]; exact List.mem_cons_self
theorem only1 {k d : Nat} {o : Obj} (h : d ≠ k) : ∀ x ∈ [(d, o)], x.1 ≠ k := by
  intro x hx
  rw [List.mem_singleton.1 hx]
  exact h
theorem below_of_grown {W W' : World} (h : W.grownBy W' none) : Below W.heap.size W W' := ⟨h.os, h.tape, h.output, h.size, fun k hk => h.block k hk (by simp)⟩
theorem Hold.own {w w6 W W' : World} {B b LB : Nat} {L : List (Nat × Obj)} {A : Option Addr} {c : Nat} {m : List (Int × Int)} (h : Hold w w6 W B b LB L A c m) {n : Nat} (hL : ∀ x ∈ L, x.1 < n) (hB : B ≤ n) (hLB : LB < n) {row : Option Nat} (hg : W.grownBy W' row) (hr : ∀ r, row = some r → n ≤ r ∧ ∃ o : Obj, W.heap[r]? = some o ∧ o.isCells = false) : Hold w w6 W' B b LB L A c m := by
  cases row with
  | none => exact h.step (below_of_grown hg)
  | some r =>
    obtain ⟨h1, o, ho, hc⟩ := hr r rfl
    exact h.turn ho (Free.other hc) ⟨by omega, by omega⟩ (fun x hx e => by have := hL x hx; omega) hg
theorem kpc_put {B b LB n : Nat} (hB : B ≤ n) (hL : LB < n) (W : World) (l : Nat) (o o' : Obj) (hl : n ≤ l) (h : W.heap[l]? = some o) (hc : o.isCells = false) (_ : o.isWalk = false) : KpC B b LB W (W.putObj l o') := by
  have := new_lt' h
  exact KpC.grown (grownBy_putObj' W l o') h (Free.other hc).kp (.inr (by omega)) (by omega) (by omega) (by omega)
abbrev Lp (B n18 n19 n20 : Nat) (st p nx : Int) (Ds : List (Nat × Obj)) (A : Option Addr) (c : Nat) (m : List (Int × Int)) : List (Nat × Obj) := (n20, bI nx) :: (B + 2, bSl A c m) :: (B + 2 + 1, bOk) :: (n19, bI p) :: (n18, bI st) :: Ds
theorem lp_lt {B n18 n19 n20 N : Nat} {st p nx : Int} {Ds : List (Nat × Obj)} {A : Option Addr} {c : Nat} {m : List (Int × Int)} (h1 : n18 < n19) (h2 : n19 < n20) (h3 : n20 < N) (h4 : B + 2 + 1 < n18) (h5 : ∀ x ∈ Ds, x.1 < N) : ∀ x ∈ Lp B n18 n19 n20 st p nx Ds A c m, x.1 < N := by
  intro x hx
  rcases List.mem_cons.1 hx with rfl | hx
  · exact h3
  rcases List.mem_cons.1 hx with rfl | hx
  · show B + 2 < N; omega
  rcases List.mem_cons.1 hx with rfl | hx
  · show B + 2 + 1 < N; omega
  rcases List.mem_cons.1 hx with rfl | hx
  · show n19 < N; omega
  rcases List.mem_cons.1 hx with rfl | hx
  · show n18 < N; omega
  exact h5 x hx
structure InP (w w6 : World) (B b n18 n19 n20 : Nat) (p : Int) (st fr : Nat) (Ds : List (Nat × Obj)) (cs : List (Int × Int)) (H0 M0 : Nat) (pre : List (Nat × Int × Int)) (W : World) (A : Option Addr) (c : Nat) (m : List (Int × Int)) : Prop where
  h : Hold w w6 W B b B (Lp B n18 n19 n20 st p ((fr + pre.length : Nat) : Int) Ds A c m) A c m
  ok : RowOk ((H0 + (fr + pre.length + 16) / 17 : Nat) : Int) m
  ln : m.length ≤ M0 + 48 * ((fr + pre.length + 16) / 17)
  eq : pre = itm cs fr (fr + pre.length)
theorem InP.own {w w6 : World} {B b n18 n19 n20 : Nat} {p : Int} {st fr : Nat} {Ds : List (Nat × Obj)} {cs : List (Int × Int)} {H0 M0 : Nat} {pre : List (Nat × Int × Int)} {W W' : World} {A : Option Addr} {c : Nat} {m : List (Int × Int)} (h : InP w w6 B b n18 n19 n20 p st fr Ds cs H0 M0 pre W A c m) {n : Nat} (h1 : n18 < n19) (h2 : n19 < n20) (h3 : n20 < n) (h4 : B + 2 + 1 < n18) (h5 : ∀ x ∈ Ds, x.1 < n) {row : Option Nat} (hg : W.grownBy W' row) (hr : ∀ r, row = some r → n ≤ r ∧ ∃ o : Obj, W.heap[r]? = some o ∧ o.isCells = false) : InP w w6 B b n18 n19 n20 p st fr Ds cs H0 M0 pre W' A c m :=
  ⟨h.h.own (lp_lt h1 h2 h3 h4 h5) (by omega) (by omega) hg hr, h.ok, h.ln, h.eq⟩
def ExP (w w6 : World) (B b n18 n19 n20 : Nat) (p : Int) (st fr : Nat) (Ds : List (Nat × Obj)) (cs : List (Int × Int)) (H0 M0 : Nat) (cd : Code) (pre : List (Nat × Int × Int)) (W : World) : Prop :=
  (cd = .ret ∧ ¬ pre <+: itm cs fr cs.length) ∨ (cd = .exit 4 ∧ p = 0 ∧ ∃ pre' A c m, fr + pre'.length ≤ cs.length ∧ InP w w6 B b n18 n19 n20 p st fr Ds cs H0 M0 pre' W A c m)
structure Fixd (w w6 : World) (B b LB n10 n11 n12 : Nat) (A2 : Option Addr) (c2 : Nat) (cs : List (Int × Int)) (fr : Nat) (t : Tree) (p0 : Option Addr) : Prop where
  x8 : Boxed w6 w.heap.size 4 (.bool false)
  l8 : w.heap.size < B ∧ w.heap.size ≠ b
  x10 : Boxed w6 n10 25 (.slice A2 cs.length c2)
  l10 : n10 < B ∧ n10 ≠ b
  x11 : Boxed w6 n11 3 (.int .i64 (fr : Int))
  l11 : n11 < B ∧ n11 ≠ b
  x12 : Boxed w6 n12 28 (.pointer (some ⟨b, 0, none⟩))
  l12 : n12 < B ∧ n12 ≠ b
  row : ∃ base, Kd.R k36 36 w6 base (fun k => k < B ∧ k ≠ b) (.slice A2 cs.length c2) (sCells cs)
  xL : Boxed w6 LB 3 (.int .i64 (fr : Int))
  xR : Boxed w6 (LB + 1) 105 (.pointer p0)
  tr : Rpo (fun k => k < B ∧ k ≠ b) w6 t (.pointer p0)
  tg : t.Good 0
  tc : t.cells = cs
theorem row_kept {S : Nat → Prop} {W : World} {A : Option Addr} {c b : Nat} {cs : List (Int × Int)} (h : Row S W A c cs) (hb : BoxAt W b) : ∃ base, Kd.R k36 36 W base (fun k => k < W.heap.size ∧ k ≠ b) (.slice A cs.length c) (sCells cs) := by
  obtain ⟨base, h⟩ := h.beside hb
  exact ⟨base, Kd.R_mono (Kd.R_bound h) (fun k hk => ⟨hk.2.2.1, hk.1⟩)⟩
theorem Fixd.rows {w w6 W : World} {B b LB n10 n11 n12 : Nat} {A2 : Option Addr} {c2 : Nat} {cs : List (Int × Int)} {fr : Nat} {t : Tree} {p0 : Option Addr} (F : Fixd w w6 B b LB n10 n11 n12 A2 c2 cs fr t p0) {L : List (Nat × Obj)} {A : Option Addr} {c : Nat} {m : List (Int × Int)} (h : Hold w w6 W B b LB L A c m) : Kd.C k36 W A2 cs.length (sCells cs) := by
  obtain ⟨base, hr⟩ := F.row
  have := (Kd.R_reads' (Kd.R_step hr (w1 := W) (fun k hk hl => h.kp.bl k hk.1 hk.2))).2.2
  rwa [sCells_len] at this
structure Onl (ds : List Nat) (W W' : World) : Prop where
  os : W'.os = W.os
  tape : W'.tape = W.tape
  output : W'.output = W.output
  size : W.heap.size ≤ W'.heap.size
  block : ∀ k, k < W.heap.size → k ∉ ds → W'.heap[k]? = W.heap[k]?
theorem leaves_marks {F : Fence} {n : Nat} {P : Program} {fn : Func} {tmps : Array Value} {R : Ending → World → Prop} : ∀ (ds : List Nat) (W : World), (∀ D ∈ ds, W.heap[D]? = some (.deferred (some []))) → ds.Nodup →
    (∀ W', Onl ds W W' → LeavesIn F n P fn tmps R [] .returning W') → LeavesInM F n P fn tmps R (ds.map fun D => { target := .collected D, args := #[] }) .returning W
  | [], W, _, _, h => h W ⟨rfl, rfl, rfl, Nat.le_refl _, fun _ _ _ => rfl⟩
  | D :: ds, W, hD, hn, h => by
    have hn' := List.nodup_cons.1 hn
    refine ⟨by simp, .inl ⟨_, _, rfl, run_takeDeferred (hD D List.mem_cons_self), leaves_marks ds _ (fun D' h' => ?_) hn'.2 (fun W' ho => h W' ?_)⟩⟩
    · exact (World.putObj_heap_other (fun e => hn'.1 (by rw [← e]; exact h'))).trans (hD D' (List.mem_cons_of_mem _ h'))
    · exact ⟨ho.os, ho.tape, ho.output, Nat.le_trans (by simp) ho.size, fun k hk hkn => (ho.block k (by simpa using hk) (fun h => hkn (List.mem_cons_of_mem _ h))).trans (World.putObj_heap_other (fun e => hkn (by rw [e]; exact List.mem_cons_self)))⟩
structure Rd (n B b LB : Nat) (W W' : World) : Prop where
  f : KeepsFrom n W W'
  k : KpC B b LB W W'
theorem Rd.trans {n B b LB : Nat} {X Y Z : World} (h : Rd n B b LB X Y) (k : Rd n B b LB Y Z) : Rd n B b LB X Z := ⟨h.f.trans k.f, h.k.trans k.k⟩
section
variable {w w6 W W' : World} {B b LB n : Nat} {L : List (Nat × Obj)} {A A' : Option Addr} {c c' : Nat} {m m' : List (Int × Int)}
theorem Hold.rd (h : Hold w w6 W B b LB L A c m) (hb : Below W.heap.size W W') : Rd n B b LB W W' :=
  ⟨⟨hb.size, fun k o _ hk _ => (hb.block k (new_lt' hk)).trans hk⟩, KpC.of hb h.hB h.hL⟩
theorem Hold.rdSet (h : Hold w w6 W B b LB L A c m) {d ty : Nat} {v0 : Value} (hd : (d, Obj.cells #[v0] ty (0, 0)) ∈ L) (ho : Free (.cells #[v0] ty (0, 0))) (hn : d < n) (v : Value) : Rd n B b LB W (W.setCell ⟨d, 0, none⟩ v) :=
  ⟨KeepsFrom.of_grownBy grown_set (fun j e => by injection e; omega), KpC.grown grown_set (h.at_ _ hd) ho.kp (.inr (h.lo _ hd).1) (h.lo _ hd).2 h.hB h.hL⟩
theorem Hold.rdAct (h : Hold w w6 W B b LB L A c m) (S : Sta W W' b A' c' m' m') (hn : b < n) : Rd n B b LB W W' := by
  obtain ⟨p, hp⟩ := h.rope.box
  exact ⟨KeepsFrom.of_grownBy S.gr (fun j e => by injection e; omega), KpC.grown S.gr hp (by
    intro c ty ht e
    injection e with _ e _
    rw [← e] at ht
    exact absurd ht (by decide)) (.inl rfl) (by have := h.bB; have := h.lB; omega) h.hB h.hL⟩
theorem Hold.setAt {L1 L2 : List (Nat × Obj)} {d ty : Nat} {v0 : Value} (h : Hold w w6 W B b LB (L1 ++ (d, .cells #[v0] ty (0, 0)) :: L2) A c m) (hf : Free (.cells #[v0] ty (0, 0))) (h1 : ∀ x ∈ L1, x.1 ≠ d) (h2 : ∀ x ∈ L2, x.1 ≠ d) (v : Value) : Hold w w6 (W.setCell ⟨d, 0, none⟩ v) B b LB (L1 ++ (d, .cells #[v] ty (0, 0)) :: L2) A c m := by
  have h' := (h.sub (L' := (d, .cells #[v0] ty (0, 0)) :: (L1 ++ L2)) (fun x hx => by
    rcases List.mem_cons.1 hx with rfl | hx
    · simp
    · rcases List.mem_append.1 hx with hx | hx
      · exact List.mem_append_left _ hx
      · exact List.mem_append_right _ (List.mem_cons_of_mem _ hx))).set hf (fun x hx => by
    rcases List.mem_append.1 hx with hx | hx
    · exact h1 x hx
    · exact h2 x hx) v
  refine h'.sub (fun x hx => ?_)
  rcases List.mem_append.1 hx with hx | hx
  · exact List.mem_cons_of_mem _ (List.mem_append_left _ hx)
  · rcases List.mem_cons.1 hx with rfl | hx
    · exact List.mem_cons_self
    · exact List.mem_cons_of_mem _ (List.mem_append_right _ hx)
variable {n18 n19 n20 : Nat} {st p nx : Int} {Ds : List (Nat × Obj)}
theorem Hold.set20 (h : Hold w w6 W B b LB (Lp B n18 n19 n20 st p nx Ds A c m) A' c' m') (h1 : n18 < n19) (h2 : n19 < n20) (h4 : B + 2 + 1 < n18) (h5 : ∀ x ∈ Ds, x.1 ≠ n20) (nx' : Int) : Hold w w6 (W.setCell ⟨n20, 0, none⟩ (.int .i64 nx')) B b LB (Lp B n18 n19 n20 st p nx' Ds A c m) A' c' m' :=
  Hold.setAt (L1 := []) (L2 := (B + 2, bSl A c m) :: (B + 2 + 1, bOk) :: (n19, bI p) :: (n18, bI st) :: Ds) h (free_bI _) (by simp) (fun x hx => by
    rcases List.mem_cons.1 hx with rfl | hx
    · show B + 2 ≠ n20; omega
    rcases List.mem_cons.1 hx with rfl | hx
    · show B + 2 + 1 ≠ n20; omega
    rcases List.mem_cons.1 hx with rfl | hx
    · show n19 ≠ n20; omega
    rcases List.mem_cons.1 hx with rfl | hx
    · show n18 ≠ n20; omega
    exact h5 x hx) _
theorem Hold.set15 (h : Hold w w6 W B b LB (Lp B n18 n19 n20 st p nx Ds A c m) A' c' m') (h1 : n18 < n19) (h2 : n19 < n20) (h4 : B + 2 + 1 < n18) (h5 : ∀ x ∈ Ds, x.1 ≠ B + 2) : Hold w w6 (W.setCell ⟨B + 2, 0, none⟩ (.slice A' m'.length c')) B b LB (Lp B n18 n19 n20 st p nx Ds A' c' m') A' c' m' :=
  Hold.setAt (L1 := [(n20, bI nx)]) (L2 := (B + 2 + 1, bOk) :: (n19, bI p) :: (n18, bI st) :: Ds) h (free_bSl _ _ _) (only1 (by omega)) (fun x hx => by
    rcases List.mem_cons.1 hx with rfl | hx
    · show B + 2 + 1 ≠ B + 2; omega
    rcases List.mem_cons.1 hx with rfl | hx
    · show n19 ≠ B + 2; omega
    rcases List.mem_cons.1 hx with rfl | hx
    · show n18 ≠ B + 2; omega
    exact h5 x hx) _
theorem Hold.set16 (h : Hold w w6 W B b LB (Lp B n18 n19 n20 st p nx Ds A c m) A' c' m') (h1 : n18 < n19) (h2 : n19 < n20) (h4 : B + 2 + 1 < n18) (h5 : ∀ x ∈ Ds, x.1 ≠ B + 2 + 1) : Hold w w6 (W.setCell ⟨B + 2 + 1, 0, none⟩ (.bool true)) B b LB (Lp B n18 n19 n20 st p nx Ds A c m) A' c' m' :=
  Hold.setAt (L1 := [(n20, bI nx), (B + 2, bSl A c m)]) (L2 := (n19, bI p) :: (n18, bI st) :: Ds) h free_bOk (fun x hx => by
    rcases List.mem_cons.1 hx with rfl | hx
    · show n20 ≠ B + 2 + 1; omega
    rw [List.mem_singleton.1 hx]
    show B + 2 ≠ B + 2 + 1
    omega) (fun x hx => by
    rcases List.mem_cons.1 hx with rfl | hx
    · show n19 ≠ B + 2 + 1; omega
    rcases List.mem_cons.1 hx with rfl | hx
    · show n18 ≠ B + 2 + 1; omega
    exact h5 x hx) _
theorem Hold.b20 (h : Hold w w6 W B b LB (Lp B n18 n19 n20 st p nx Ds A c m) A' c' m') : Boxed W n20 3 (.int .i64 nx) := h.at_ (n20, bI nx) List.mem_cons_self
theorem Hold.b15 (h : Hold w w6 W B b LB (Lp B n18 n19 n20 st p nx Ds A c m) A' c' m') : Boxed W (B + 2) 25 (.slice A m.length c) := h.at_ (B + 2, bSl A c m) (List.mem_cons_of_mem _ List.mem_cons_self)
theorem Hold.b16 (h : Hold w w6 W B b LB (Lp B n18 n19 n20 st p nx Ds A c m) A' c' m') : Boxed W (B + 2 + 1) 4 (.bool true) := h.at_ (B + 2 + 1, bOk) (List.mem_cons_of_mem _ (List.mem_cons_of_mem _ List.mem_cons_self))
theorem Hold.b19 (h : Hold w w6 W B b LB (Lp B n18 n19 n20 st p nx Ds A c m) A' c' m') : Boxed W n19 3 (.int .i64 p) := h.at_ (n19, bI p) (List.mem_cons_of_mem _ (List.mem_cons_of_mem _ (List.mem_cons_of_mem _ List.mem_cons_self)))
theorem Hold.b18 (h : Hold w w6 W B b LB (Lp B n18 n19 n20 st p nx Ds A c m) A' c' m') : Boxed W n18 3 (.int .i64 st) := h.at_ (n18, bI st) (List.mem_cons_of_mem _ (List.mem_cons_of_mem _ (List.mem_cons_of_mem _ (List.mem_cons_of_mem _ List.mem_cons_self))))
end
end Go.Proofs.YteeigokkafcaaaaDoorRope
end
section
namespace Go.Proofs.YteeigokkafcaaaaDoorRope
open Go.RowKit Go.Proofs.YteeigokkafcaaaaDoorW.PrintWords Go.Proofs.YteeigokkafcaaaaDoorW.PrintMore Go.Proofs.YteeigokkafcaaaaDoor.Pr
set_option linter.unusedSimpArgs false
set_option linter.unusedVariables false
attribute [local go_sem] eqlF69
attribute [local go_sem] Oper.semAt_some
theorem not_pre {cs : List (Int × Int)} {fr : Nat} {pre : List (Nat × Int × Int)} {x : Nat × Int × Int} (hpre : pre = itm cs fr (fr + pre.length)) (h : fr + pre.length < cs.length) (hx : x ≠ (fr + pre.length, cs.getD (fr + pre.length) (0, 0))) : ¬ pre ++ [x] <+: itm cs fr cs.length := by
  intro hp
  have h1 := itm_prefix cs fr (show fr + pre.length + 1 ≤ cs.length by omega)
  rw [itm_succ cs (Nat.le_add_right _ _), ← hpre] at h1
  have h2 := List.prefix_of_prefix_length_le hp h1 (by simp)
  have h3 := h2.eq_of_length (by simp)
  have := List.append_cancel_left h3
  exact hx (by simpa using this)
theorem range_join {F : Fence} {n : Nat} {P : Program} {cd : Code} {Q : Exit → Act → World → Prop} {a : Act} {w : World} (R : Nat → World → Prop)
    (hx : ∀ a W, Q .normal a W → Q (.exit (4 : Nat)) a W)
    (h : cd.wpIn F n P (fun e a' W => (e = .normal ∨ e = .exit (4 : Nat)) ∧ ∃ D, a' = { a with defers := { target := .collected D, args := #[] } :: a.defers } ∧ R D W) a w)
    (hq : ∀ D W, R D W → Q .normal { a with defers := { target := .collected D, args := #[] } :: a.defers } W) : cd.wpIn F n P Q a w := by
  refine wpIn_mono h (fun e a' W he => ?_)
  obtain ⟨h1, D, rfl, h2⟩ := he
  rcases h1 with rfl | rfl
  · exact hq D W h2
  · exact hx _ _ (hq D W h2)
theorem inp_next {w w6 W' : World} {B b n18 n19 n20 : Nat} {p : Int} {st fr : Nat} {Ds : List (Nat × Obj)} {cs : List (Int × Int)} {H0 M0 : Nat} {pre : List (Nat × Int × Int)} {x : Nat × Int × Int} {W : World} {A A' : Option Addr} {c c' : Nat} {m m' : List (Int × Int)} (h : InP w w6 B b n18 n19 n20 p st fr Ds cs H0 M0 pre W A c m) (hx : x = (fr + pre.length, cs.getD (fr + pre.length) (0, 0))) (nx : Nat) (hnx : nx = fr + pre.length)
    (H : Hold w w6 W' B b B (Lp B n18 n19 n20 st p ((nx : Int) + 1) Ds A' c' m') A' c' m') (ho : (RowOk ((H0 + (fr + pre.length + 16) / 17 : Nat) : Int) m' ∧ m'.length ≤ M0 + 48 * ((fr + pre.length + 16) / 17)) ∨ ((nx + 1) % 17 = 1 ∧ RowOk (((H0 + (fr + pre.length + 16) / 17 : Nat) : Int) + 1) m' ∧ m'.length ≤ M0 + 48 * ((fr + pre.length + 16) / 17) + 48)) : InP w w6 B b n18 n19 n20 p st fr Ds cs H0 M0 (pre ++ [x]) W' A' c' m' := by
  have e : ((fr + (pre ++ [x]).length : Nat) : Int) = (nx : Int) + 1 := by simp; omega
  refine ⟨by rw [e]; exact H, ?_, ?_, ?_⟩
  · rw [List.length_append, List.length_singleton]
    rcases ho with ⟨h1, h2⟩ | ⟨h0, h1, h2⟩
    · exact h1.up' (by omega)
    · exact h1.up' (by omega)
  · rw [List.length_append, List.length_singleton]
    rcases ho with ⟨h1, h2⟩ | ⟨h0, h1, h2⟩ <;> omega
  · rw [List.length_append, List.length_singleton, ← Nat.add_assoc, itm_succ cs (Nat.le_add_right _ _), ← h.eq, hx]
set_option maxRecDepth 100000 in
set_option maxHeartbeats 64000000 in
theorem sequence_calls {ps : List (Int × Int)} {sc : List (Int × Int × Int × Int)} {lo kk : Int} {w : World} {A B0 : Option Addr} {c bc : Nat} (hA : Kd.C k97 w A ps.length ps) (hc : ps.length ≤ c) (hm : ps.length ≤ 140737488355328) (hSc : Kd.C k44 w B0 sc.length sc) (hsm : sc.length ≤ 140737488355328) (hw : BarsAt w) :
    Calls Tryd.prog 10 #[.slice A ps.length c, .int .i64 lo, .int .i64 kk, .slice B0 sc.length bc] w fun e w' => e = .returned (.bool true) ∧ Below w.heap.size w w' := by
  have hok := rcells_ok ps
  have hcl := runsL_cells ps
  have hruns := fun (W : World) (h : Kd.C k97 W A ps.length ps) => runs_c h hc hm
  have hrow := fun (W : World) (A : Option Addr) (c : Nat) (h : Kd.C k58 W A (runsL ps).length (sRuns (runsL ps))) => row_c (c := c) h
  have hfrom := fun (W : World) (A : Option Addr) (c : Nat) (hw : BarsAt W) (h : Kd.C k58 W A (runsL ps).length (sRuns (runsL ps))) (hc : (runsL ps).length ≤ c) => from_c hw h hc
  obtain ⟨cs, hcs⟩ : ∃ cs, cs = rcells (runsL ps) := ⟨_, rfl⟩
  rw [← hcs] at hok hcl hrow hfrom
  obtain ⟨l, hl⟩ : ∃ l, l = runsL ps := ⟨_, rfl⟩
  rw [← hl] at hruns hrow hfrom
  have m1 := Int.emod_nonneg lo (show ((cs.length : Int) + 1) ≠ 0 by omega)
  have m2 := Int.emod_lt_of_pos lo (show (0 : Int) < (cs.length : Int) + 1 by omega)
  obtain ⟨fr, hfr⟩ : ∃ fr : Nat, lo % ((cs.length : Int) + 1) = (fr : Int) := ⟨(lo % ((cs.length : Int) + 1)).toNat, by omega⟩
  have hfN : fr ≤ cs.length := by omega
  have m3 := Int.emod_nonneg kk (show ((cs.length : Int) + 1) ≠ 0 by omega)
  have m4 := Int.emod_lt_of_pos kk (show (0 : Int) < (cs.length : Int) + 1 by omega)
  obtain ⟨st, hst⟩ : ∃ st : Nat, kk % ((cs.length : Int) + 1) = (st : Int) := ⟨(kk % ((cs.length : Int) + 1)).toNat, by omega⟩
  have hsN : st ≤ cs.length := by omega
  clear m1 m2 m3 m4
  have R1 : ∀ W, Calls Tryd.prog 28 #[.int .i64 lo, .int .i64 ((cs.length : Int) + 1)] W fun e w' => e = .returned (.int .i64 (fr : Int)) ∧ Below W.heap.size W w' := fun W => by rw [← hfr]; exact rest_b (by omega) (by omega) W
  have R2 : ∀ W, Calls Tryd.prog 28 #[.int .i64 kk, .int .i64 ((cs.length : Int) + 1)] W fun e w' => e = .returned (.int .i64 (st : Int)) ∧ Below W.heap.size W w' := fun W => by rw [← hst]; exact rest_b (by omega) (by omega) W
  have HR := Lib.hid hruns
  have HW := Lib.hid hrow
  have HF := Lib.hid hfrom
  have HOK := Lib.hid hok
  have HCL := Lib.hid hcl
  have HFN := Lib.hid hfN
  replace R1 := Lib.hid R1
  replace R2 := Lib.hid R2
  have sb : (sc.length : Int) ≤ 140737488355328 := by omega
  have nb : (cs.length : Int) ≤ 1152 := by omega
  clear hruns hrow hfrom hl hcs hc hm hok hcl hsm hfr hst hfN hsN
  refine (callsIn_wide (n := 8)).1 ?_
  refine callsIn_of_wp_marks Tryd.func10 rfl trivial ?_ rfl
  simp only [Tryd.ntmps10, List.size_toArray, List.length_cons, List.length_nil, Nat.reduceAdd, Nat.reduceSub, Array.replicate_succ, Array.replicate_zero, List.push_toArray, List.append_toArray, List.nil_append, List.cons_append]
  refine wpIn_wide.2 ?_
  have hb0 := below_alloc (Below.refl w.heap.size w) (.cells #[.bool false] 4)
  have hA0 := Kd.C_below hA hb0
  have hx8 : Boxed (w.alloc (.cells #[.bool false] 4)) w.heap.size 4 (.bool false) := Boxed.new _ _ _
  go_upto_block 0 with (first
    | (go_at_call 15; refine (HR.out _ hA0).mono ?_; rintro e w1 ⟨A1, c1, rfl, hC1, hc1, hb1⟩; clear hA hA0 HR; have hB1 := hb0.trans (hb1.mono hb0.size); have hx8 := (hb1.block _ (new_lt' hx8)).trans hx8)
    | (go_at_call 16; refine (HW.out w1 A1 c1 hC1).mono ?_; rintro e w2 ⟨A2, c2, rfl, hR2, hb2⟩; have ba2 := below_alloc (Below.refl w2.heap.size w2) (.cells #[.slice A2 cs.length c2] 25); have hB2 := (hB1.trans (hb2.mono hB1.size)); have hB2a := hB2.trans (ba2.mono hB2.size); have hC2 := Kd.C_below (Kd.C_below hC1 hb2) ba2; have hx8 := (ba2.block _ (Nat.lt_of_lt_of_le (new_lt' hx8) hb2.size)).trans ((hb2.block _ (new_lt' hx8)).trans hx8); have hx10 : Boxed (w2.alloc (.cells #[.slice A2 cs.length c2] 25)) w2.heap.size 25 (.slice A2 cs.length c2) := Boxed.new _ _ _; have hR2 := hR2.below ba2; clear hb1 hC1 HW)
    | (go_at_call 28; refine (R1.out _).mono ?_; clear R1; rintro e w3 ⟨rfl, hb3⟩; have ba3 := below_alloc (Below.refl w3.heap.size w3) (.cells #[.int .i64 (fr : Int)] 3); have hB3 := hB2a.trans (hb3.mono hB2a.size); have hB3a := hB3.trans (ba3.mono hB3.size); have hC3 := Kd.C_below (Kd.C_below hC2 hb3) ba3; have hx8 := (ba3.block _ (Nat.lt_of_lt_of_le (new_lt' hx8) hb3.size)).trans ((hb3.block _ (new_lt' hx8)).trans hx8); have hx10 := (ba3.block _ (Nat.lt_of_lt_of_le (new_lt' hx10) hb3.size)).trans ((hb3.block _ (new_lt' hx10)).trans hx10); have hx11 : Boxed (w3.alloc (.cells #[.int .i64 (fr : Int)] 3)) w3.heap.size 3 (.int .i64 (fr : Int)) := Boxed.new _ _ _; have hR3 := (hR2.below hb3).below ba3; clear hC2 hR2 hB2a)
    | (go_at_call 18; refine (HF.out _ A1 c1 (hw.below hB3a) hC3 hc1).mono ?_; clear HF; rintro e w4 ⟨b, rfl, hlb, hnz, hro, hb4⟩; have ba4 := below_alloc (Below.refl w4.heap.size w4) (.cells #[.pointer (some ⟨b, 0, none⟩)] 28); have hB4 := hB3a.trans (hb4.mono hB3a.size); have hB4a := hB4.trans (ba4.mono hB4.size); have hx8 := (ba4.block _ (Nat.lt_of_lt_of_le (new_lt' hx8) hb4.size)).trans ((hb4.block _ (new_lt' hx8)).trans hx8); have hx10 := (ba4.block _ (Nat.lt_of_lt_of_le (new_lt' hx10) hb4.size)).trans ((hb4.block _ (new_lt' hx10)).trans hx10); have hx11 := (ba4.block _ (Nat.lt_of_lt_of_le (new_lt' hx11) hb4.size)).trans ((hb4.block _ (new_lt' hx11)).trans hx11); have hx12 : Boxed (w4.alloc (.cells #[.pointer (some ⟨b, 0, none⟩)] 28)) w4.heap.size 28 (.pointer (some ⟨b, 0, none⟩)) := Boxed.new _ _ _; have hR4 := (hR3.below hb4).below ba4; have hro4 := hro.below ba4; have hbl := hro.lt; clear hC3 hR3 hro; have hy11 := Boxed.cell (t := 3) hx11; have hy12 := Boxed.cell (t := 28) hx12)
    | (go_at_call 41; have hro5 := hro4; obtain ⟨K0, t, hat, htc⟩ := hro5; refine (cellsSeq_calls hat _).mono ?_; rintro e w6 ⟨p0, rfl, hxL, hxR, htr, htg, hb6, hs6⟩; have hy10 := Boxed.cell (t := 25) ((hb6.block _ (new_lt' hx10)).trans hx10)))
  obtain ⟨n10, hn10⟩ : ∃ n, n = w2.heap.size := ⟨_, rfl⟩
  obtain ⟨n11, hn11⟩ : ∃ n, n = w3.heap.size := ⟨_, rfl⟩
  obtain ⟨n12, hn12⟩ : ∃ n, n = w4.heap.size := ⟨_, rfl⟩
  obtain ⟨B, hB_⟩ : ∃ B, B = w4.heap.size + 1 := ⟨_, rfl⟩
  have hs5 : (w4.alloc (.cells #[.pointer (some ⟨b, 0, none⟩)] 28)).heap.size = B := by rw [hB_]; simp
  have F : Fixd w w6 B b B n10 n11 n12 A2 c2 cs fr t p0 := by
    have z1 := hB1.size
    have z2 := hb2.size
    have z3 := hb3.size
    have z4 := hb4.size
    have zo := hro4.lt
    have hrow := row_kept hR4 hro4.box
    rw [hs5] at hxL hxR htr hrow zo
    rw [World.size_alloc] at z3 z4 hlb
    have hB : B = (w4.alloc (.cells #[.pointer (some ⟨b, 0, none⟩)] 28)).heap.size := hs5.symm
    obtain ⟨base, hrow⟩ := hrow
    exact ⟨(hb6.block _ (new_lt' hx8)).trans hx8, by omega, by rw [hn10]; exact (hb6.block _ (new_lt' hx10)).trans hx10, by omega, by rw [hn11]; exact (hb6.block _ (new_lt' hx11)).trans hx11, by omega, by rw [hn12]; exact (hb6.block _ (new_lt' hx12)).trans hx12, by omega, ⟨base, Kd.R_below hrow hb6⟩, hxL, hxR, htr, htg, htc⟩
  have H2 : Hold w w6 ((w6.alloc (.cells #[.slice A2 cs.length c2] 25)).alloc (.cells #[.bool true] 4)) B b B [(B + 2 + 1, bOk), (B + 2, bSl A2 c2 cs)] A2 c2 cs := by
    have hB6 := hB4a.trans (hb6.mono hB4a.size)
    have z1 := hB4a.size
    have z6 := hb6.size
    have zw := hw.lt
    rw [World.size_alloc] at z1 hlb
    rw [hs5] at z6
    have H0 : Hold w w6 w6 B b B [] A2 c2 cs := ⟨hB6, KpC.refl _ _ _ _, hw.below hB6, (hR4.below hb6).less (fun _ h => h.elim), hro4.below hb6, fun x hx => by simp at hx, fun x hx => by simp at hx, fun x hx => by simp at hx, by have := hB3.size; omega, hnz, by omega, by omega, by omega, z6, by rw [hs6, hs5]; omega, Nat.le_refl _⟩
    have := (H0.add (.slice A2 cs.length c2) 25).add (.bool true) 4
    rwa [World.size_alloc, hs6, hs5] at this
  clear hB1 hB2 hb2 hb3 hB3 hb4 hB4 hB4a hb6 ba2 ba3 ba4 hx8 hx10 hx11 hx12 hxL hxR htr htg htc hR4 hro4 hy10 hy11 hy12 hlb hnz hbl hat hs6 hb0 hB3a
  rw [← hB_, ← hn10, ← hn11, ← hn12]
  clear hn10 hn11 hn12 hB_ hs5
  generalize (w6.alloc (.cells #[.slice A2 cs.length c2] 25)).alloc (.cells #[.bool true] 4) = W8 at H2 ⊢
  have HSC := Lib.hid hSc
  clear hSc
  go_cut [17] from 47 to 69 (fun v17 wr => ∃ (j : Nat) (A3 : Option Addr) (c3 : Nat) (m : List (Int × Int)), j ≤ 24 ∧ Hold w w6 wr B b B [(B + 2 + 1, bOk), (B + 2, bSl A3 c3 m)] A3 c3 m ∧ RowOk (2 + (j : Int)) m ∧ m.length ≤ 1152 + 48 * j)
  case rest =>
    clear H2 HOK HCL
    obtain ⟨j, A3, c3, m, hj, H, hokm, hlm⟩ := hcut
    have hokm : RowOk ((26 : Nat) : Int) m := hokm.up' (by omega)
    have hlm : m.length ≤ 2304 := by omega
    have y10 := (H.fix F.x10 F.l10.1 F.l10.2).cell
    go_wp2_with (first
      | (go_at_call 28; refine (R2.out _).mono ?_; clear R2; rintro e w9 ⟨rfl, hb9⟩; have l18 : B + 2 + 1 < w9.heap.size := Nat.lt_of_lt_of_le (new_lt' (H.at_ _ List.mem_cons_self)) hb9.size; have H9 := H.step hb9; have H10 := H9.add (.int .i64 (st : Int)) 3; have H11 := H10.add (.int .i64 0) 3; rw [World.size_alloc] at H11; clear H H9 H10))
    generalize (w9.alloc (.cells #[.int .i64 (st : Int)] 3)).alloc (.cells #[.int .i64 0] 3) = W11 at H11 ⊢
    generalize w9.heap.size = n18 at H11 l18 ⊢
    refine wp_loop_rounds 3 ?_
    rw [rounds_succ]
    have y11 := (H11.fix F.x11 F.l11.1 F.l11.2).cell
    have y19 := (H11.box (k := n18 + 1) List.mem_cons_self).cell
    go_wp2_with fail
    have H12 := H11.add (.int .i64 (fr : Int)) 3
    have l12 : (n18 + 1) < W11.heap.size := new_lt' (H11.at_ _ List.mem_cons_self)
    generalize W11.alloc (.cells #[.int .i64 (fr : Int)] 3) = W12 at H12 ⊢
    generalize W11.heap.size = n20 at H12 l12 ⊢
    have l20 : n20 < W12.heap.size := new_lt' (H12.at_ _ List.mem_cons_self)
    have hB12 := H12.hB
    have hL12 := H12.hL
    have hbB := H12.bB
    have HI0 : InP w w6 B b n18 (n18 + 1) n20 0 st fr [] cs 26 2304 [] W12 A3 c3 m := ⟨H12.sub (fun x hx => by
      simp only [Lp, List.mem_cons, List.not_mem_nil, or_false] at hx ⊢
      rcases hx with rfl | rfl | rfl | rfl | rfl <;> simp), hokm.up' (by omega), by omega, by rw [itm_nil _ (by simp)]⟩
    have hseq := seq76 (B := B) (b := b) (LB := B) (RB := B + 1) (lo := fr) (w := W12) (by rw [F.tc]; omega) (by have := HFN.out; omega) F.tg (F.tr.keptC H12.kp) H12.hB (H12.kp.l.trans F.xL) (H12.kp.n _ _ 105 (.inr (.inr (.inr rfl))) F.xR) 7
    rw [F.tc] at hseq
    clear H11 H12 hokm hlm y11 y19
    refine wpIn_wide (n := 8).1 ?_
    refine range_join (R := fun D W => ∃ (A : Option Addr) (c : Nat) (m : List (Int × Int)) (nx : Nat), W12.heap.size ≤ D ∧ Hold w w6 W B b B ((D, Obj.deferred (some [])) :: Lp B n18 (n18 + 1) n20 st 0 (nx : Int) [] A c m) A c m ∧ RowOk ((95 : Nat) : Int) m ∧ m.length ≤ 5616) (fun _ _ h => by simpa [Exit.inBlock] using h) ?range ?after
    case range =>
      refine' wpIn_rangeFunc_ownB (n := 8) rfl (by omega) (gf := 76) (lb := #[.pointer (some ⟨B + 1, 0, none⟩), .pointer (some ⟨B, 0, none⟩)]) rfl trivial (enters_of Tryd.func76 (by kernel_rfl) rfl) hseq (fun h k => h.trans k) (kpc_put hB12 hL12) (fun _ => rfl)
        (fun pre W => ∃ A c m, InP w w6 B b n18 (n18 + 1) n20 0 st fr [] cs 26 2304 pre W A c m) (ExP w w6 B b n18 (n18 + 1) n20 0 st fr [] cs 26 2304)
        ?hI ?hIx ⟨_, _, _, HI0⟩ (fun x => #[.int .i32 x.2.1, .int .i64 x.2.2]) 36 ?hKa _ ?assign ?body ?done ?stop
      case hI =>
        rintro pre W W' row ⟨A, c, m, h⟩ hg hr
        exact ⟨A, c, m, h.own (by omega) l12 l20 l18 (by simp) hg hr⟩
      case hIx =>
        rintro cd pre W W' row h hg hr
        rcases h with h | ⟨h1, h2, pre', A, c, m, h3, h⟩
        · exact .inl h
        · exact .inr ⟨h1, h2, pre', A, c, m, h3, h.own (by omega) l12 l20 l18 (by simp) hg hr⟩
      case hKa =>
        rintro pre W o ⟨A, c, m, h⟩
        exact KpC.of (below_alloc (Below.refl _ W) o) h.h.hB h.h.hL
      case assign =>
        intro l x W q hq K hK
        simp only [encI, List.zip_toArray, List.zip_cons_cons, List.zip_nil_right, List.zip_nil_left, List.foldl_toArray, List.foldl_toArray', List.size_toArray, List.length_cons, List.length_nil, List.foldl_cons, List.foldl_nil, List.setIfInBounds_toArray, List.set_cons_succ, List.set_cons_zero]
        gi_wp2
        rw [← hq]
        exact hK
      case body =>
        rintro lr pre ⟨xq, xr, xh⟩ W q ⟨A4, c4, m4, hI⟩ hq hlen
        have HI := Lib.hid hI
        have HLEN := Lib.hid hlen
        obtain ⟨hH, hok, hln, hpre⟩ := hI
        have y8 := (hH.fix F.x8 F.l8.1 F.l8.2).cell
        have f8 := (hH.fix F.x8 F.l8.1 F.l8.2).frozen
        have y10 := (hH.fix F.x10 F.l10.1 F.l10.2).cell
        have y11 := (hH.fix F.x11 F.l11.1 F.l11.2).cell
        have y12 := (hH.fix F.x12 F.l12.1 F.l12.2).cell
        have y20 := hH.b20.cell
        have f20 := hH.b20.frozen
        have y15 := hH.b15.cell
        have y16 := hH.b16.cell
        have y19 := hH.b19.cell
        have y18 := hH.b18.cell
        have yc0 : W.cell? ⟨q, 0, none⟩ = some (.int .i32 xr) := by simp [World.cell?, hq]
        have yc1 : W.cell? ⟨q, 1, none⟩ = some (.int .i64 xh) := by simp [World.cell?, hq]
        have hnN : fr + pre.length < cs.length := by omega
        obtain ⟨ad, hAd, r0, r1⟩ := row_cell (F.rows hH) hnN
        obtain ⟨ce, hce⟩ : ∃ ce, ce = cs[fr + pre.length] := ⟨_, rfl⟩
        rw [← hce] at r0 r1
        have hcg : cs.getD (fr + pre.length) (0, 0) = ce := by rw [hce, List.getD_eq_getElem?_getD, List.getElem?_eq_getElem hnN]; rfl
        have HCG := Lib.hid hcg
        clear hce hcg
        obtain ⟨k, hk⟩ : ∃ k, k = pre.length := ⟨_, rfl⟩
        obtain ⟨nx, hnx⟩ : ∃ nx, nx = fr + pre.length := ⟨_, rfl⟩
        simp only [← hnx] at y20 f20 r0 r1 hnN
        have bx : (nx : Int) ≤ 1152 := by omega
        have wk : IntKind.i64.wrap ((nx : Int) - (fr : Int)) = (k : Int) := ((IntWalk.i64_left _).trans (w64 (by omega) (by omega))).trans (by omega)
        have wk2 : wrap64 ((nx : Int) - (fr : Int)) = (k : Int) := (w64 (by omega) (by omega)).trans (by omega)
        have HNX := Lib.hid hnx
        have HK := Lib.hid hk
        have HNN := Lib.hid hnN
        clear hpre hok hln hlen hnx hk hnN hH hq
        by_cases hst : st ≤ k
        · have d0 : decide (st ≤ k) = true := decide_eq_true hst
          have d1 : decide ((st : Int) ≤ (k : Int)) = true := decide_eq_true (by omega)
          gi_wp2
          exact ⟨KeepsFrom.refl _ _, .inr ⟨rfl, rfl, pre, A4, c4, m4, by have := HLEN.out; omega, HI.out⟩⟩
        · have d0 : decide (st ≤ k) = false := decide_eq_false hst
          have d1 : decide ((st : Int) ≤ (k : Int)) = false := decide_eq_false (by omega)
          have d2 : decide (cs.length ≤ nx) = false := decide_eq_false (by have := HNN.out; omega)
          have d3 : decide ((cs.length : Int) ≤ (nx : Int)) = false := decide_eq_false (by have := HNN.out; omega)
          by_cases hqx : xq = nx
          · subst hqx
            have q1 : (xq : Int) < (cs.length : Int) := by have := HNN.out; omega
            have q2 : ((xq : Int) < (cs.length : Int)) = True := eq_true q1
            have q3 : (0 ≤ (xq : Int)) = True := eq_true (by omega)
            by_cases he : (xr, xh) = ce
            · subst he
              dsimp only at r0 r1
              gi_wp2
              refine wpIn_region_quietR (by kernel_rfl) (by kernel_rfl) (by kernel_rfl) ?_
              (repeat (gi_big_quiet_step (fail)))
              refine wpQuietIn_nil ?_
              intro _ hw'
              obtain ⟨nq, hw''⟩ := hw'
              subst hw''
              have hdr := pw_below_drewN (Below.refl W.heap.size W) nq
              have hI2 := HI.out
              have HD := hI2.h.step hdr
              have R0 := hI2.h.rd (n := W12.heap.size) hdr
              rw [← HNX.out] at HD
              have HS := HD.set20 (by omega) l12 l18 (by simp) ((xq : Int) + 1)
              have R1 := R0.trans (HD.rdSet (n := W12.heap.size) (d := n20) List.mem_cons_self (free_bI _) l20 (.int .i64 ((xq : Int) + 1)))
              have z20 := HD.b20.cell
              have zf20 := HD.b20.frozen
              have s20 := HS.b20.cell
              have s19 := HS.b19.cell
              have s15 := HS.b15.cell
              have s16 := HS.b16.cell
              have s12 := (HS.fix F.x12 F.l12.1 F.l12.2).cell
              have HOK2 := Lib.hid hI2.ok
              have HLN2 := Lib.hid hI2.ln
              clear hI2 HD R0 hdr
              by_cases hm : (xq + 1) % 17 = 1
              · have d7 : (((xq : Int) + 1) % 17 == 1) = true := beq_iff_eq.2 (by omega)
                have d10 : ((xq : Int) + 1) % 17 = 1 := by omega
                gi_wp2
                refine ⟨trivial, ?_⟩
                refine (CallsIn.inRound lr (callsIn_wide.2 (actsD_calls HS.sta HOK2.out ⟨by omega, by have := HNX.out; have := HNN.out; omega⟩ (by have := HLN2.out; have := HNX.out; have := HNN.out; omega) 1 ((xq : Int) + 1) 0 0))).mono ?_
                rintro e w5 ⟨A5, c5, rfl, S5, R5, hok5, hln5⟩
                have HA := HS.act S5 R5
                have H15 := HA.set15 (by omega) l12 l18 (by simp)
                have H16 := H15.set16 (by omega) l12 l18 (by simp)
                have R2 := R1.trans ((HS.rdAct (n := W12.heap.size) S5 (by omega)).trans ((HA.rdSet (n := W12.heap.size) (d := B + 2) (List.mem_cons_of_mem _ List.mem_cons_self) (free_bSl _ _ _) (by omega) _).trans (H15.rdSet (n := W12.heap.size) (d := B + 2 + 1) (List.mem_cons_of_mem _ (List.mem_cons_of_mem _ List.mem_cons_self)) free_bOk (by omega) (.bool true))))
                have q15 := HA.b15.cell
                have q15f := HA.b15.frozen
                have q16 := H15.b16.cell
                have q16f := H15.b16.frozen
                have t16 := H16.b16.cell
                gi_wp2
                exact ⟨R2.f, R2.k, _, _, _, inp_next HI.out (by rw [HCG.out, ← HNX.out]) xq HNX.out H16 (.inr ⟨hm, hok5, by have := HLN2.out; omega⟩)⟩
              · have d7 : (((xq : Int) + 1) % 17 == 1) = false := beq_eq_false_iff_ne.2 (by omega)
                have d10 : ¬ ((xq : Int) + 1) % 17 = 1 := by omega
                gi_wp2
                exact ⟨R1.f, R1.k, _, _, _, inp_next HI.out (by rw [HCG.out, ← HNX.out]) xq HNX.out HS (.inl ⟨HOK2.out, HLN2.out⟩)⟩
            · obtain ⟨cr, ch⟩ := ce
              dsimp only at r0 r1
              by_cases he1 : xr = cr
              · subst he1
                have he2 : ¬ xh = ch := fun e => he (by rw [e])
                have d5 : decide (xh = ch) = false := decide_eq_false he2
                have HE := Lib.hid he
                clear he
                gi_wp2
                refine wpIn_region_quietR (by kernel_rfl) (by kernel_rfl) (by kernel_rfl) ?_
                (repeat (gi_big_quiet_step (fail)))
                refine wpQuietIn_nil ?_
                intro _ hw'
                obtain ⟨nq, hw''⟩ := hw'
                subst hw''
                have z8 : (W.drewN nq).cell? ⟨w.heap.size, 0, none⟩ = some (.bool false) := y8
                have zf8 : (W.drewN nq).frozen? ⟨w.heap.size, 0, none⟩ = false := f8
                gi_wp2
                exact ⟨(HI.out.h.rd (n := W12.heap.size) (pw_below_drewN (Below.refl W.heap.size W) nq)).f.trans (KeepsFrom.of_grownBy grown_set (fun j e => by have := F.l8.1; injection e; omega)), .inl ⟨rfl, not_pre HI.out.eq (by have := HLEN.out; omega) (by rw [HCG.out, ← HNX.out]; intro e; injection e with e1 e2; exact HE.out e2)⟩⟩
              · have d5 : decide (xr = cr) = false := decide_eq_false he1
                have HE := Lib.hid he
                clear he
                gi_wp2
                refine wpIn_region_quietR (by kernel_rfl) (by kernel_rfl) (by kernel_rfl) ?_
                (repeat (gi_big_quiet_step (fail)))
                refine wpQuietIn_nil ?_
                intro _ hw'
                obtain ⟨nq, hw''⟩ := hw'
                subst hw''
                have z8 : (W.drewN nq).cell? ⟨w.heap.size, 0, none⟩ = some (.bool false) := y8
                have zf8 : (W.drewN nq).frozen? ⟨w.heap.size, 0, none⟩ = false := f8
                gi_wp2
                exact ⟨(HI.out.h.rd (n := W12.heap.size) (pw_below_drewN (Below.refl W.heap.size W) nq)).f.trans (KeepsFrom.of_grownBy grown_set (fun j e => by have := F.l8.1; injection e; omega)), .inl ⟨rfl, not_pre HI.out.eq (by have := HLEN.out; omega) (by rw [HCG.out, ← HNX.out]; intro e; injection e with e1 e2; exact HE.out e2)⟩⟩
          · have d4 : decide (xq = nx) = false := decide_eq_false hqx
            have d6 : decide ((xq : Int) = (nx : Int)) = false := decide_eq_false (by omega)
            have d8 : ((xq : Int) == (nx : Int)) = false := beq_eq_false_iff_ne.2 (by omega)
            have d9 : (xq == nx) = false := beq_eq_false_iff_ne.2 hqx
            have d11 : (!decide (xq = nx)) = true := by rw [d4]; rfl
            have d12 : decide (¬ xq = nx) = true := decide_eq_true hqx
            have d13 : (xq != nx) = true := bne_iff_ne.2 hqx
            have d14 : ((xq : Int) != (nx : Int)) = true := bne_iff_ne.2 (by omega)
            have d15 : ((xq : Int) = (nx : Int)) = False := eq_false (by omega)
            have d16 : (xq = nx) = False := eq_false hqx
            have d17 : decide (¬ (xq : Int) = (nx : Int)) = true := decide_eq_true (by omega)
            gi_wp2
            refine wpIn_region_quietR (by kernel_rfl) (by kernel_rfl) (by kernel_rfl) ?_
            (repeat (gi_big_quiet_step (fail)))
            refine wpQuietIn_nil ?_
            intro _ hw'
            obtain ⟨nq, hw''⟩ := hw'
            subst hw''
            have z8 : (W.drewN nq).cell? ⟨w.heap.size, 0, none⟩ = some (.bool false) := y8
            have zf8 : (W.drewN nq).frozen? ⟨w.heap.size, 0, none⟩ = false := f8
            gi_wp2
            exact ⟨(HI.out.h.rd (n := W12.heap.size) (pw_below_drewN (Below.refl W.heap.size W) nq)).f.trans (KeepsFrom.of_grownBy grown_set (fun j e => by have := F.l8.1; injection e; omega)), .inl ⟨rfl, not_pre HI.out.eq (by have := HLEN.out; omega) (by rw [← HNX.out]; intro e; injection e with e1 e2; exact hqx e1)⟩⟩
      case done =>
        rintro D xs W hD rfl ⟨A4, c4, m4, hI⟩ hK
        have hl : (itm cs fr cs.length).length = cs.length - fr := itm_len _ _ _
        have hfn := HFN.out
        refine ⟨.inl rfl, D, rfl, A4, c4, m4, _, hD, hI.h.put hK ⟨by omega, by omega⟩, hI.ok.up' (by rw [hl]; omega), by have := hI.ln; rw [hl] at this; omega⟩
      case stop =>
        rintro D cd pre W hD hpf hx hK
        rcases hx with ⟨_, h2⟩ | ⟨rfl, h3, pre', A4, c4, m4, hln, hI⟩
        · exact absurd hpf h2
        have hfn := HFN.out
        refine wpIn_exit ?_
        refine ⟨.inr rfl, D, rfl, A4, c4, m4, _, hD, hI.h.put hK ⟨by omega, by omega⟩, hI.ok.up' (by omega), by have := hI.ln; omega⟩
    case after =>
      rintro D0 W ⟨A3, c3, m, nx, hD0, H, hokm, hlm⟩
      have y19 := Boxed.cell (t := 3) (H.at_ (n18 + 1, bI 0) (by simp) : W.heap[n18 + 1]? = some (.cells #[.int .i64 0] 3 (0, 0)))
      have H21 := H.add (.int .i64 1) 3
      have l19 : n18 < W.heap.size := by have := new_lt' (H.at_ (n18, bI st) (by simp)); exact this
      have l16 : n20 < D0 := by omega
      go_wp2
      generalize W.alloc (.cells #[.int .i64 1] 3) = W21 at H21 ⊢
      generalize W.heap.size = n19 at H21 l19 ⊢
      rw [rounds_succ]
      have y11 := (H21.fix F.x11 F.l11.1 F.l11.2).cell
      have y19 := Boxed.cell (t := 3) (H21.at_ (n19, bI 1) (by simp) : W21.heap[n19]? = some (.cells #[.int .i64 1] 3 (0, 0)))
      clear H
      go_wp2_with fail
      have H22 := H21.add (.int .i64 (fr : Int)) 3
      have l12 : n19 < W21.heap.size := new_lt' (H21.at_ _ List.mem_cons_self)
      have lD : D0 < W21.heap.size := new_lt' (H21.at_ (D0, _) (List.mem_cons_of_mem _ List.mem_cons_self))
      generalize W21.alloc (.cells #[.int .i64 (fr : Int)] 3) = W22 at H22 ⊢
      generalize W21.heap.size = n30 at H22 l12 lD ⊢
      have l20 : n30 < W22.heap.size := new_lt' (H22.at_ _ List.mem_cons_self)
      have hB12 := H22.hB
      have hL12 := H22.hL
      have hbB := H22.bB
      have HI0 : InP w w6 B b n18 n19 n30 1 st fr [(D0, Obj.deferred (some []))] cs 95 5616 [] W22 A3 c3 m := ⟨H22.sub (fun x hx => by
        simp only [Lp, List.mem_cons, List.not_mem_nil, or_false] at hx ⊢
        rcases hx with rfl | rfl | rfl | rfl | rfl | rfl <;> simp), hokm.up' (by omega), by omega, by rw [itm_nil _ (by simp)]⟩
      have hseq := seq76 (B := B) (b := b) (LB := B) (RB := B + 1) (lo := fr) (w := W22) (by rw [F.tc]; omega) (by have := HFN.out; omega) F.tg (F.tr.keptC H22.kp) H22.hB (H22.kp.l.trans F.xL) (H22.kp.n _ _ 105 (.inr (.inr (.inr rfl))) F.xR) 7
      rw [F.tc] at hseq
      clear H21 H22 hokm hlm y11 y19
      refine wpIn_wide (n := 8).1 ?_
      refine range_join (R := fun D W => ∃ (A : Option Addr) (c : Nat) (m : List (Int × Int)) (nx : Nat), W22.heap.size ≤ D ∧ Hold w w6 W B b B ((D, Obj.deferred (some [])) :: Lp B n18 n19 n30 st 1 (nx : Int) [(D0, Obj.deferred (some []))] A c m) A c m ∧ RowOk ((164 : Nat) : Int) m ∧ m.length ≤ 8928 ∧ nx = cs.length) (fun _ _ h => by simpa [Exit.inBlock] using h) ?range ?after
      case range =>
        refine' wpIn_rangeFunc_ownB (n := 8) rfl (by omega) (gf := 76) (lb := #[.pointer (some ⟨B + 1, 0, none⟩), .pointer (some ⟨B, 0, none⟩)]) rfl trivial (enters_of Tryd.func76 (by kernel_rfl) rfl) hseq (fun h k => h.trans k) (kpc_put hB12 hL12) (fun _ => rfl)
          (fun pre W => ∃ A c m, InP w w6 B b n18 n19 n30 1 st fr [(D0, Obj.deferred (some []))] cs 95 5616 pre W A c m) (ExP w w6 B b n18 n19 n30 1 st fr [(D0, Obj.deferred (some []))] cs 95 5616)
          ?hI ?hIx ⟨_, _, _, HI0⟩ (fun x => #[.int .i32 x.2.1, .int .i64 x.2.2]) 36 ?hKa _ ?assign ?body ?done ?stop
        case hI =>
          rintro pre W W' row ⟨A, c, m, h⟩ hg hr
          exact ⟨A, c, m, h.own l19 l12 l20 l18 (by intro x hx; rw [List.mem_singleton.1 hx]; show D0 < _; omega) hg hr⟩
        case hIx =>
          rintro cd pre W W' row h hg hr
          rcases h with h | ⟨h1, h2, pre', A, c, m, h3, h⟩
          · exact .inl h
          · exact .inr ⟨h1, h2, pre', A, c, m, h3, h.own l19 l12 l20 l18 (by intro x hx; rw [List.mem_singleton.1 hx]; show D0 < _; omega) hg hr⟩
        case hKa =>
          rintro pre W o ⟨A, c, m, h⟩
          exact KpC.of (below_alloc (Below.refl _ W) o) h.h.hB h.h.hL
        case assign =>
          intro l x W q hq K hK
          simp only [encI, List.zip_toArray, List.zip_cons_cons, List.zip_nil_right, List.zip_nil_left, List.foldl_toArray, List.foldl_toArray', List.size_toArray, List.length_cons, List.length_nil, List.foldl_cons, List.foldl_nil, List.setIfInBounds_toArray, List.set_cons_succ, List.set_cons_zero]
          gi_wp2
          rw [← hq]
          exact hK
        case body =>
          rintro lr pre ⟨xq, xr, xh⟩ W q ⟨A4, c4, m4, hI⟩ hq hlen
          have HI := Lib.hid hI
          have HLEN := Lib.hid hlen
          obtain ⟨hH, hok, hln, hpre⟩ := hI
          have y8 := (hH.fix F.x8 F.l8.1 F.l8.2).cell
          have f8 := (hH.fix F.x8 F.l8.1 F.l8.2).frozen
          have y10 := (hH.fix F.x10 F.l10.1 F.l10.2).cell
          have y11 := (hH.fix F.x11 F.l11.1 F.l11.2).cell
          have y12 := (hH.fix F.x12 F.l12.1 F.l12.2).cell
          have y20 := hH.b20.cell
          have f20 := hH.b20.frozen
          have y15 := hH.b15.cell
          have y16 := hH.b16.cell
          have y19 := hH.b19.cell
          have y18 := hH.b18.cell
          have yc0 : W.cell? ⟨q, 0, none⟩ = some (.int .i32 xr) := by simp [World.cell?, hq]
          have yc1 : W.cell? ⟨q, 1, none⟩ = some (.int .i64 xh) := by simp [World.cell?, hq]
          have hnN : fr + pre.length < cs.length := by omega
          obtain ⟨ad, hAd, r0, r1⟩ := row_cell (F.rows hH) hnN
          obtain ⟨ce, hce⟩ : ∃ ce, ce = cs[fr + pre.length] := ⟨_, rfl⟩
          rw [← hce] at r0 r1
          have hcg : cs.getD (fr + pre.length) (0, 0) = ce := by rw [hce, List.getD_eq_getElem?_getD, List.getElem?_eq_getElem hnN]; rfl
          have HCG := Lib.hid hcg
          clear hce hcg
          obtain ⟨k, hk⟩ : ∃ k, k = pre.length := ⟨_, rfl⟩
          obtain ⟨nx, hnx⟩ : ∃ nx, nx = fr + pre.length := ⟨_, rfl⟩
          simp only [← hnx] at y20 f20 r0 r1 hnN
          have bx : (nx : Int) ≤ 1152 := by omega
          have wk : IntKind.i64.wrap ((nx : Int) - (fr : Int)) = (k : Int) := ((IntWalk.i64_left _).trans (w64 (by omega) (by omega))).trans (by omega)
          have wk2 : wrap64 ((nx : Int) - (fr : Int)) = (k : Int) := (w64 (by omega) (by omega)).trans (by omega)
          have HNX := Lib.hid hnx
          have HK := Lib.hid hk
          have HNN := Lib.hid hnN
          clear hpre hok hln hlen hnx hk hnN hH hq
          have d2 : decide (cs.length ≤ nx) = false := decide_eq_false (by have := HNN.out; omega)
          have d3 : decide ((cs.length : Int) ≤ (nx : Int)) = false := decide_eq_false (by have := HNN.out; omega)
          by_cases hqx : xq = nx
          · subst hqx
            have q1 : (xq : Int) < (cs.length : Int) := by have := HNN.out; omega
            have q2 : ((xq : Int) < (cs.length : Int)) = True := eq_true q1
            have q3 : (0 ≤ (xq : Int)) = True := eq_true (by omega)
            by_cases he : (xr, xh) = ce
            · subst he
              dsimp only at r0 r1
              gi_wp2
              refine wpIn_region_quietR (by kernel_rfl) (by kernel_rfl) (by kernel_rfl) ?_
              (repeat (gi_big_quiet_step (fail)))
              refine wpQuietIn_nil ?_
              intro _ hw'
              obtain ⟨nq, hw''⟩ := hw'
              subst hw''
              have hdr := pw_below_drewN (Below.refl W.heap.size W) nq
              have hI2 := HI.out
              have HD := hI2.h.step hdr
              have R0 := hI2.h.rd (n := W22.heap.size) hdr
              rw [← HNX.out] at HD
              have HS := HD.set20 l19 l12 l18 (by intro x hx; rw [List.mem_singleton.1 hx]; show D0 ≠ _; omega) ((xq : Int) + 1)
              have R1 := R0.trans (HD.rdSet (n := W22.heap.size) (d := n30) List.mem_cons_self (free_bI _) l20 (.int .i64 ((xq : Int) + 1)))
              have z20 := HD.b20.cell
              have zf20 := HD.b20.frozen
              have s20 := HS.b20.cell
              have s19 := HS.b19.cell
              have s15 := HS.b15.cell
              have s16 := HS.b16.cell
              have s12 := (HS.fix F.x12 F.l12.1 F.l12.2).cell
              have HOK2 := Lib.hid hI2.ok
              have HLN2 := Lib.hid hI2.ln
              clear hI2 HD R0 hdr
              by_cases hm : (xq + 1) % 17 = 1
              · have d7 : (((xq : Int) + 1) % 17 == 1) = true := beq_iff_eq.2 (by omega)
                have d10 : ((xq : Int) + 1) % 17 = 1 := by omega
                gi_wp2
                refine ⟨trivial, ?_⟩
                refine (CallsIn.inRound lr (callsIn_wide.2 (actsD_calls HS.sta HOK2.out ⟨by omega, by have := HNX.out; have := HNN.out; omega⟩ (by have := HLN2.out; have := HNX.out; have := HNN.out; omega) 1 ((xq : Int) + 1) 1 0))).mono ?_
                rintro e w5 ⟨A5, c5, rfl, S5, R5, hok5, hln5⟩
                have HA := HS.act S5 R5
                have H15 := HA.set15 l19 l12 l18 (by intro x hx; rw [List.mem_singleton.1 hx]; show D0 ≠ _; omega)
                have H16 := H15.set16 l19 l12 l18 (by intro x hx; rw [List.mem_singleton.1 hx]; show D0 ≠ _; omega)
                have R2 := R1.trans ((HS.rdAct (n := W22.heap.size) S5 (by omega)).trans ((HA.rdSet (n := W22.heap.size) (d := B + 2) (List.mem_cons_of_mem _ List.mem_cons_self) (free_bSl _ _ _) (by omega) _).trans (H15.rdSet (n := W22.heap.size) (d := B + 2 + 1) (List.mem_cons_of_mem _ (List.mem_cons_of_mem _ List.mem_cons_self)) free_bOk (by omega) (.bool true))))
                have q15 := HA.b15.cell
                have q15f := HA.b15.frozen
                have q16 := H15.b16.cell
                have q16f := H15.b16.frozen
                have t16 := H16.b16.cell
                gi_wp2
                exact ⟨R2.f, R2.k, _, _, _, inp_next HI.out (by rw [HCG.out, ← HNX.out]) xq HNX.out H16 (.inr ⟨hm, hok5, by have := HLN2.out; omega⟩)⟩
              · have d7 : (((xq : Int) + 1) % 17 == 1) = false := beq_eq_false_iff_ne.2 (by omega)
                have d10 : ¬ ((xq : Int) + 1) % 17 = 1 := by omega
                gi_wp2
                exact ⟨R1.f, R1.k, _, _, _, inp_next HI.out (by rw [HCG.out, ← HNX.out]) xq HNX.out HS (.inl ⟨HOK2.out, HLN2.out⟩)⟩
            · obtain ⟨cr, ch⟩ := ce
              dsimp only at r0 r1
              by_cases he1 : xr = cr
              · subst he1
                have he2 : ¬ xh = ch := fun e => he (by rw [e])
                have d5 : decide (xh = ch) = false := decide_eq_false he2
                have HE := Lib.hid he
                clear he
                gi_wp2
                refine wpIn_region_quietR (by kernel_rfl) (by kernel_rfl) (by kernel_rfl) ?_
                (repeat (gi_big_quiet_step (fail)))
                refine wpQuietIn_nil ?_
                intro _ hw'
                obtain ⟨nq, hw''⟩ := hw'
                subst hw''
                have z8 : (W.drewN nq).cell? ⟨w.heap.size, 0, none⟩ = some (.bool false) := y8
                have zf8 : (W.drewN nq).frozen? ⟨w.heap.size, 0, none⟩ = false := f8
                gi_wp2
                exact ⟨(HI.out.h.rd (n := W22.heap.size) (pw_below_drewN (Below.refl W.heap.size W) nq)).f.trans (KeepsFrom.of_grownBy grown_set (fun j e => by have := F.l8.1; injection e; omega)), .inl ⟨rfl, not_pre HI.out.eq (by have := HLEN.out; omega) (by rw [HCG.out, ← HNX.out]; intro e; injection e with e1 e2; exact HE.out e2)⟩⟩
              · have d5 : decide (xr = cr) = false := decide_eq_false he1
                have HE := Lib.hid he
                clear he
                gi_wp2
                refine wpIn_region_quietR (by kernel_rfl) (by kernel_rfl) (by kernel_rfl) ?_
                (repeat (gi_big_quiet_step (fail)))
                refine wpQuietIn_nil ?_
                intro _ hw'
                obtain ⟨nq, hw''⟩ := hw'
                subst hw''
                have z8 : (W.drewN nq).cell? ⟨w.heap.size, 0, none⟩ = some (.bool false) := y8
                have zf8 : (W.drewN nq).frozen? ⟨w.heap.size, 0, none⟩ = false := f8
                gi_wp2
                exact ⟨(HI.out.h.rd (n := W22.heap.size) (pw_below_drewN (Below.refl W.heap.size W) nq)).f.trans (KeepsFrom.of_grownBy grown_set (fun j e => by have := F.l8.1; injection e; omega)), .inl ⟨rfl, not_pre HI.out.eq (by have := HLEN.out; omega) (by rw [HCG.out, ← HNX.out]; intro e; injection e with e1 e2; exact HE.out e2)⟩⟩
          · have d4 : decide (xq = nx) = false := decide_eq_false hqx
            have d6 : decide ((xq : Int) = (nx : Int)) = false := decide_eq_false (by omega)
            have d8 : ((xq : Int) == (nx : Int)) = false := beq_eq_false_iff_ne.2 (by omega)
            have d9 : (xq == nx) = false := beq_eq_false_iff_ne.2 hqx
            have d11 : (!decide (xq = nx)) = true := by rw [d4]; rfl
            have d12 : decide (¬ xq = nx) = true := decide_eq_true hqx
            have d13 : (xq != nx) = true := bne_iff_ne.2 hqx
            have d14 : ((xq : Int) != (nx : Int)) = true := bne_iff_ne.2 (by omega)
            have d15 : ((xq : Int) = (nx : Int)) = False := eq_false (by omega)
            have d16 : (xq = nx) = False := eq_false hqx
            have d17 : decide (¬ (xq : Int) = (nx : Int)) = true := decide_eq_true (by omega)
            gi_wp2
            refine wpIn_region_quietR (by kernel_rfl) (by kernel_rfl) (by kernel_rfl) ?_
            (repeat (gi_big_quiet_step (fail)))
            refine wpQuietIn_nil ?_
            intro _ hw'
            obtain ⟨nq, hw''⟩ := hw'
            subst hw''
            have z8 : (W.drewN nq).cell? ⟨w.heap.size, 0, none⟩ = some (.bool false) := y8
            have zf8 : (W.drewN nq).frozen? ⟨w.heap.size, 0, none⟩ = false := f8
            gi_wp2
            exact ⟨(HI.out.h.rd (n := W22.heap.size) (pw_below_drewN (Below.refl W.heap.size W) nq)).f.trans (KeepsFrom.of_grownBy grown_set (fun j e => by have := F.l8.1; injection e; omega)), .inl ⟨rfl, not_pre HI.out.eq (by have := HLEN.out; omega) (by rw [← HNX.out]; intro e; injection e with e1 e2; exact hqx e1)⟩⟩
        case done =>
          rintro D xs W hD rfl ⟨A4, c4, m4, hI⟩ hK
          have hl : (itm cs fr cs.length).length = cs.length - fr := itm_len _ _ _
          have hfn := HFN.out
          refine ⟨.inl rfl, D, rfl, A4, c4, m4, _, hD, hI.h.put hK ⟨by omega, by omega⟩, hI.ok.up' (by rw [hl]; omega), by have := hI.ln; rw [hl] at this; omega, by rw [hl]; omega⟩
        case stop =>
          rintro D cd pre W hD hpf hx hK
          rcases hx with ⟨_, h2⟩ | ⟨rfl, h3, pre', A4, c4, m4, hln, hI⟩
          · exact absurd hpf h2
          · exact absurd h3 (by decide)
      case after =>
        rintro D1 W ⟨A3, c3, m, nx, hD1, H, hokm, hlm, hnx⟩
        subst hnx
        have y19 := Boxed.cell (t := 3) (H.at_ (n19, bI 1) (by simp) : W.heap[n19]? = some (.cells #[.int .i64 1] 3 (0, 0)))
        have y20 := Boxed.cell (t := 3) (H.at_ (n30, bI ((cs.length : Nat) : Int)) (by simp) : W.heap[n30]? = some (.cells #[.int .i64 (cs.length : Int)] 3 (0, 0)))
        have y10 := (H.fix F.x10 F.l10.1 F.l10.2).cell
        have d0 : (cs.length == cs.length) = true := beq_self_eq_true _
        have H31 := H.add (.int .i64 2) 3
        go_wp2
        have y32 := Boxed.cell (t := 3) (H31.at_ _ List.mem_cons_self : (W.alloc (.cells #[.int .i64 2] 3)).heap[W.heap.size]? = some (.cells #[.int .i64 2] 3 (0, 0)))
        have y12 := (H31.fix F.x12 F.l12.1 F.l12.2).cell
        have y15 := Boxed.cell (t := 25) (H31.at_ (B + 2, bSl A3 c3 m) (by simp) : _)
        generalize W.alloc (.cells #[.int .i64 2] 3) = W31 at H31 y32 y12 y15 ⊢
        generalize W.heap.size = n39 at H31 y32 ⊢
        clear H y19 y20 y10
        rw [rounds_succ]
        go_wp2_with (first | (go_at_call 40; refine (is_calls H31.stand hokm.rn (by omega)).mono ?_; rintro e w12 ⟨rfl, hb12⟩; have H5 := H31.step hb12; have z8 := (H5.fix F.x8 F.l8.1 F.l8.2).cell; have zf8 := (H5.fix F.x8 F.l8.1 F.l8.2).frozen))
        have b8 := Boxed.set (.bool true) (H5.fix F.x8 F.l8.1 F.l8.2)
        have hB5 := H5.hB
        have hwB := F.l8.1
        refine leaves_marks [D1, D0] _ (fun D' hD' => ?_) (List.nodup_cons.2 ⟨fun e => by have := List.mem_singleton.1 e; omega, List.nodup_cons.2 ⟨by simp, List.nodup_nil⟩⟩) (fun W' hoW => ?_)
        · rcases List.mem_cons.1 hD' with rfl | hD'
          · exact (KeepsOthers.setCell w12 ⟨w.heap.size, 0, none⟩ (.bool true)).same _ _ (H5.at_ (_, .deferred (some [])) (by simp)) rfl
          · rw [List.mem_singleton.1 hD']
            exact (KeepsOthers.setCell w12 ⟨w.heap.size, 0, none⟩ (.bool true)).same _ _ (H5.at_ (D0, .deferred (some [])) (by simp)) rfl
        · have b8' : W'.heap[w.heap.size]? = some (.cells #[.bool true] 4 (0, 0)) := (hoW.block _ b8.lt (fun h => by
            rcases List.mem_cons.1 h with h | h
            · omega
            · have := List.mem_singleton.1 h; omega)).trans b8
          have c8 := Boxed.cell (t := 4) b8'
          have hs := hoW.size
          have hbel0 := H5.bel.setCell (p := ⟨w.heap.size, 0, none⟩) (Nat.le_refl _) (.bool true)
          have hz := hbel0.size
          have hbel : Below w.heap.size w W' := ⟨hoW.os.trans hbel0.os, hoW.tape.trans hbel0.tape, hoW.output.trans hbel0.output, Nat.le_trans hz hs, fun k hk => (hoW.block k (by omega) (fun h => by
            rcases List.mem_cons.1 h with h | h
            · omega
            · have := List.mem_singleton.1 h; omega)).trans (hbel0.block k hk)⟩
          refine ⟨.bool true, ?_, rfl, hbel⟩
          simp [results, Tryd.results10, go_sem, c8]
  case first =>
  go_wp2_with fail
  go_loopw [17] (fun v17 wr => ∃ (i : Nat) (A3 : Option Addr) (c3 : Nat) (m : List (Int × Int)), i ≤ 24 ∧ v17 = .int .i64 (i : Int) ∧ Hold w w6 wr B b B [(B + 2 + 1, bOk), (B + 2, bSl A3 c3 m)] A3 c3 m ∧ RowOk (2 + (i : Int)) m ∧ m.length ≤ 1152 + 48 * i) (fun v17 _ => 24 - (intOf v17).toNat)
  case atStart => exact ⟨0, A2, c2, cs, Nat.zero_le _, rfl, H2, HOK.out, HCL.out⟩
  case round =>
    obtain ⟨i, A3, c3, m, hi2, rfl, H, hokm, hlm⟩ := hrel
    have ib : (i : Int) ≤ 24 := by omega
    have HOM := Lib.hid hokm
    have HLM := Lib.hid hlm
    have HI2 := Lib.hid hi2
    have y12 := (H.fix F.x12 F.l12.1 F.l12.2).cell
    have y15 := (H.box (k := B + 2) (List.mem_cons_of_mem _ List.mem_cons_self)).cell
    have y16 := (H.box (k := B + 2 + 1) List.mem_cons_self).cell
    clear H2 hokm hlm hi2
    by_cases h24 : i < 24
    · have d24 : decide ((i : Int) < 24) = true := decide_eq_true (by omega)
      have HI := Lib.hid h24
      by_cases h1 : i < sc.length
      · have d1 : decide (i < sc.length) = true := decide_eq_true h1
        obtain ⟨ad, hAd, x0, x1, x2, x3⟩ := at_T44 HSC.out h1
        subst hAd
        have p0 : (0 ≤ (i : Int)) = True := eq_true (by omega)
        have p1 : ((i : Int) < (sc.length : Int)) = True := eq_true (by omega)
        obtain ⟨⟨k0, k1, k2, k3⟩, hkk⟩ : ∃ x, sc[i] = x := ⟨_, rfl⟩
        rw [hkk] at x0 x1 x2 x3
        dsimp only at x0 x1 x2 x3
        have z0 := pw_cell_below H.bel x0
        have z1 := pw_cell_below H.bel x1
        have z2 := pw_cell_below H.bel x2
        have z3 := pw_cell_below H.bel x3
        clear hkk h1 h24
        go_wp2_with fail
        have HD := H.step ((Below.refl _ wr).drew)
        clear H x0 x1 x2 x3
        refine wp_region_noPanic ?_
        go_region_with (first | (go_at_call 27; refine (actsD_calls HD.sta HOM.out (by have := HI.out; omega) (by have := HLM.out; have := HI.out; omega) k0 k1 k2 k3).mono ?_; rintro e w5 ⟨A5, c5, rfl, S5, R5, hok5, hln5⟩; have H5 := HD.act S5 R5; clear HD; have H6 := (H5.sub (L' := [(B + 2, bSl A3 c3 m), (B + 2 + 1, bOk)]) swap2).set (free_bSl _ _ _) (only1 (by omega)) (.slice A5 (actC m k0 k1 k2 k3).length c5); have H7 := (H6.sub (L' := [(B + 2 + 1, bOk), (B + 2, bSl A5 c5 (actC m k0 k1 k2 k3))]) swap2).set free_bOk (only1 (by omega)) (.bool true); have q15 := (H5.box (k := B + 2) (List.mem_cons_of_mem _ List.mem_cons_self)).cell; have q15f := (H5.box (k := B + 2) (List.mem_cons_of_mem _ List.mem_cons_self)).frozen; have q16 := (H6.box (k := B + 2 + 1) (List.mem_cons_of_mem _ List.mem_cons_self)).cell; have q16f := (H6.box (k := B + 2 + 1) (List.mem_cons_of_mem _ List.mem_cons_self)).frozen; have s16 := (H7.box (k := B + 2 + 1) List.mem_cons_self).cell))
        all_goals
          refine NoPanic.normal ?_
          go_wp2_with fail
          refine ⟨⟨i + 1, A5, c5, _, HI.out, by go_num, H7, hok5.up' (by omega), by have := HLM.out; omega⟩, ?_⟩
          have := HI.out
          simp [intOf]
          omega
      · have d1 : decide (i < sc.length) = false := decide_eq_false h1
        clear h1 h24
        go_wp2_with fail
        go_meet
        exact ⟨i, A3, c3, m, HI2.out, H, HOM.out, HLM.out⟩
    · have d24 : decide ((i : Int) < 24) = false := decide_eq_false (by omega)
      clear h24
      by_cases h1 : i < sc.length
      · have d1 : decide (i < sc.length) = true := decide_eq_true h1
        clear h1
        go_wp2_with fail
        go_meet
        exact ⟨i, A3, c3, m, HI2.out, H, HOM.out, HLM.out⟩
      · have d1 : decide (i < sc.length) = false := decide_eq_false h1
        clear h1
        go_wp2_with fail
        go_meet
        exact ⟨i, A3, c3, m, HI2.out, H, HOM.out, HLM.out⟩
end Go.Proofs.YteeigokkafcaaaaDoorRope
end
