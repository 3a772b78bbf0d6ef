/- Proved: the iterator over a list of ranges keeps its own copy of the list, gives all its places each once, and may be gone through again, also inside itself, and left early; for all inputs. -/
import Derived.Sort.QuietIn
import Derived.OwnWalkIn
import Derived.Test.YtmidiifgdloojaaProg
import Derived.Below
import Derived.Deep.Draws
import Derived.Deep.AppendLies
import Derived.Maps.AppendAt
import Derived.OwnWalk
import Derived.Laws.BytesArg
import Derived.Laws.MakeOwn
import Derived.Laws.OwnMore
import Derived.Deep.OwnRows
import Derived.Tactics
import Derived.Lib.ConvBytes
import Derived.Laws.Slices
import Derived.WalkKit
import Derived.KernelRfl
import Derived.RowKit3
import Derived.Deep.LoopGhost
import Derived.Deep.QuietTactic
import Derived.BigQuiet
import Derived.WideLaws
import Derived.Deep.DeepCutAuto
import Derived.Deep.CutBlock
import Derived.Deep.RegionHeld3
import Derived.Laws.Rows
import Derived.Lib.AppendStr
import Derived.ArgAppend
import Derived.Laws.IdiomCopy
import Derived.OrdersHeld
import Derived.Laws.BitsLemmas
import Derived.RowKit
import Derived.Sort.Grow
import Derived.RangeFuncNested
import Derived.RangeFuncBound
import Derived.RangeFuncCalls
import Derived.RangeFuncLeaves
import Derived.Shelf.Abstract
import Derived.Shelf.RegionOpen
import Derived.TacticsInMore
import Derived.LoopNIn
import Derived.LoopIn
import Derived.Lib.Hide
import Derived.IntWalk
import Derived.Test.YtmidiifgdloojaaClaimAgainW0
section
namespace Go
open Go.RowKit
section
variable {F : Fence} {n : Nat} {P : Program} {md : Region.Mode} {ops : Array Oper} {C : World → Prop}
def noDefer (ops : Array Oper) : Bool := ops.all fun o => match o.op with | .defer _ => false | _ => true
theorem noDefer_spec {ops : Array Oper} (h : noDefer ops = true) {i : Nat} {o : Oper} (hi : ops[i]? = some o) : ∀ c, o.op ≠ .defer c := by
  intro c e
  obtain ⟨h1, h2⟩ := Array.getElem?_eq_some_iff.1 hi
  have := (Array.all_eq_true.1 h) i h1
  rw [h2, e] at this
  cases this
theorem wpIn_of_quietR {o : Oper} {a : Act} {K : Act → Prop} {K' : Act → World → Prop} {Q' : Exit → Act → World → Prop} {w : World} (hnd : ∀ c, o.op ≠ .defer c) (hw : C w) (h : ∀ a w', C w' → K a → K' a w')
    (ha : o.askedIn F P a C) (hh : o.quietIn F n P a C K) : o.wpIn F n P a w K' Q' := by
  obtain ⟨v, h1, h2⟩ := hh
  have h3 := h1 w hw
  unfold Oper.quietAtIn at h3
  unfold Oper.wpIn
  refine ⟨ha w hw, ?_⟩
  rw [Oper.semAt_plain F _ _ hnd]
  generalize (execOp a.eval o).run P w = r at *
  cases r with
  | ok x w' =>
    cases x <;> simp only [Oper.quietUponIn] at h3 <;> simp only [Oper.uponIn]
    case value u =>
      obtain ⟨e1, e2⟩ := h3
      rw [e1, e2]
      exact h _ _ hw h2
    case skip =>
      obtain ⟨e1, e2⟩ := h3
      rw [e1, ← e2]
      exact h _ _ hw h2
    case enter f args =>
      obtain ⟨e1, hd, hc⟩ := h3
      rw [e1]
      exact ⟨hd, hc.mono fun e w'' ⟨he, hw''⟩ => by subst he; exact h _ _ hw'' h2⟩
  | halt x w' => simp only [Oper.quietUponIn] at h3
theorem wpOpIn_of_quietR {i : Nat} {a : Act} {K : Act → Prop} {K' : Act → World → Prop} {Q' : Exit → Act → World → Prop} {w : World} (hnd : noDefer ops = true) (hC : C w) (h : ∀ a w', C w' → K a → K' a w')
    (hh : qOpIn F n P ops C i K a) : wpOpIn F n P ops Q' i K' a w := by
  unfold qOpIn at hh
  unfold wpOpIn
  split
  · rename_i ho; simp only [ho] at hh; exact h _ _ hC hh
  · rename_i o ho
    simp only [ho] at hh
    obtain ⟨ha, hh⟩ := hh
    split
    · rename_i hw; simp only [hw, if_true] at hh; exact wpIn_of_quietR (noDefer_spec hnd ho) hC h ha hh
    · rename_i hw; simp only [hw] at hh; exact ⟨ha w hC, h _ _ hC hh⟩
theorem wpAnyIn_of_quietR {Q : Act → Prop} {Q' : Exit → Act → World → Prop} (hnd : noDefer ops = true) (hQ : ∀ a w, C w → Q a → Q' .normal a w) : ∀ (fuel : Nat) (listed : Array Bool) (a : Act) (w : World), C w →
    wpAnyQIn F n P md ops C Q fuel listed a → wpAnyIn F n P md ops Q' fuel listed a w
  | 0, _, _, _, hw, h => ⟨h.1, hQ _ _ hw h.2⟩
  | fuel + 1, _, _, _, hw, h => ⟨fun h0 => hQ _ _ hw (h.1 h0), fun i hi => wpOpIn_of_quietR hnd hw (fun a' w' hw' => wpAnyIn_of_quietR hnd hQ fuel _ a' w' hw') (h.2 i hi)⟩
theorem wpIn_region_quietR {id : Nat} {Q : Exit → Act → World → Prop} {a : Act} {w : World} {l : List Oper} (hnd : noDefer l.toArray = true) (hm : P.follows .mixedOrders = true) (hB : Region.lexB .any l.toArray = true)
    (h : wpQuietIn F n P l.toArray (fun w' => ∃ n, w' = w.drewN n) (fun a' => ∀ w', (∃ n, w' = w.drewN n) → Q .normal a' w') l a) : (Code.region id l.toArray true).wpIn F n P Q a w := by
  simp only [Region.lexB, Bool.and_eq_true] at hB
  refine wpIn_region_any hm (wpAnyIn_of_quietR (C := fun w' => ∃ n, w' = w.drewN n) (Q := fun a' => ∀ w', (∃ n, w' = w.drewN n) → Q .normal a' w') hnd (fun _ w' hw' h => h w' hw') _ _ _ _ ⟨1, rfl⟩ ?_)
  have := wpAnyQIn_lex (F := F) (n := n) (C := fun w' => ∃ n, w' = w.drewN n) (md := .any) hB.1 l.toArray.toList 0 (Array.replicate l.toArray.size false) a (by simp) (by simpa using hB.2) h
  simpa using this
end
end Go
end
section
namespace Go.Proofs.Ytmidiifgdloojaa.Pr
open Go.RowKit Go.Proofs.YtmidiifgdloojaaW.PrintWords Go.Proofs.YtmidiifgdloojaaW.PrintLast Go.Proofs.YtmidiifgdloojaaW.PrintMore
attribute [local go_sem] max2_int min2_int max_two min_two max_three min_three max_four min_four
set_option linter.unusedVariables false
set_option linter.unusedSimpArgs false
def errW : Option Int → Value
 | none => .nilIface
 | some c => .iface 0 (.int .i64 c)
theorem errW_none : errW none = .nilIface := rfl
theorem errW_some (c : Int) : errW (some c) = .iface 0 (.int .i64 c) := rfl
theorem info3 : (Try.prog.info? 3).map (fun i => (i.zero, i.size, i.bytes)) = some (some (.int .i64 0), 1, 8) := by kernel_rfl
theorem info4 : (Try.prog.info? 4).map (fun i => (i.zero, i.size, i.bytes)) = some (some (.bool false), 1, 1) := by kernel_rfl
theorem info22 : (Try.prog.info? 22).map (fun i => (i.zero, i.size, i.bytes)) = some (some (.slice none 0 0), 1, 24) := by kernel_rfl
theorem info36 : (Try.prog.info? 36).map (fun i => (i.zero, i.size, i.bytes)) = some (some (.agg #[(.int .i64 0), (.int .i64 0)]), 2, 16) := by kernel_rfl
structure S36 where
 f0 : Int
 f1 : Int
def z36 : S36 := ⟨(0 : Int), (0 : Int)⟩
def k36 : Kd S36 := Kd.iso (Kd.pair (Kd.int .i64) (Kd.int .i64)) (fun x : S36 => (x.f0, x.f1))
theorem k36_heap : Kd.Heap k36 := Kd.heap_iso _ (Kd.heap_pair (Kd.heap_int .i64) (Kd.heap_int .i64))
theorem k36_open {w : World} {x : S36} {cs : List Value} (h : k36.K w x cs) : cs = [.int .i64 x.f0, .int .i64 x.f1] := by
 obtain ⟨_, _, rfl, rfl, rfl⟩ := h
 exact rfl
theorem k36_openM {w : World} {base : Nat} {ok : Nat → Prop} {x : S36} {cs : List Value} (h : k36.M w base ok x cs) : cs = [.int .i64 x.f0, .int .i64 x.f1] := by
 obtain ⟨_, _, rfl, rfl, rfl⟩ := h
 exact rfl
theorem k36_mk (w : World) (x : S36)  : k36.K w x [.int .i64 x.f0, .int .i64 x.f1] := ⟨[.int .i64 x.f0], [.int .i64 x.f1], rfl, rfl, rfl⟩
theorem k36_mkM (w : World) (base : Nat) (ok : Nat → Prop) (x : S36)  : k36.M w base ok x [.int .i64 x.f0, .int .i64 x.f1] := ⟨[.int .i64 x.f0], [.int .i64 x.f1], rfl, rfl, rfl⟩
theorem k36_mkF (W : World) (ok : Nat → Prop) (x : S36) : Kd.FK k36 W ok x [.int .i64 x.f0, .int .i64 x.f1] := fun W2 _ => k36_mk W2 x
def rd_T36 (xs : List S36) (i : Int) : S36 := xs.getD i.toNat z36
theorem at_T36 {w : World} {A : Option Addr} {n : Nat} {xs : List S36} (h : Kd.C k36 w A n xs) (i : Int) (h0 : 0 ≤ i) (h1 : i < n) : ∃ ad , A = some ad ∧ w.cell? (ad.add (i.toNat * 2)) = some (.int .i64 (rd_T36 xs i).f0) ∧ w.cell? ⟨(ad.add (i.toNat * 2)).block, (ad.add (i.toNat * 2)).off + 1, none⟩ = some (.int .i64 (rd_T36 xs i).f1) := by
 obtain ⟨ad, c, e, _, hK, hc0⟩ := Kd.C_get h z36 i h0 h1
 have hc : ∀ j u, c[j]? = some u → w.cell? (ad.add (i.toNat * 2 + j)) = some u := hc0
 obtain rfl := k36_open hK
 exact ⟨ad, e, hc 0 _ rfl, by rw [← add_field _ _ 1 (by omega)]; exact hc 1 _ rfl⟩
def rd_L3 (xs : List (List S36)) (i : Int) : (List S36) := xs.getD i.toNat ([] : List S36)
theorem at_L3 {w : World} {A : Option Addr} {n : Nat} {xs : List (List S36)} (h : Kd.C (Kd.slice 36 k36) w A n xs) (i : Int) (h0 : 0 ≤ i) (h1 : i < n) : ∃ ad A0 c0, A = some ad ∧ w.cell? (ad.add i.toNat) = some (.slice A0 (rd_L3 xs i).length c0) ∧ (rd_L3 xs i).length ≤ c0 ∧ k36.C w A0 (rd_L3 xs i).length (rd_L3 xs i) := by
 obtain ⟨ad, c, e, _, hK, hc0⟩ := Kd.C_get h ([] : List S36) i h0 h1
 have hc : ∀ j u, c[j]? = some u → w.cell? (ad.add (i.toNat * 1 + j)) = some u := hc0
 obtain ⟨A0, c0, rfl, l0, g0⟩ := hK
 exact ⟨ad, A0, c0, e, by have hq := hc 0 _ rfl; rwa [Nat.mul_one, Nat.add_zero] at hq, l0, g0⟩
structure S76 where
 f0 : Int
 f1 : (List S36)
 f2 : (List S36)
 f3 : Int
 f4 : Int
def z76 : S76 := ⟨(0 : Int), ([] : List S36), ([] : List S36), (0 : Int), (0 : Int)⟩
def k76 : Kd S76 := Kd.iso (Kd.pair (Kd.int .i64) (Kd.pair (Kd.slice 36 k36) (Kd.pair (Kd.slice 36 k36) (Kd.pair (Kd.int .i64) (Kd.int .i64))))) (fun x : S76 => (x.f0, x.f1, x.f2, x.f3, x.f4))
theorem k76_heap : Kd.Heap k76 := Kd.heap_iso _ (Kd.heap_pair (Kd.heap_int .i64) (Kd.heap_pair (Kd.heap_slice 36 k36_heap) (Kd.heap_pair (Kd.heap_slice 36 k36_heap) (Kd.heap_pair (Kd.heap_int .i64) (Kd.heap_int .i64)))))
theorem k76_open {w : World} {x : S76} {cs : List Value} (h : k76.K w x cs) : ∃ A1 c1 A2 c2, cs = [.int .i64 x.f0, .slice A1 x.f1.length c1, .slice A2 x.f2.length c2, .int .i64 x.f3, .int .i64 x.f4] ∧ x.f1.length ≤ c1 ∧ k36.C w A1 x.f1.length x.f1 ∧ x.f2.length ≤ c2 ∧ k36.C w A2 x.f2.length x.f2 := by
 obtain ⟨_, _, rfl, rfl, ⟨_, _, rfl, ⟨A1, c1, rfl, l1, g1⟩, ⟨_, _, rfl, ⟨A2, c2, rfl, l2, g2⟩, ⟨_, _, rfl, rfl, rfl⟩⟩⟩⟩ := h
 exact ⟨A1, c1, A2, c2, rfl, l1, g1, l2, g2⟩
theorem k76_openM {w : World} {base : Nat} {ok : Nat → Prop} {x : S76} {cs : List Value} (h : k76.M w base ok x cs) : ∃ v1 v2, cs = [.int .i64 x.f0, v1, v2, .int .i64 x.f3, .int .i64 x.f4] ∧ k36.R 36 w base ok v1 x.f1 ∧ k36.R 36 w base ok v2 x.f2 := by
 obtain ⟨_, _, rfl, rfl, ⟨_, _, rfl, ⟨v1, rfl, g1⟩, ⟨_, _, rfl, ⟨v2, rfl, g2⟩, ⟨_, _, rfl, rfl, rfl⟩⟩⟩⟩ := h
 exact ⟨v1, v2, rfl, g1, g2⟩
theorem k76_mk (w : World) (x : S76) {A1 : Option Addr} {c1 : Nat} (l1 : x.f1.length ≤ c1) (g1 : k36.C w A1 x.f1.length x.f1) {A2 : Option Addr} {c2 : Nat} (l2 : x.f2.length ≤ c2) (g2 : k36.C w A2 x.f2.length x.f2) : k76.K w x [.int .i64 x.f0, .slice A1 x.f1.length c1, .slice A2 x.f2.length c2, .int .i64 x.f3, .int .i64 x.f4] := ⟨[.int .i64 x.f0], [.slice A1 x.f1.length c1, .slice A2 x.f2.length c2, .int .i64 x.f3, .int .i64 x.f4], rfl, rfl, ⟨[.slice A1 x.f1.length c1], [.slice A2 x.f2.length c2, .int .i64 x.f3, .int .i64 x.f4], rfl, ⟨A1, c1, rfl, l1, g1⟩, ⟨[.slice A2 x.f2.length c2], [.int .i64 x.f3, .int .i64 x.f4], rfl, ⟨A2, c2, rfl, l2, g2⟩, ⟨[.int .i64 x.f3], [.int .i64 x.f4], rfl, rfl, rfl⟩⟩⟩⟩
theorem k76_mkM (w : World) (base : Nat) (ok : Nat → Prop) (x : S76) {v1 : Value} (g1 : k36.R 36 w base ok v1 x.f1) {v2 : Value} (g2 : k36.R 36 w base ok v2 x.f2) : k76.M w base ok x [.int .i64 x.f0, v1, v2, .int .i64 x.f3, .int .i64 x.f4] := ⟨[.int .i64 x.f0], [v1, v2, .int .i64 x.f3, .int .i64 x.f4], rfl, rfl, ⟨[v1], [v2, .int .i64 x.f3, .int .i64 x.f4], rfl, ⟨v1, rfl, g1⟩, ⟨[v2], [.int .i64 x.f3, .int .i64 x.f4], rfl, ⟨v2, rfl, g2⟩, ⟨[.int .i64 x.f3], [.int .i64 x.f4], rfl, rfl, rfl⟩⟩⟩⟩
theorem k76_openF {W : World} {ok : Nat → Prop} {x : S76} {cs : List Value} (h : Kd.FK k76 W ok x cs) : ∃ A1 c1 A2 c2, cs = [.int .i64 x.f0, .slice A1 x.f1.length c1, .slice A2 x.f2.length c2, .int .i64 x.f3, .int .i64 x.f4] ∧ x.f1.length ≤ c1 ∧ Kd.F k36 W ok A1 x.f1.length x.f1 ∧ x.f2.length ≤ c2 ∧ Kd.F k36 W ok A2 x.f2.length x.f2 := by
 obtain ⟨A1, c1, A2, c2, rfl, l1, _, l2, _⟩ := k76_open (Kd.FK_now h)
 exact ⟨A1, c1, A2, c2, rfl, l1, (fun W' hW => by obtain ⟨A1_, c1_, A2_, c2_, he, l1_, g1_, l2_, g2_⟩ := k76_open (h W' hW); injection (Option.some.inj (show some (Value.slice A1 x.f1.length c1) = some (Value.slice A1_ x.f1.length c1_) from congrArg (fun l => l[1]?) he)) with ha_ _ _; rw [ha_]; exact g1_), l2, (fun W' hW => by obtain ⟨A1_, c1_, A2_, c2_, he, l1_, g1_, l2_, g2_⟩ := k76_open (h W' hW); injection (Option.some.inj (show some (Value.slice A2 x.f2.length c2) = some (Value.slice A2_ x.f2.length c2_) from congrArg (fun l => l[2]?) he)) with ha_ _ _; rw [ha_]; exact g2_)⟩
theorem k76_mkF (W : World) (ok : Nat → Prop) (x : S76) {A1 : Option Addr} {c1 : Nat} (l1 : x.f1.length ≤ c1) (g1 : Kd.F k36 W ok A1 x.f1.length x.f1) {A2 : Option Addr} {c2 : Nat} (l2 : x.f2.length ≤ c2) (g2 : Kd.F k36 W ok A2 x.f2.length x.f2) : Kd.FK k76 W ok x [.int .i64 x.f0, .slice A1 x.f1.length c1, .slice A2 x.f2.length c2, .int .i64 x.f3, .int .i64 x.f4] := fun W2 hW => k76_mk W2 x l1 (g1 W2 hW) l2 (g2 W2 hW)
def rd_T76 (xs : List S76) (i : Int) : S76 := xs.getD i.toNat z76
theorem at_T76 {w : World} {A : Option Addr} {n : Nat} {xs : List S76} (h : Kd.C k76 w A n xs) (i : Int) (h0 : 0 ≤ i) (h1 : i < n) : ∃ ad A1 c1 A2 c2, A = some ad ∧ w.cell? (ad.add (i.toNat * 5)) = some (.int .i64 (rd_T76 xs i).f0) ∧ w.cell? ⟨(ad.add (i.toNat * 5)).block, (ad.add (i.toNat * 5)).off + 1, none⟩ = some (.slice A1 (rd_T76 xs i).f1.length c1) ∧ w.cell? ⟨(ad.add (i.toNat * 5)).block, (ad.add (i.toNat * 5)).off + 2, none⟩ = some (.slice A2 (rd_T76 xs i).f2.length c2) ∧ w.cell? ⟨(ad.add (i.toNat * 5)).block, (ad.add (i.toNat * 5)).off + 3, none⟩ = some (.int .i64 (rd_T76 xs i).f3) ∧ w.cell? ⟨(ad.add (i.toNat * 5)).block, (ad.add (i.toNat * 5)).off + 4, none⟩ = some (.int .i64 (rd_T76 xs i).f4) ∧ (rd_T76 xs i).f1.length ≤ c1 ∧ k36.C w A1 (rd_T76 xs i).f1.length (rd_T76 xs i).f1 ∧ (rd_T76 xs i).f2.length ≤ c2 ∧ k36.C w A2 (rd_T76 xs i).f2.length (rd_T76 xs i).f2 := by
 obtain ⟨ad, c, e, _, hK, hc0⟩ := Kd.C_get h z76 i h0 h1
 have hc : ∀ j u, c[j]? = some u → w.cell? (ad.add (i.toNat * 5 + j)) = some u := hc0
 obtain ⟨A1, c1, A2, c2, rfl, l1, g1, l2, g2⟩ := k76_open hK
 exact ⟨ad, A1, c1, A2, c2, e, hc 0 _ rfl, by rw [← add_field _ _ 1 (by omega)]; exact hc 1 _ rfl, by rw [← add_field _ _ 2 (by omega)]; exact hc 2 _ rfl, by rw [← add_field _ _ 3 (by omega)]; exact hc 3 _ rfl, by rw [← add_field _ _ 4 (by omega)]; exact hc 4 _ rfl, l1, g1, l2, g2⟩
end Go.Proofs.Ytmidiifgdloojaa.Pr
end
section
namespace Go.Proofs.Ytmidiifgdloojaa.Pr
open Go.RowKit Go.Proofs.YtmidiifgdloojaaW.PrintWords Go.Proofs.YtmidiifgdloojaaW.PrintLast Go.Proofs.YtmidiifgdloojaaW.PrintMore
attribute [local go_sem] max2_int min2_int max_two min_two max_three min_three max_four min_four
set_option linter.unusedVariables false
set_option linter.unusedSimpArgs false
mutual
def span_Check.l0 : Nat → List (S36) → List (S36) → Int → Int → Option (Int × Int)
 | 0, _, _, _, _ => none
 | k + 1, x0, x9, x10, x11 => if x11 < x10 then (if 0 ≤ x11 then (if x11 < (x9.length : Int) then (if ((rd_T36 x9 x11).f0) < 0 then (span_Check.j1 k x0 x11 x9 x10 x11 true ((rd_T36 x9 x11).f0) ((rd_T36 x9 x11).f1)) else (if ((rd_T36 x9 x11).f1) > 1048576 then (span_Check.j1 k x0 x11 x9 x10 x11 true ((rd_T36 x9 x11).f0) ((rd_T36 x9 x11).f1)) else (span_Check.j1 k x0 x11 x9 x10 x11 (decide (((rd_T36 x9 x11).f0) ≥ ((rd_T36 x9 x11).f1))) ((rd_T36 x9 x11).f0) ((rd_T36 x9 x11).f1)))) else (none)) else (none)) else (some (0, 0))
def span_Check.j1 : Nat → List (S36) → Int → List (S36) → Int → Int → Bool → Int → Int → Option (Int × Int)
 | 0, _, _, _, _, _, _, _, _ => none
 | k + 1, x0, x4, x9, x10, x11, x30, x122000, x122001 => if x30 = true then (some (x4, 20)) else (if x4 > 0 then (if 0 ≤ (wrap64 (x4 - 1)) then (if (wrap64 (x4 - 1)) < (x0.length : Int) then (if x122000 ≤ ((rd_T36 x0 (wrap64 (x4 - 1))).f1) then (some (x4, 22)) else (span_Check.l0 k x0 x9 x10 (wrap64 (x11 + 1)))) else (none)) else (none)) else (span_Check.l0 k x0 x9 x10 (wrap64 (x11 + 1))))
end
def span_Check.f (k : Nat) (l0 : List (S36)) : Option (Int × Int) := if (l0.length : Int) > 32768 then (some (32768, 21)) else (span_Check.l0 k l0 l0 (l0.length : Int) 0)
theorem span_Check.mono_l : ∀ k, (∀ y0 y1 y2 y3, LeO (span_Check.l0 k y0 y1 y2 y3) (span_Check.l0 (k + 1) y0 y1 y2 y3)) ∧ (∀ y0 y1 y2 y3 y4 y5 y6 y7, LeO (span_Check.j1 k y0 y1 y2 y3 y4 y5 y6 y7) (span_Check.j1 (k + 1) y0 y1 y2 y3 y4 y5 y6 y7))
 | 0 => ⟨fun _ _ _ _ r h => by simp [span_Check.l0] at h, fun _ _ _ _ _ _ _ _ r h => by simp [span_Check.j1] at h⟩
 | k + 1 => by
  obtain ⟨ih0, ih1⟩ := span_Check.mono_l k
  refine ⟨?_, ?_⟩
  ·intro y0 y1 y2 y3
   unfold span_Check.l0
   repeat' first
   | (with_reducible exact ih0 _ _ _ _)
   | (with_reducible exact ih1 _ _ _ _ _ _ _ _)
   | (with_reducible exact LeO.refl _)
   | (with_reducible exact LeO.none _)
   | (with_reducible refine LeO.ite ?_ ?_)
   | (with_reducible refine LeO.bind ?_ (fun _ => ?_))
   | exact ih0 _ _ _ _
   | exact ih1 _ _ _ _ _ _ _ _
   | exact LeO.none _
   | refine LeO.ite ?_ ?_
   | refine LeO.bind ?_ (fun _ => ?_)
  ·intro y0 y1 y2 y3 y4 y5 y6 y7
   unfold span_Check.j1
   repeat' first
   | (with_reducible exact ih0 _ _ _ _)
   | (with_reducible exact ih1 _ _ _ _ _ _ _ _)
   | (with_reducible exact LeO.refl _)
   | (with_reducible exact LeO.none _)
   | (with_reducible refine LeO.ite ?_ ?_)
   | (with_reducible refine LeO.bind ?_ (fun _ => ?_))
   | exact ih0 _ _ _ _
   | exact ih1 _ _ _ _ _ _ _ _
   | exact LeO.none _
   | refine LeO.ite ?_ ?_
   | refine LeO.bind ?_ (fun _ => ?_)
theorem span_Check.mono : ∀ a0 k, LeO (span_Check.f k a0) (span_Check.f (k + 1) a0) := by
 intro a0 k
 obtain ⟨ih0, ih1⟩ := span_Check.mono_l k
 unfold span_Check.f
 repeat' first
   | (with_reducible exact ih0 _ _ _ _)
   | (with_reducible exact ih1 _ _ _ _ _ _ _ _)
   | (with_reducible exact LeO.refl _)
   | (with_reducible exact LeO.none _)
   | (with_reducible refine LeO.ite ?_ ?_)
   | (with_reducible refine LeO.bind ?_ (fun _ => ?_))
   | exact ih0 _ _ _ _
   | exact ih1 _ _ _ _ _ _ _ _
   | exact LeO.none _
   | refine LeO.ite ?_ ?_
   | refine LeO.bind ?_ (fun _ => ?_)
set_option maxHeartbeats 8000000 in
set_option maxRecDepth 100000 in
theorem span_Check.calls (k : Nat) (A0 : Option Addr) (c0 : Nat) (l0 : List (S36)) (r1 : Int) (r2 : Int) (w : World) (hr0 : Kd.C k36 w A0 l0.length l0) (hc0 : l0.length ≤ c0) (h : span_Check.f k l0 = some (r1, r2)) :
  Calls Try.prog 51 #[.slice A0 l0.length c0] w fun e w' => e = .returned (.tuple #[.int .i64 r1, .int .i64 r2]) ∧ Below w.heap.size w w' := by
 have hu36 := Try.underlying36
 have HR0 := Aside0.mk hr0
 have HC0 := Aside0.mk hc0
 clear hr0 hc0
 have HB := Aside0.mk (Below.refl w.heap.size w)
 have H : (if (l0.length : Int) > 32768 then (some (32768, 21)) else (span_Check.l0 k l0 l0 (l0.length : Int) 0)) = some (r1, r2) := h
 clear h
 by_cases c2 : (l0.length : Int) > 32768
 ·rw [if_pos c2] at H
  have c2b0 : decide (32768 < (l0.length : Int)) = true := decide_eq_true c2
  have c2b1 : decide (32768 < l0.length) = true := decide_eq_true (by omega)
  clear c2
  simp only [Option.some.injEq, Prod.mk.injEq] at H
  obtain ⟨rfl, rfl⟩ := H
  go_enter Try.func51, Try.ntmps51
  go_wp2
  repeat (go_quiet (fail); try go_wp2)
  go_ret2
  exact ⟨by first | rfl | (simp [errW_none, errW_some] <;> rfl) | (simp [*, errW_none, errW_some] <;> rfl), by repeat (first | (with_reducible first | exact HB.out | apply below_alloc | apply pw_below_drewN | apply below_drew1) | exact HB.out)⟩
 ·rw [if_neg c2] at H
  have c2b0 : decide (32768 < (l0.length : Int)) = false := decide_eq_false c2
  have c2b1 : decide (32768 < l0.length) = false := decide_eq_false (by omega)
  clear c2
  have H' := Aside0.mk H
  clear H
  go_enter Try.func51, Try.ntmps51
  go_wp2
  repeat (go_quiet (fail); try go_wp2)
  go_loopg [11] k (fun kq v11 w' => ∃ (x11_1 : Int), v11 = .int .i64 x11_1 ∧ Aside0 (span_Check.l0 kq l0 l0 (l0.length : Int) x11_1 = some (r1, r2)) ∧ Aside0 (kq ≤ k) ∧ Aside0 (Below w.heap.size w w'))
  case atStart => exact ⟨(0), (by first | rfl | (simp; done) | (simp [*]; done)), H', ⟨Nat.le_refl _⟩, ⟨by repeat (first | (with_reducible first | exact HB.out | apply below_alloc | apply pw_below_drewN | apply below_drew1) | exact HB.out)⟩⟩
  case round =>
   clear H'
   try clear c2
   try clear c2b0
   try clear c2b1
   try clear p2
   obtain ⟨x11_1, rfl, HA, HK1, HB⟩ := hrel
   cases gk with
   | zero => exact absurd HA.out (by simp [span_Check.l0])
   | succ k1 =>
    have H := HA.out
    clear HA
    simp only [span_Check.l0] at H
    by_cases c3 : x11_1 < (l0.length : Int)
    ·rw [if_pos c3] at H
     have c3b0 : decide (x11_1 < (l0.length : Int)) = true := decide_eq_true c3
     clear c3
     by_cases c4 : 0 ≤ x11_1
     ·rw [if_pos c4] at H
      have c4b0 : decide (0 ≤ x11_1) = true := decide_eq_true c4
      clear c4
      by_cases c5 : x11_1 < (l0.length : Int)
      ·rw [if_pos c5] at H
       have c5b0 : decide (x11_1 < (l0.length : Int)) = true := decide_eq_true c5
       clear c5
       have HC6 := Aside0.mk H
       clear H
       have p120 : 0 ≤ (x11_1 : Int) := of_decide_eq_true (by first | (with_reducible assumption) | assumption)
       have q120 : x11_1 < (l0.length : Int) := of_decide_eq_true (by first | (with_reducible assumption) | assumption)
       obtain ⟨ad120, e120, hx120_0, hx120_1⟩ := at_T36 HR0.out x11_1 p120 q120
       cases e120
       replace hx120_0 := (HB.out.cell (World.block_lt_of_cell? w _ hx120_0)).trans hx120_0
       replace hx120_1 := (HB.out.cell (World.block_lt_of_cell? w _ hx120_1)).trans hx120_1
       replace p120 := eq_true p120
       replace q120 := eq_true q120
       go_upto_region 6 with (first | ((with_reducible refine gate_dst (N := 5) rfl ?_); refine box_event ?hg (N := 5) ?hd (cs := #[.int .i64 0, .int .i64 0]) (t := 36) ?hr ?_; (case hd => rfl); (case hg => rfl); (case hr => first | (go_simp; done) | (go_simp; rfl)); intro gb121 hg w7 hbox hb; have n0_ := Aside0.mk (below_step (by repeat (first | (with_reducible first | exact HB.out | apply below_alloc | apply pw_below_drewN | apply below_drew1) | exact HB.out)) hb); have n1_ := Aside0.mk (hbox); have n2_ := Aside0.mk ((by rw [hg]; exact (below_size (by repeat (first | (with_reducible first | exact HB.out | apply below_alloc | apply pw_below_drewN | apply below_drew1) | exact HB.out))) : w.heap.size ≤ gb121)); have n3_ := Aside0.mk ((by rw [hg]; exact (below_size (by repeat (first | (with_reducible first | exact HB.out | apply below_alloc | apply pw_below_drewN | apply below_drew1) | exact HB.out))) : w.heap.size ≤ gb121)); clear HB; have HB := n0_; have BK121 := n1_; have GW121 := n2_; have GE121 := n3_; clear n0_ n1_ n2_ n3_; clear hb hbox hg; have hcz8_0 : w7.cell? ⟨gb121, 0, none⟩ = some (.int .i64 0) := (blk_cell BK121.out 0).trans rfl; have hcz8_1 : w7.cell? ⟨gb121, 1, none⟩ = some (.int .i64 0) := (blk_cell BK121.out 1).trans rfl; have hfz8_0 := blk_frozen BK121.out 0; have hfz8_1 := blk_frozen BK121.out 1))
       repeat (go_quiet (first | ((with_reducible refine gate_dst (N := 5) rfl ?_); refine box_event ?hg (N := 5) ?hd (cs := #[.int .i64 0, .int .i64 0]) (t := 36) ?hr ?_; (case hd => rfl); (case hg => rfl); (case hr => first | (go_simp; done) | (go_simp; rfl)); intro gb121 hg w7 hbox hb; have n0_ := Aside0.mk (below_step (by repeat (first | (with_reducible first | exact HB.out | apply below_alloc | apply pw_below_drewN | apply below_drew1) | exact HB.out)) hb); have n1_ := Aside0.mk (hbox); have n2_ := Aside0.mk ((by rw [hg]; exact (below_size (by repeat (first | (with_reducible first | exact HB.out | apply below_alloc | apply pw_below_drewN | apply below_drew1) | exact HB.out))) : w.heap.size ≤ gb121)); have n3_ := Aside0.mk ((by rw [hg]; exact (below_size (by repeat (first | (with_reducible first | exact HB.out | apply below_alloc | apply pw_below_drewN | apply below_drew1) | exact HB.out))) : w.heap.size ≤ gb121)); clear HB; have HB := n0_; have BK121 := n1_; have GW121 := n2_; have GE121 := n3_; clear n0_ n1_ n2_ n3_; clear hb hbox hg; have hcz8_0 : w7.cell? ⟨gb121, 0, none⟩ = some (.int .i64 0) := (blk_cell BK121.out 0).trans rfl; have hcz8_1 : w7.cell? ⟨gb121, 1, none⟩ = some (.int .i64 0) := (blk_cell BK121.out 1).trans rfl; have hfz8_0 := blk_frozen BK121.out 0; have hfz8_1 := blk_frozen BK121.out 1)); go_upto_region 6 with (first | ((with_reducible refine gate_dst (N := 5) rfl ?_); refine box_event ?hg (N := 5) ?hd (cs := #[.int .i64 0, .int .i64 0]) (t := 36) ?hr ?_; (case hd => rfl); (case hg => rfl); (case hr => first | (go_simp; done) | (go_simp; rfl)); intro gb121 hg w7 hbox hb; have n0_ := Aside0.mk (below_step (by repeat (first | (with_reducible first | exact HB.out | apply below_alloc | apply pw_below_drewN | apply below_drew1) | exact HB.out)) hb); have n1_ := Aside0.mk (hbox); have n2_ := Aside0.mk ((by rw [hg]; exact (below_size (by repeat (first | (with_reducible first | exact HB.out | apply below_alloc | apply pw_below_drewN | apply below_drew1) | exact HB.out))) : w.heap.size ≤ gb121)); have n3_ := Aside0.mk ((by rw [hg]; exact (below_size (by repeat (first | (with_reducible first | exact HB.out | apply below_alloc | apply pw_below_drewN | apply below_drew1) | exact HB.out))) : w.heap.size ≤ gb121)); clear HB; have HB := n0_; have BK121 := n1_; have GW121 := n2_; have GE121 := n3_; clear n0_ n1_ n2_ n3_; clear hb hbox hg; have hcz8_0 : w7.cell? ⟨gb121, 0, none⟩ = some (.int .i64 0) := (blk_cell BK121.out 0).trans rfl; have hcz8_1 : w7.cell? ⟨gb121, 1, none⟩ = some (.int .i64 0) := (blk_cell BK121.out 1).trans rfl; have hfz8_0 := blk_frozen BK121.out 0; have hfz8_1 := blk_frozen BK121.out 1)))
       (try simp only [Act.put, List.setIfInBounds_toArray, List.set_cons_zero, List.set_cons_succ])
       go_cut [30] (fun v30 wc => ∃ (kq : Nat) (x30_5 : Bool), v30 = .bool x30_5 ∧ Aside0 (span_Check.j1 kq l0 x11_1 l0 (l0.length : Int) x11_1 x30_5 ((rd_T36 l0 x11_1).f0) ((rd_T36 l0 x11_1).f1) = some (r1, r2)) ∧ Aside0 (kq ≤ k1) ∧ Aside0 (wc.heap[gb121]? = some (.cells #[.int .i64 ((rd_T36 l0 x11_1).f0), .int .i64 ((rd_T36 l0 x11_1).f1)] 36 (0, 0))) ∧ Aside0 (Below w.heap.size w wc))
       case first =>
        have H := HC6.out
        clear HC6
        by_cases c9 : ((rd_T36 l0 x11_1).f0) < 0
        ·rw [if_pos c9] at H
         have c9b0 : decide (((rd_T36 l0 x11_1).f0) < 0) = true := decide_eq_true c9
         clear c9
         (first | rw [c9b0] | (simp only [i64_w, i32_w]; rw [c9b0]) | skip)
         have H' := Aside0.mk H
         clear H
         have hcz10_0 : w7.cell? ⟨gb121, 0, none⟩ = some (.int .i64 0) := (blk_cell BK121.out 0).trans rfl
         have hcz10_1 : w7.cell? ⟨gb121, 1, none⟩ = some (.int .i64 0) := (blk_cell BK121.out 1).trans rfl
         have hfz10_0 := blk_frozen BK121.out 0
         have hfz10_1 := blk_frozen BK121.out 1
         go_wp2
         repeat (go_quiet (fail); try go_wp2)
         go_meet
         case rel => exact ⟨_, (true), (by first | rfl | (simp; done) | (simp [*]; done)), H', ⟨by have := HK1.out; first | omega | exact Nat.le_refl _⟩, ⟨by (with_reducible repeat (first | refine blk_drewN ?_ _ | refine blk_drew ?_ | refine blk_alloc ?_ _)); refine blk_put (cs := #[.int .i64 ((rd_T36 l0 x11_1).f0), .int .i64 0]) ?_ 1 _ rfl; (with_reducible repeat (first | refine blk_drewN ?_ _ | refine blk_drew ?_ | refine blk_alloc ?_ _)); refine blk_put (cs := #[.int .i64 0, .int .i64 0]) ?_ 0 _ rfl; (with_reducible repeat (first | refine blk_drewN ?_ _ | refine blk_drew ?_ | refine blk_alloc ?_ _)); exact BK121.out⟩, ⟨by repeat (first | (with_reducible first | exact HB.out | apply below_alloc | apply pw_below_drewN | apply below_drew1 | refine below_set ?_ GE121.out) | exact HB.out)⟩⟩
        ·rw [if_neg c9] at H
         have c9b0 : decide (((rd_T36 l0 x11_1).f0) < 0) = false := decide_eq_false c9
         clear c9
         (first | rw [c9b0] | (simp only [i64_w, i32_w]; rw [c9b0]) | skip)
         by_cases c11 : ((rd_T36 l0 x11_1).f1) > 1048576
         ·rw [if_pos c11] at H
          have c11b0 : decide (1048576 < ((rd_T36 l0 x11_1).f1)) = true := decide_eq_true c11
          clear c11
          have H' := Aside0.mk H
          clear H
          have hcz12_0 : w7.cell? ⟨gb121, 0, none⟩ = some (.int .i64 0) := (blk_cell BK121.out 0).trans rfl
          have hcz12_1 : w7.cell? ⟨gb121, 1, none⟩ = some (.int .i64 0) := (blk_cell BK121.out 1).trans rfl
          have hfz12_0 := blk_frozen BK121.out 0
          have hfz12_1 := blk_frozen BK121.out 1
          go_wp2
          repeat (go_quiet (fail); try go_wp2)
          go_meet
          case rel => exact ⟨_, (true), (by first | rfl | (simp; done) | (simp [*]; done)), H', ⟨by have := HK1.out; first | omega | exact Nat.le_refl _⟩, ⟨by (with_reducible repeat (first | refine blk_drewN ?_ _ | refine blk_drew ?_ | refine blk_alloc ?_ _)); refine blk_put (cs := #[.int .i64 ((rd_T36 l0 x11_1).f0), .int .i64 0]) ?_ 1 _ rfl; (with_reducible repeat (first | refine blk_drewN ?_ _ | refine blk_drew ?_ | refine blk_alloc ?_ _)); refine blk_put (cs := #[.int .i64 0, .int .i64 0]) ?_ 0 _ rfl; (with_reducible repeat (first | refine blk_drewN ?_ _ | refine blk_drew ?_ | refine blk_alloc ?_ _)); exact BK121.out⟩, ⟨by repeat (first | (with_reducible first | exact HB.out | apply below_alloc | apply pw_below_drewN | apply below_drew1 | refine below_set ?_ GE121.out) | exact HB.out)⟩⟩
         ·rw [if_neg c11] at H
          have c11b0 : decide (1048576 < ((rd_T36 l0 x11_1).f1)) = false := decide_eq_false c11
          clear c11
          have H' := Aside0.mk H
          clear H
          have hcz13_0 : w7.cell? ⟨gb121, 0, none⟩ = some (.int .i64 0) := (blk_cell BK121.out 0).trans rfl
          have hcz13_1 : w7.cell? ⟨gb121, 1, none⟩ = some (.int .i64 0) := (blk_cell BK121.out 1).trans rfl
          have hfz13_0 := blk_frozen BK121.out 0
          have hfz13_1 := blk_frozen BK121.out 1
          go_wp2
          repeat (go_quiet (fail); try go_wp2)
          go_meet
          case rel => exact ⟨_, (decide (((rd_T36 l0 x11_1).f0) ≥ ((rd_T36 l0 x11_1).f1))), (by first | rfl | (simp; done) | (simp [*]; done)), H', ⟨by have := HK1.out; first | omega | exact Nat.le_refl _⟩, ⟨by (with_reducible repeat (first | refine blk_drewN ?_ _ | refine blk_drew ?_ | refine blk_alloc ?_ _)); refine blk_put (cs := #[.int .i64 ((rd_T36 l0 x11_1).f0), .int .i64 0]) ?_ 1 _ rfl; (with_reducible repeat (first | refine blk_drewN ?_ _ | refine blk_drew ?_ | refine blk_alloc ?_ _)); refine blk_put (cs := #[.int .i64 0, .int .i64 0]) ?_ 0 _ rfl; (with_reducible repeat (first | refine blk_drewN ?_ _ | refine blk_drew ?_ | refine blk_alloc ?_ _)); exact BK121.out⟩, ⟨by repeat (first | (with_reducible first | exact HB.out | apply below_alloc | apply pw_below_drewN | apply below_drew1 | refine below_set ?_ GE121.out) | exact HB.out)⟩⟩
       case rest =>
        clear HC6
        try clear c1
        try clear p1
        try clear q1
        try clear hx1
        try clear c2
        try clear c2b0
        try clear c2b1
        try clear p2
        try clear c3
        try clear c3b0
        try clear c4
        try clear c4b0
        try clear c5
        try clear c5b0
        try clear c9
        try clear c9b0
        try clear c11
        try clear c11b0
        try clear p12
        try clear q12
        try clear hx12
        try clear hcz10_0
        try clear hcz10_1
        try clear hcz12_0
        try clear hcz12_1
        try clear hcz13_0
        try clear hcz13_1
        try clear hcz8_0
        try clear hcz8_1
        try clear hfz10_0
        try clear hfz10_1
        try clear hfz12_0
        try clear hfz12_1
        try clear hfz13_0
        try clear hfz13_1
        try clear hfz8_0
        try clear hfz8_1
        try clear hx120_0
        try clear hx120_1
        try clear p120
        try clear p2
        try clear q120
        obtain ⟨kq, x30_5, rfl, HA, HJ5, BK121, HB⟩ := hcut
        cases kq with
        | zero => exact absurd HA.out (by simp [span_Check.j1])
        | succ kj5 =>
         have H := HA.out
         clear HA
         simp only [span_Check.j1] at H
         by_cases c14 : x30_5 = true
         ·subst c14
          have H1 : (some (x11_1, 20)) = some (r1, r2) := by rw [if_pos rfl] at H; exact H
          clear H
          have H := H1
          clear H1
          simp only [Option.some.injEq, Prod.mk.injEq] at H
          obtain ⟨rfl, rfl⟩ := H
          go_wp2
          repeat (go_quiet (fail); try go_wp2)
          go_ret2
          exact ⟨by first | rfl | (simp [errW_none, errW_some] <;> rfl) | (simp [*, errW_none, errW_some] <;> rfl), by repeat (first | (with_reducible first | exact HB.out | apply below_alloc | apply pw_below_drewN | apply below_drew1 | refine below_set ?_ GE121.out) | exact HB.out)⟩
         ·replace c14 := Bool.eq_false_iff.mpr c14
          subst c14
          have H1 : (if x11_1 > 0 then (if 0 ≤ (wrap64 (x11_1 - 1)) then (if (wrap64 (x11_1 - 1)) < (l0.length : Int) then (if ((rd_T36 l0 x11_1).f0) ≤ ((rd_T36 l0 (wrap64 (x11_1 - 1))).f1) then (some (x11_1, 22)) else (span_Check.l0 kj5 l0 l0 (l0.length : Int) (wrap64 (x11_1 + 1)))) else (none)) else (none)) else (span_Check.l0 kj5 l0 l0 (l0.length : Int) (wrap64 (x11_1 + 1)))) = some (r1, r2) := by rw [if_neg (show ¬ (false = true) by decide)] at H; exact H
          clear H
          have H := H1
          clear H1
          by_cases c15 : x11_1 > 0
          ·rw [if_pos c15] at H
           have c15b0 : decide (0 < x11_1) = true := decide_eq_true c15
           clear c15
           obtain ⟨ji16, hji16⟩ : ∃ j_ : Int, (wrap64 (x11_1 - 1)) = j_ := ⟨_, rfl⟩
           replace H : (if 0 ≤ (ji16) then (if (ji16) < (l0.length : Int) then (if ((rd_T36 l0 x11_1).f0) ≤ ((rd_T36 l0 (ji16)).f1) then (some (x11_1, 22)) else (span_Check.l0 kj5 l0 l0 (l0.length : Int) (wrap64 (x11_1 + 1)))) else (none)) else (none)) = some (r1, r2) := by first | (rw [hji16] at H; exact H) | (simp only [hji16] at H ⊢; exact H)
           have hji16w : (IntKind.i64.wrap (x11_1 - 1)) = ji16 := (i64_w _).trans hji16
           by_cases c17 : 0 ≤ (ji16)
           ·rw [if_pos c17] at H
            have c17b0 : decide (0 ≤ (ji16)) = true := decide_eq_true c17
            clear c17
            by_cases c18 : (ji16) < (l0.length : Int)
            ·rw [if_pos c18] at H
             have c18b0 : decide ((ji16) < (l0.length : Int)) = true := decide_eq_true c18
             clear c18
             by_cases c19 : ((rd_T36 l0 x11_1).f0) ≤ ((rd_T36 l0 (ji16)).f1)
             ·rw [if_pos c19] at H
              have c19b0 : decide (((rd_T36 l0 x11_1).f0) ≤ ((rd_T36 l0 (ji16)).f1)) = true := decide_eq_true c19
              clear c19
              simp only [Option.some.injEq, Prod.mk.injEq] at H
              obtain ⟨rfl, rfl⟩ := H
              have hcz20_0 : wc.cell? ⟨gb121, 0, none⟩ = some (.int .i64 ((rd_T36 l0 x11_1).f0)) := (blk_cell BK121.out 0).trans rfl
              have hcz20_1 : wc.cell? ⟨gb121, 1, none⟩ = some (.int .i64 ((rd_T36 l0 x11_1).f1)) := (blk_cell BK121.out 1).trans rfl
              have hfz20_0 := blk_frozen BK121.out 0
              have hfz20_1 := blk_frozen BK121.out 1
              have p122 : 0 ≤ ((ji16) : Int) := of_decide_eq_true (by first | (with_reducible assumption) | assumption)
              have q122 : (ji16) < (l0.length : Int) := of_decide_eq_true (by first | (with_reducible assumption) | assumption)
              obtain ⟨ad122, e122, hx122_0, hx122_1⟩ := at_T36 HR0.out (ji16) p122 q122
              obtain rfl : ad120 = ad122 := (by injection e122)
              replace hx122_0 := (HB.out.cell (World.block_lt_of_cell? w _ hx122_0)).trans hx122_0
              replace hx122_1 := (HB.out.cell (World.block_lt_of_cell? w _ hx122_1)).trans hx122_1
              replace p122 := eq_true p122
              replace q122 := eq_true q122
              go_wp2
              repeat (go_quiet (fail); try go_wp2)
              go_ret2
              exact ⟨by first | rfl | (simp [errW_none, errW_some] <;> rfl) | (simp only [← hji16]; first | rfl | (simp [errW_none, errW_some] <;> rfl)) | (simp [*, errW_none, errW_some] <;> rfl), by repeat (first | (with_reducible first | exact HB.out | apply below_alloc | apply pw_below_drewN | apply below_drew1 | refine below_set ?_ GE121.out) | exact HB.out)⟩
             ·rw [if_neg c19] at H
              have c19b0 : decide (((rd_T36 l0 x11_1).f0) ≤ ((rd_T36 l0 (ji16)).f1)) = false := decide_eq_false c19
              clear c19
              have H' := Aside0.mk H
              clear H
              have hcz21_0 : wc.cell? ⟨gb121, 0, none⟩ = some (.int .i64 ((rd_T36 l0 x11_1).f0)) := (blk_cell BK121.out 0).trans rfl
              have hcz21_1 : wc.cell? ⟨gb121, 1, none⟩ = some (.int .i64 ((rd_T36 l0 x11_1).f1)) := (blk_cell BK121.out 1).trans rfl
              have hfz21_0 := blk_frozen BK121.out 0
              have hfz21_1 := blk_frozen BK121.out 1
              have p122 : 0 ≤ ((ji16) : Int) := of_decide_eq_true (by first | (with_reducible assumption) | assumption)
              have q122 : (ji16) < (l0.length : Int) := of_decide_eq_true (by first | (with_reducible assumption) | assumption)
              obtain ⟨ad122, e122, hx122_0, hx122_1⟩ := at_T36 HR0.out (ji16) p122 q122
              obtain rfl : ad120 = ad122 := (by injection e122)
              replace hx122_0 := (HB.out.cell (World.block_lt_of_cell? w _ hx122_0)).trans hx122_0
              replace hx122_1 := (HB.out.cell (World.block_lt_of_cell? w _ hx122_1)).trans hx122_1
              replace p122 := eq_true p122
              replace q122 := eq_true q122
              go_wp2
              repeat (go_quiet (fail); try go_wp2)
              go_roundg kj5
              case measure => have := HK1.out; have := HJ5.out; omega
              case rel => exact ⟨(wrap64 (x11_1 + 1)), (by first | rfl | (simp; done) | (simp [*]; done)), H', ⟨by have := HK1.out; have := HJ5.out; omega⟩, ⟨by repeat (first | (with_reducible first | exact HB.out | apply below_alloc | apply pw_below_drewN | apply below_drew1 | refine below_set ?_ GE121.out) | exact HB.out)⟩⟩
            ·rw [if_neg c18] at H
             exact absurd H (by simp)
           ·rw [if_neg c17] at H
            exact absurd H (by simp)
          ·rw [if_neg c15] at H
           have c15b0 : decide (0 < x11_1) = false := decide_eq_false c15
           clear c15
           have H' := Aside0.mk H
           clear H
           go_wp2
           repeat (go_quiet (fail); try go_wp2)
           go_roundg kj5
           case measure => have := HK1.out; have := HJ5.out; omega
           case rel => exact ⟨(wrap64 (x11_1 + 1)), (by first | rfl | (simp; done) | (simp [*]; done)), H', ⟨by have := HK1.out; have := HJ5.out; omega⟩, ⟨by repeat (first | (with_reducible first | exact HB.out | apply below_alloc | apply pw_below_drewN | apply below_drew1 | refine below_set ?_ GE121.out) | exact HB.out)⟩⟩
      ·rw [if_neg c5] at H
       exact absurd H (by simp)
     ·rw [if_neg c4] at H
      exact absurd H (by simp)
    ·rw [if_neg c3] at H
     have c3b0 : decide (x11_1 < (l0.length : Int)) = false := decide_eq_false c3
     clear c3
     simp only [Option.some.injEq, Prod.mk.injEq] at H
     obtain ⟨rfl, rfl⟩ := H
     go_wp2
     repeat (go_quiet (fail); try go_wp2)
     go_ret2
     exact ⟨by first | rfl | (simp [errW_none, errW_some] <;> rfl) | (simp [*, errW_none, errW_some] <;> rfl), by repeat (first | (with_reducible first | exact HB.out | apply below_alloc | apply pw_below_drewN | apply below_drew1) | exact HB.out)⟩
end Go.Proofs.Ytmidiifgdloojaa.Pr
end
section
namespace Go.Proofs.Ytmidiifgdloojaa.SpanSort
open Go.RowKit Go.Proofs.YtmidiifgdloojaaW.PrintWords Go.Proofs.YtmidiifgdloojaaW.PrintLast Go.Proofs.YtmidiifgdloojaaW.PrintMore Go.Proofs.Ytmidiifgdloojaa.Pr
def enc36 (r : S36) : List Value := [.int .i64 r.f0, .int .i64 r.f1]
def flat36 (l : List S36) : List Value := l.flatMap enc36
theorem flat36_len (l : List S36) : (flat36 l).length = l.length * 2 := by
  induction l with
  | nil => rfl
  | cons r l ih => simp only [flat36, List.flatMap_cons, List.length_append, List.length_cons] at ih ⊢; rw [ih]; simp [enc36]; omega
theorem flat36_cons (r : S36) (l : List S36) : flat36 (r :: l) = enc36 r ++ flat36 l := rfl
theorem flat36_one : ∀ (l : List S36), ∀ u ∈ flat36 l, u.oneCell' = true
  | [], u, h => by simp [flat36] at h
  | r :: l, u, h => by
    rw [flat36_cons] at h
    rcases List.mem_append.1 h with h | h
    · simp [enc36] at h
      rcases h with rfl | rfl <;> rfl
    · exact flat36_one l u h
theorem flat36_get (l : List S36) (j : Nat) (hj : j < l.length) : (flat36 l)[j * 2]? = some (.int .i64 (l[j]).f0) ∧ (flat36 l)[j * 2 + 1]? = some (.int .i64 (l[j]).f1) := by
  induction l generalizing j with
  | nil => simp at hj
  | cons r l ih =>
    cases j with
    | zero => exact ⟨rfl, rfl⟩
    | succ j =>
      have h := ih j (by simpa using hj)
      rw [flat36_cons]
      have e : (j + 1) * 2 = j * 2 + 2 := by omega
      rw [e]
      exact h
theorem reps_flat {R : S36 → List Value → Prop} (hR : ∀ r, R r (enc36 r)) : ∀ l : List S36, Reps R 2 l (flat36 l)
  | [] => Reps.none R 2
  | r :: l => by
    have h1 : Reps R 2 [r] (enc36 r) := by
      have := (Reps.none R 2).snoc (hR r) rfl
      simpa using this
    exact Kd.reps_append (ps := [r]) h1 (reps_flat hR l)
theorem flat_reps {R : S36 → List Value → Prop} (hR : ∀ r cs, R r cs → cs = enc36 r) : ∀ (l : List S36) (inner : List Value), Reps R 2 l inner → inner = flat36 l
  | [], inner, h => by
    have := h.1
    simp at this
    rw [this]; rfl
  | r :: l, inner, h => by
    have h0 := hR _ _ (h.2 0 r rfl)
    have h1 : Reps R 2 l (inner.drop 2) := Kd.reps_drop (m := 1) h
    rw [flat36_cons, ← flat_reps hR l _ h1, ← h0]
    simp
theorem row_of_R {W : World} {base : Nat} {ok : Nat → Prop} {v : Value} {xs : List S36} (h : Kd.R k36 36 W base ok v xs) : (∀ k, v.ownBlock = some k → ok k) ∧ W.ownsRow base 36 2 v xs.length (flat36 xs) := by
  obtain ⟨h0, inner, ho, hr⟩ := h
  refine ⟨h0, ?_⟩
  rw [← flat_reps (fun r cs h => k36_openM h) xs inner hr]
  exact ho
theorem R_of_row {W : World} {base : Nat} {ok : Nat → Prop} {v : Value} {xs : List S36} (h0 : ∀ k, v.ownBlock = some k → ok k) (h : W.ownsRow base 36 2 v xs.length (flat36 xs)) : Kd.R k36 36 W base ok v xs :=
  ⟨h0, flat36 xs, h, reps_flat (fun r => k36_mkM _ _ _ r) xs⟩
theorem run_copy_cells2 {P : Program} (w : World) (dT sT ty elem : TypeId) (b o n dCap : Nat) (a : Addr) (sCap : Nat) (cs : List Value)
    (hu : P.underlying dT = some (.slice elem)) (hs : (P.info? elem).map (·.size) = some 2) (hn : cs.length = n * 2)
    (hsrc : ∀ j v, cs[j]? = some v → w.cell? (a.add j) = some v) (hc : ∀ j, j < cs.length → (w.cell? ⟨b, o + j, none⟩).isSome = true) (hf : ∀ j, j < cs.length → w.frozen? ⟨b, o + j, none⟩ = false) (h1 : ∀ v ∈ cs, v.oneCell' = true) :
    (Builtin.copy_ #[dT, sT] ty #[.slice (some ⟨b, o, none⟩) n dCap, .slice (some a) n sCap]).run P w = .ok (goInt n) (w.setCells b o cs) := by
  have hl := run_loadCells_list (P := P) w a cs hsrc
  have hst := run_storeCells_cells (P := P) b o cs 0 w (by simpa using hc) (by simpa using hf) h1
  cases hq : P.info? elem with
  | none => simp [hq] at hs
  | some i =>
    have hi : i.size = 2 := by simpa [hq] using hs
    simp [Builtin.copy_, run_underlying hu, Builtin.lenOf, Builtin.firstCells, sizeOf, typeInfo, hq, hi, ← hn, hl, hst]
theorem run_copy_zero {P : Program} (w : World) (dT sT ty elem : TypeId) (b : Addr) (a : Option Addr) (dCap sCap : Nat) (hu : P.underlying dT = some (.slice elem)) (hs : (P.info? elem).map (·.size) = some 2) :
    (Builtin.copy_ #[dT, sT] ty #[.slice (some b) 0 dCap, .slice a 0 sCap]).run P w = .ok (goInt 0) w := by
  have hl : ∀ (x : Addr), (loadCells x 0).run P w = .ok #[] w := fun x => by simpa using run_loadCells_list (P := P) w x [] (by simp)
  cases hq : P.info? elem with
  | none => simp [hq] at hs
  | some i =>
    cases a <;> simp [Builtin.copy_, run_underlying hu, Builtin.lenOf, Builtin.firstCells, sizeOf, typeInfo, hq, storeCells, hl]
section
variable {P : Program} {ops : Array Oper} {rest : List Oper} {o : Oper} {a : Act} {Q : Exit → Act → World → Prop}
theorem R_copy36 {w0 W : World} (base : Nat) (hgd : o.guard = none) (s x : Operand) (t t' : TypeId)
    (ho : o.op = .call { callee := .builtin .copy, args := #[s, x], argTypes := #[t, t'] }) (ht : P.underlying t = some (.slice 36)) (hinfo : (P.info? 36).map (·.size) = some 2)
    (v : Value) (xs ys : List S36) (A : Option Addr) (c : Nat) (ok : Nat → Prop) (hs : a.eval s = v) (hx : a.eval x = .slice A ys.length c) (hlen : xs.length = ys.length) (hb : ∃ b, v.ownBlock = some b)
    (HO : Kd.R k36 36 W base ok v xs) (HR : Kd.C k36 W A ys.length ys) (HB : Below base w0 W) (hbase : base ≤ W.heap.size)
    (h : ∀ w1, Kd.R k36 36 w1 base ok v ys → Below base w0 w1 → wpList P ops Q rest (a.put o.dst (.int .i64 (ys.length : Int))) w1) : wpList P ops Q (o :: rest) a W := by
  obtain ⟨h0, hown⟩ := row_of_R HO
  have fin : ∀ w1, (Builtin.copy_ #[t, t'] o.type #[v, .slice A ys.length c]).run P W = .ok (goInt (ys.length : Int)) w1 → Kd.R k36 36 w1 base ok v ys → W.grownBy w1 v.ownBlock → wpList P ops Q (o :: rest) a W := by
    intro w1 hr hrow hg
    refine wpList_plain hgd fun K hK => ?_
    unfold Oper.wp execOp
    simp only [ho, resolve, invoke, builtin, Sem.run_bind, Sem.run_pure, Result.andThen_ok, List.map_toArray, List.map_cons, List.map_nil, hs, hx, hr]
    exact hK _ _ (h w1 hrow (HB.grown hg hbase (own_base hown)))
  rcases hown.2 with ⟨hv, _⟩ | ⟨g, cap, cur, hv, hbg, hh, hnc, hcm, hcs, htake⟩
  · obtain ⟨b, hb⟩ := hb
    rw [hv] at hb
    simp [Value.ownBlock] at hb
  rcases Nat.eq_zero_or_pos ys.length with hz | hp
  · have hy : ys = [] := List.eq_nil_of_length_eq_zero hz
    have hxz : xs = [] := List.eq_nil_of_length_eq_zero (by omega)
    refine fin W ?_ (by rw [hy, ← hxz]; exact HO) (World.grownBy.refl W _)
    have := run_copy_zero (P := P) W t t' o.type 36 ⟨g, 0, none⟩ A cap c ht hinfo
    rw [hv, hz, show xs.length = 0 from by omega]
    exact this
  · obtain ⟨ad, hA, _⟩ := HR.2.2 hp
    rw [hA] at HR
    obtain ⟨inner, hnr, hnc2⟩ := ReadsRow.inner_ HR
    rw [flat_reps (fun r cs h => k36_open h) ys inner hnr] at hnc2
    have hle : ys.length * 2 ≤ cur.size := by rw [hcs]; omega
    have hr := run_copy_cells2 (P := P) W t t' o.type 36 g 0 ys.length cap ad c (flat36 ys) ht hinfo (flat36_len ys) hnc2
      (fun j hj => by rw [flat36_len] at hj; simp [World.cell?, hh]; omega) (fun j _ => blk_frozen hh _) (flat36_one ys)
    obtain ⟨cur', h3, h4, h5⟩ := setCells_row (flat36 ys) 0 W cur hh (by rw [flat36_len]; omega)
    obtain ⟨s1, s2, s3, s4⟩ := setCells_same g (flat36 ys) 0 W
    refine fin _ (by rw [hv, hA, hlen]; exact hr) (R_of_row h0 ?_) ⟨s1, s2, s3, by rw [s4]; exact Nat.le_refl _, fun k _ hk => setCells_far _ _ k (fun he => hk (by rw [hv, he]; simp [Value.ownBlock]))⟩
    refine ⟨flat36_len ys, .inr ⟨g, cap, cur', by rw [hv, hlen], hbg, h3, by omega, hcm, by rw [h4, hcs], ?_⟩⟩
    rw [h5, List.take_zero, List.nil_append, ← flat36_len ys]
    simp
end
theorem info36s : (Try.prog.info? 36).map (·.size) = some 2 := by kernel_rfl
theorem closure48 (x y : S36) (hx : 0 ≤ x.f0 ∧ x.f0 ≤ 1048576) (hy : 0 ≤ y.f0 ∧ y.f0 ≤ 1048576) (W : World) : Calls Try.prog 48 #[.agg #[.int .i64 x.f0, .int .i64 x.f1], .agg #[.int .i64 y.f0, .int .i64 y.f1]] W fun e w' => e = .returned (.int .i64 (x.f0 - y.f0)) ∧ ∃ q os', w' = Go.Sort.grow (W.drewN q) os' := by
  have hw : wrap64 (x.f0 - y.f0) = x.f0 - y.f0 := IntWalk.wrap64_in _ ⟨by omega, by omega⟩
  go_enter Try.func48, Try.ntmps48
  go_wp2
  go_ret
  refine ⟨?_, 0, _, by rw [Go.Sort.alloc_eq_grow, Go.Sort.alloc_eq_grow, Go.Sort.grow_grow]; rfl⟩
  rfl
end Go.Proofs.Ytmidiifgdloojaa.SpanSort
end
section
namespace Go.Proofs.Ytmidiifgdloojaa.SpanEach
open Go.RowKit Go.Shelf
attribute [local go_sem] Oper.semAt_some
def width (r : Int × Int) : Nat := (r.2 - r.1).toNat
def span1 (r : Int × Int) : List Int := (List.range (width r)).map (fun j : Nat => r.1 + (j : Int))
def spans (l : List (Int × Int)) : List Int := l.flatMap span1
theorem span1_len (r : Int × Int) : (span1 r).length = width r := by simp [span1]
theorem spans_succ (l : List (Int × Int)) {k : Nat} (h : k < l.length) : spans (l.take (k + 1)) = spans (l.take k) ++ span1 (l[k]?.getD (0, 0)) := by
  rw [List.take_add_one]
  simp only [spans, List.getElem?_eq_getElem h, Option.toList_some, Option.getD_some, List.flatMap_append, List.flatMap_cons, List.flatMap_nil, List.append_nil]
theorem span1_succ (r : Int × Int) {m : Nat} (h : m < width r) : (span1 r).take (m + 1) = (span1 r).take m ++ [r.1 + (m : Int)] := by
  rw [List.take_add_one]
  simp [span1, h]
theorem spans_split (l : List (Int × Int)) {k : Nat} (h : k < l.length) : spans l = spans (l.take k) ++ (span1 (l[k]?.getD (0, 0)) ++ spans (l.drop (k + 1))) := by
  have : l = l.take k ++ l[k] :: l.drop (k + 1) := by simp
  conv => lhs; rw [this]
  simp only [spans, List.getElem?_eq_getElem h, Option.getD_some, List.flatMap_append, List.flatMap_cons]
theorem come_prefix (l : List (Int × Int)) {k : Nat} (h : k < l.length) (m : Nat) : spans (l.take k) ++ (span1 (l[k]?.getD (0, 0))).take m <+: spans l := by
  rw [spans_split l h]
  exact (List.prefix_append_right_inj _).2 ((List.take_prefix _ _).trans (List.prefix_append _ _))
theorem come_lt (l : List (Int × Int)) {k : Nat} (h : k < l.length) {m : Nat} (hm : m < width (l[k]?.getD (0, 0))) : (spans (l.take k) ++ (span1 (l[k]?.getD (0, 0))).take m).length < (spans l).length := by
  rw [spans_split l h]
  simp only [List.length_append, List.length_take, span1_len]
  omega
def Keeps36 (W W' : World) : Prop := ∀ (k : Nat) (c : Array Value), W.heap[k]? = some (.cells c 36 (0, 0)) → W'.heap[k]? = some (.cells c 36 (0, 0))
theorem Keeps36.refl (W : World) : Keeps36 W W := fun _ _ h => h
theorem Keeps36.trans {A B C : World} (h : Keeps36 A B) (k : Keeps36 B C) : Keeps36 A C := fun i c hi => k i c (h i c hi)
theorem Keeps36.grown {A B : World} {row : Option Nat} (h : A.grownBy B row) (hr : ∀ r, row = some r → ∀ c, A.heap[r]? ≠ some (.cells c 36 (0, 0))) : Keeps36 A B := fun i c hi =>
  (h.block i (Array.getElem?_eq_some_iff.1 hi).1 (fun e => hr i e.symm c hi)).trans hi
theorem keeps36_b (W : World) (l : Nat) (o o' : Obj) (h : W.heap[l]? = some o) (hc : o.isCells = false) : Keeps36 W (W.putObj l o') :=
  Keeps36.grown (grownBy_putObj' W l o') (fun r e c hh => by cases e; rw [h] at hh; cases hh; cases hc)
set_option maxRecDepth 100000 in
set_option maxHeartbeats 4000000 in
theorem each1_in (F : Fence) (n : Nat) (h55 : F.fn 55) (hro : F.round = none) (hn : 1 ≤ n) (l Bs b cap : Nat) (zs : List (Int × Int)) (hreach : zs.length ≤ 32768) (hz : ∀ k, k < zs.length → 0 ≤ (zs[k]?.getD (0, 0)).1 ∧ (zs[k]?.getD (0, 0)).1 < (zs[k]?.getD (0, 0)).2 ∧ (zs[k]?.getD (0, 0)).2 ≤ 1048576) (J Jx : List Int → World → Prop)
    (hY : ∀ pre x W, J pre W → pre.length < (spans zs).length → YieldAt F (n - 1) Try.prog l #[.int .i64 x] W fun e W' =>
      (e = .returned (.bool true) ∧ J (pre ++ [x]) W' ∧ Keeps36 W W') ∨ (e = .returned (.bool false) ∧ Jx (pre ++ [x]) W'))
    (W : World) (hJ : AbidesFrom W.heap.size J) (hBs : W.cell? ⟨Bs, 0, none⟩ = some (.slice (some ⟨b, 0, none⟩) zs.length cap)) (cs : Array Value) (hb : W.heap[b]? = some (.cells cs 36 (0, 0)))
    (hc : ∀ j, j < zs.length → cs[j * 2]? = some (.int .i64 (zs[j]?.getD (0, 0)).1) ∧ cs[j * 2 + 1]? = some (.int .i64 (zs[j]?.getD (0, 0)).2)) (h0 : J [] W) :
    CallsIn F n Try.prog 55 #[.func (.yield l) #[] #[], .pointer (some ⟨Bs, 0, none⟩)] W fun e W' => (∃ v, e = .returned v) ∧
      ((∃ ys, ys = spans zs ∧ J ys W') ∨ (∃ pre, pre <+: spans zs ∧ Jx pre W')) := by
  refine callsIn_of_wp Try.func55 rfl h55 ?_ hro
  simp only [Try.ntmps55, List.size_toArray, List.length_cons, List.length_nil, Nat.reduceAdd, Nat.reduceSub, Array.replicate_succ, Array.replicate_zero, List.push_toArray, List.append_toArray, List.nil_append, List.cons_append]
  gi_wp2
  gi_loopw [8] (fun i wr => ∃ k : Nat, k ≤ zs.length ∧ i = .int .i64 k ∧ J (spans (zs.take k)) wr ∧ Keeps36 W wr)
    (fun i _ => zs.length - (intOf i).toNat)
  case atStart => exact ⟨0, Nat.zero_le _, rfl, h0, Keeps36.refl _⟩
  case round =>
    obtain ⟨k, hk, rfl, hJs, hnx⟩ := hrel
    obtain ⟨w1, rfl⟩ : ∃ w1, w1 = wr := ⟨wr, rfl⟩
    by_cases hlt : k < zs.length
    · obtain ⟨c0, c1⟩ := hc k hlt
      obtain ⟨z0, z1, z2⟩ := hz k hlt
      have e1 := spans_succ zs hlt
      have e2 := come_prefix zs hlt
      have e3 : ∀ {m : Nat}, m < width (zs[k]?.getD (0, 0)) → _ := fun {m} => come_lt zs hlt (m := m)
      have d0 : w1.cell? ⟨b, k * 2, none⟩ = some (.int .i64 (zs[k]?.getD (0, 0)).1) := by simp only [World.cell?, hnx b cs hb]; exact c0
      have d1 : w1.cell? ⟨b, k * 2 + 1, none⟩ = some (.int .i64 (zs[k]?.getD (0, 0)).2) := by simp only [World.cell?, hnx b cs hb]; exact c1
      generalize zs[k]?.getD (0, 0) = r at c0 c1 z0 z1 z2 e1 e2 e3 d0 d1
      clear hc hz
      gi_wp2
      have hjs := hJ _ _ _ none hJs (World.grownBy_alloc w1 (.cells #[.int .i64 r.1, .int .i64 r.2] 36) none) (by intro r e; cases e)
      have hks : Keeps36 W (w1.alloc (.cells #[.int .i64 r.1, .int .i64 r.2] 36)) := hnx.trans (Keeps36.grown (World.grownBy_alloc w1 _ none) (by intro r e; cases e))
      gi_loopw [5] (fun p wq => ∃ m : Nat, m ≤ width r ∧ p = .int .i64 (r.1 + (m : Int)) ∧ J (spans (zs.take k) ++ (span1 r).take m) wq ∧ Keeps36 W wq ∧ wq.heap[w1.heap.size]? = some (.cells #[.int .i64 r.1, .int .i64 r.2] 36 (0, 0)))
        (fun p _ => (r.2 - intOf p).toNat)
      case atStart => exact ⟨0, Nat.zero_le _, by simp, by simpa using hjs, hks, World.alloc_heap_new w1 _⟩
      case round =>
        obtain ⟨m, hm, rfl, hJm, hkm, hbx⟩ := hrel
        have b1 : wr.cell? ⟨w1.heap.size, 1, none⟩ = some (.int .i64 r.2) := by simp [World.cell?, hbx]
        by_cases hl2 : m < width r
        · obtain ⟨fn, tmps, assign, body, hy, hR⟩ := hY _ (r.1 + (m : Int)) wr hJm (e3 hl2)
          have g1 : r.1 + (m : Int) < r.2 := by simp only [width] at hl2; omega
          gi_wp2
          refine hR.mono ?_
          rintro e W3 (⟨rfl, hJ3, hk3⟩ | ⟨rfl, hJx3⟩)
          · gi_wp2
            refine ⟨⟨m + 1, hl2, by rw [Int.add_assoc]; rfl, by rw [span1_succ r hl2, ← List.append_assoc]; exact hJ3, hkm.trans hk3, hk3 _ _ hbx⟩, ?_⟩
            simp only [intOf]
            omega
          · gi_wp2
            refine bodyPost_ret (results_none rfl _ _ _) rfl ?_
            exact ⟨⟨_, rfl⟩, .inr ⟨_, by have := e2 (m + 1); rw [span1_succ r hl2, ← List.append_assoc] at this; exact this, hJx3⟩⟩
        · obtain rfl : m = width r := by omega
          have g1 : ¬ r.1 + (width r : Int) < r.2 := by simp only [width]; omega
          have hf : List.take (width r) (span1 r) = span1 r := List.take_of_length_le (by rw [span1_len]; exact Nat.le_refl _)
          gi_wp2
          refine ⟨⟨k + 1, hlt, rfl, by rw [e1]; rw [hf] at hJm; exact hJm, hkm⟩, ?_⟩
          simp only [intOf]
          omega
    · obtain rfl : k = zs.length := by omega
      gi_wp2
      go_end0
      exact ⟨⟨_, rfl⟩, .inl ⟨_, rfl, by rw [List.take_length] at hJs; exact hJs⟩⟩
set_option maxRecDepth 100000 in
set_option maxHeartbeats 1000000 in
theorem each1_nil_in (F : Fence) (n : Nat) (h55 : F.fn 55) (hro : F.round = none) (l Bs : Nat) (J : List Int → World → Prop) (W : World) (hBs : W.cell? ⟨Bs, 0, none⟩ = some (.slice none 0 0)) (h0 : J [] W) :
    CallsIn F n Try.prog 55 #[.func (.yield l) #[] #[], .pointer (some ⟨Bs, 0, none⟩)] W fun e W' => (∃ v, e = .returned v) ∧ J [] W' := by
  refine callsIn_of_wp Try.func55 rfl h55 ?_ hro
  simp only [Try.ntmps55, List.size_toArray, List.length_cons, List.length_nil, Nat.reduceAdd, Nat.reduceSub, Array.replicate_succ, Array.replicate_zero, List.push_toArray, List.append_toArray, List.nil_append, List.cons_append]
  gi_wp2
  gi_loopw [8] (fun i wr => i = .int .i64 0 ∧ J [] wr) (fun _ _ => 0)
  case atStart => exact ⟨rfl, h0⟩
  case round =>
    obtain ⟨rfl, hJs⟩ := hrel
    gi_wp2
    go_end0
    exact ⟨⟨_, rfl⟩, hJs⟩
def Ranges (W : World) (sv : Value) (zs : List (Int × Int)) : Prop :=
  (sv = .slice none 0 0 ∧ zs = []) ∨ ∃ b cap cs, sv = .slice (some ⟨b, 0, none⟩) zs.length cap ∧ W.heap[b]? = some (.cells cs 36 (0, 0)) ∧ ∀ j, j < zs.length → cs[j * 2]? = some (.int .i64 (zs[j]?.getD (0, 0)).1) ∧ cs[j * 2 + 1]? = some (.int .i64 (zs[j]?.getD (0, 0)).2)
theorem Ranges.below {n₀ : Nat} {A B : World} {sv : Value} {zs : List (Int × Int)} (h : Below n₀ A B) (hn : n₀ = A.heap.size) : Ranges A sv zs → Ranges B sv zs
  | .inl e => .inl e
  | .inr ⟨b, cap, cs, e, hb, hc⟩ => .inr ⟨b, cap, cs, e, (h.block b (by rw [hn]; exact (Array.getElem?_eq_some_iff.1 hb).1)).trans hb, hc⟩
abbrev Fine (zs : List (Int × Int)) : Prop := zs.length ≤ 32768 ∧ ∀ k, k < zs.length → 0 ≤ (zs[k]?.getD (0, 0)).1 ∧ (zs[k]?.getD (0, 0)).1 < (zs[k]?.getD (0, 0)).2 ∧ (zs[k]?.getD (0, 0)).2 ≤ 1048576
theorem each_stops (F : Fence) (n : Nat) (h55 : F.fn 55) (hro : F.round = none) (hn : 1 ≤ n) (Bs : Nat) (sv : Value) (zs : List (Int × Int)) (hz : Fine zs) (w : World) (hBs : Bs < w.heap.size)
    (hc : w.cell? ⟨Bs, 0, none⟩ = some sv) (hI : Ranges w sv zs) :
    SeqStopsK F n Try.prog 55 #[.pointer (some ⟨Bs, 0, none⟩)] (fun x : Int => #[Value.int .i64 x]) Keeps36 (fun ys => ys = spans zs) (fun pre => pre <+: spans zs) (spans zs).length w := fun l J Jx W hW hJ _ hY h0 => by
  have hc' := (hW.cell (p := ⟨Bs, 0, none⟩) hBs).trans hc
  rcases hI.below hW rfl with ⟨rfl, rfl⟩ | ⟨b, cap, cs, rfl, hb, hcs⟩
  · exact (each1_nil_in F n h55 hro l Bs J W hc' h0).mono fun e W' ⟨he, hj⟩ => ⟨he, .inl ⟨_, rfl, hj⟩⟩
  · exact each1_in F n h55 hro hn l Bs b cap zs hz.1 hz.2 J Jx hY W hJ hc' cs hb hcs h0
end Go.Proofs.Ytmidiifgdloojaa.SpanEach
end
section
namespace Go.Proofs.Ytmidiifgdloojaa.SpanEach
open Go.RowKit Go.Proofs.YtmidiifgdloojaaW.PrintWords Go.Proofs.YtmidiifgdloojaaW.PrintLast Go.Proofs.YtmidiifgdloojaaW.PrintMore Go.Proofs.Ytmidiifgdloojaa.Pr Go.Proofs.Ytmidiifgdloojaa.SpanSort
def prs (l : List S36) : List (Int × Int) := l.map (fun r => (r.f0, r.f1))
theorem ranges_of_R {W : World} {base : Nat} {ok : Nat → Prop} {v : Value} {l : List S36} (h : Kd.R k36 36 W base ok v l) : Ranges W v (prs l) := by
  obtain ⟨_, hown⟩ := row_of_R h
  rcases hown.2 with ⟨hv, hx⟩ | ⟨g, cap, cur, hv, hbg, hh, hnc, hcm, hcs, htake⟩
  · have : l = [] := List.eq_nil_of_length_eq_zero (by omega)
    subst this
    exact .inl ⟨hv, rfl⟩
  · refine .inr ⟨g, cap, cur, by rw [hv]; simp [prs], hh, fun j hj => ?_⟩
    have hj' : j < l.length := by simpa [prs] using hj
    have e1 : ∀ i, i < l.length * 2 → cur[i]? = (flat36 l)[i]? := fun i hi => by
      rw [← htake, List.getElem?_take, if_pos (by omega), Array.getElem?_toList]
    obtain ⟨h0, h1⟩ := flat36_get l j hj'
    rw [e1 _ (by omega), e1 _ (by omega), h0, h1]
    simp [prs, List.getElem?_eq_getElem hj']
set_option maxRecDepth 100000 in
set_option maxHeartbeats 4000000 in
theorem Each_calls (k : Nat) (A0 : Option Addr) (c0 : Nat) (l0 : List S36) (r1 r2 : Int) (w : World) (hr0 : Kd.C k36 w A0 l0.length l0) (hc0 : l0.length ≤ c0) (hlen : r2 = 0 → l0.length ≤ 32768) (hC : span_Check.f k l0 = some (r1, r2)) :
    Calls Try.prog 27 #[.slice A0 l0.length c0] w fun e w' => ∃ sv, e = .returned (.func (.func 55) #[] #[.pointer (some ⟨w.heap.size, 0, none⟩)]) ∧ w.heap.size < w'.heap.size ∧
      w'.cell? ⟨w.heap.size, 0, none⟩ = some sv ∧ Ranges w' sv (if r2 = 0 then prs l0 else []) ∧ Below w.heap.size w w' := by
  have HR0 := Aside0.mk hr0
  have HC0 := Aside0.mk hc0
  have A2 := Aside0.mk hC
  clear hr0 hc0 hC
  have HB := Aside0.mk (Below.refl w.heap.size w)
  by_cases c3 : r2 = 0
  · have hl := hlen c3
    subst c3
    have g1 : (0 : Int) ≤ (l0.length : Int) := by omega
    have g2 : ((l0.length : Int)).toNat ≤ 17592186044416 := by omega
    go_enter Try.func27, Try.ntmps27
    go_wp2_with (first | ((with_reducible refine gate_callee (f := 51) rfl ?_); refine goesL_ (some 8) rfl rfl Try.func51 (by kernel_rfl) rfl #[.slice A0 l0.length c0] rfl (by (try simp only [List.map_toArray, List.map_cons, List.map_nil]); first | done | rfl | (simp only [List.length_drop, List.length_take]; rfl)) ?_; (with_reducible refine (span_Check.calls k _ _ l0 r1 0 _ ?side1 ?side2 A2.out).mono ?_); (case side1 => repeat (first | exact HR0.out | (with_reducible refine Kd.C_alloc ?_ _) | (with_reducible refine Kd.C_drewN ?_ _) | (with_reducible refine Kd.C_drew ?_))); (case side2 => exact HC0.out); rintro e w4 ⟨rfl, hb⟩; refine ⟨_, rfl, ?_⟩; have b4 : Boxed w4 w.heap.size 22 (.slice none 0 0) := (hb.block _ (by simp)).trans (World.alloc_heap_new w _); have HB4 := Aside0.mk (Below.trans ((Below.refl w.heap.size w).alloc (Nat.le_refl _) _) (hb.mono (by simp))); have hs4 := Aside0.mk b4.lt; clear hb) | ((with_reducible refine gate_dst (N := 15) rfl ?_); refine Kd.R_make k36 _ 36 rfl (N := 15) rfl 22 _ _ rfl (l0.length : Int) rfl rfl Try.underlying22 (.agg #[(.int .i64 0), (.int .i64 0)]) 16 info36 rfl (by decide) (by omega) z36 (ok := fun _ => True) (okp := fun _ => True) (k36_mkM _ _ _ z36) (fun _ hk => hk) trivial g1 (by omega) (Below.refl _ _) (Nat.le_refl _) ?_; intro v15 w19 ho hb hg_ hnew_; have hnew0 : ∃ b, (v15 : Value).ownBlock = some b := Exists.elim hnew_ (fun b h_ => ⟨b, h_.1⟩); clear hg_ hnew_; obtain ⟨A5, c5, hv5⟩ := Kd.R_slice ho; rw [show (List.replicate (l0.length : Int).toNat z36).length = l0.length from by simp] at hv5; subst hv5; have b5 : Boxed w19 w.heap.size 22 (.slice none 0 0) := (hb.block _ hs4.out).trans b4; have b6 := b5.set (.slice A5 l0.length c5); have HO5 := Aside0.mk (Kd.R_set ho b5 (by decide) 0 (.slice A5 l0.length c5)); have HB5 := Aside0.mk ((HB4.out.trans (hb.mono (Nat.le_of_lt hs4.out))).setCell (p := ⟨w.heap.size, 0, none⟩) (Nat.le_refl _) (.slice A5 l0.length c5)); have c5b := b5.cell; have f5b := b5.frozen; have c6b := b6.cell; have hs5 := Aside0.mk hb.size; clear hb ho) | ((with_reducible refine gate_builtin (b := .copy) (xs := #[.tmp 16, .tmp 17]) rfl ?_); refine R_copy36 (w0 := _) w4.heap.size rfl (.tmp 16) (.tmp 17) 22 22 rfl Try.underlying22 info36s _ (List.replicate ((l0.length : Int) : Int).toNat z36) l0 A0 c0 (fun _ => True) rfl rfl (by simp) hnew0 HO5.out ?aR (Below.refl _ _) ?aS ?_; (case aR => exact Kd.C_below HR0.out HB5.out); (case aS => simpa using hs5.out); intro wcp hcp hbcp))
    go_ret
    refine ⟨rfl, Nat.lt_of_lt_of_le b6.lt hbcp.size, _, (hbcp.cell hs4.out).trans c6b, ?_, HB5.out.trans (hbcp.mono (Nat.le_of_lt hs4.out))⟩
    exact ranges_of_R hcp
  · go_enter Try.func27, Try.ntmps27
    go_wp2_with (first | ((with_reducible refine gate_callee (f := 51) rfl ?_); refine goesL_ (some 8) rfl rfl Try.func51 (by kernel_rfl) rfl #[.slice A0 l0.length c0] rfl (by (try simp only [List.map_toArray, List.map_cons, List.map_nil]); first | done | rfl | (simp only [List.length_drop, List.length_take]; rfl)) ?_; (with_reducible refine (span_Check.calls k _ _ l0 r1 r2 _ ?side1 ?side2 A2.out).mono ?_); (case side1 => repeat (first | exact HR0.out | (with_reducible refine Kd.C_alloc ?_ _) | (with_reducible refine Kd.C_drewN ?_ _) | (with_reducible refine Kd.C_drew ?_))); (case side2 => exact HC0.out); rintro e w4 ⟨rfl, hb⟩; refine ⟨_, rfl, ?_⟩; have b4 : Boxed w4 w.heap.size 22 (.slice none 0 0) := (hb.block _ (by simp)).trans (World.alloc_heap_new w _); have HB4 := Aside0.mk (Below.trans ((Below.refl w.heap.size w).alloc (Nat.le_refl _) _) (hb.mono (by simp))); have hs4 := Aside0.mk b4.lt; clear hb))
    go_ret
    refine ⟨rfl, hs4.out, _, b4.cell, ?_, HB4.out⟩
    try rw [if_neg c3]
    exact .inl ⟨rfl, rfl⟩
end Go.Proofs.Ytmidiifgdloojaa.SpanEach
end
section
namespace Go.Proofs.Ytmidiifgdloojaa.SpanEach
structure Pos (zs : List (Int × Int)) (pre : List Int) (a nx : Nat) : Prop where
  e : pre = spans (zs.take a) ++ (span1 (zs[a]?.getD (0, 0))).take nx
  le : a ≤ zs.length
  lt : a < zs.length → nx < width (zs[a]?.getD (0, 0))
  z : a = zs.length → nx = 0
theorem prefix_get {l m : List Int} (h : l <+: m) {i : Nat} (hi : i < l.length) : m[i]? = l[i]? := by
  obtain ⟨t, rfl⟩ := h
  rw [List.getElem?_append_left hi]
theorem Pos.start {zs : List (Int × Int)} (hz : ∀ k, k < zs.length → 0 < width (zs[k]?.getD (0, 0))) : Pos zs [] 0 0 :=
  ⟨by simp [spans], Nat.zero_le _, fun h => hz 0 h, fun _ => rfl⟩
theorem Pos.next {zs : List (Int × Int)} (hz : ∀ k, k < zs.length → 0 < width (zs[k]?.getD (0, 0))) {pre : List Int} {a nx : Nat} (h : Pos zs pre a nx) {x : Int} (hp : pre ++ [x] <+: spans zs) :
    a < zs.length ∧ x = (zs[a]?.getD (0, 0)).1 + (nx : Int) ∧ nx < width (zs[a]?.getD (0, 0)) ∧ (nx + 1 = width (zs[a]?.getD (0, 0)) → Pos zs (pre ++ [x]) (a + 1) 0) ∧ (nx + 1 < width (zs[a]?.getD (0, 0)) → Pos zs (pre ++ [x]) a (nx + 1)) := by
  have ha : a < zs.length := by
    refine Nat.lt_of_le_of_ne h.le (fun e => ?_)
    have h1 := h.z e
    have h2 := h.e
    rw [h1, List.take_zero, List.append_nil, e, List.take_length] at h2
    have := hp.length_le
    rw [h2, List.length_append] at this
    simp only [List.length_cons, List.length_nil] at this
    omega
  have hn := h.lt ha
  have hsp := spans_split zs ha
  have he := h.e
  obtain ⟨r, hr⟩ : ∃ r, r = zs[a]?.getD (0, 0) := ⟨_, rfl⟩
  rw [← hr] at hn hsp he ⊢
  have hx : x = r.1 + (nx : Int) := by
    have h1 := prefix_get hp (i := pre.length) (by simp)
    have hl : pre.length = (spans (zs.take a)).length + nx := by rw [he, List.length_append, List.length_take, span1_len]; omega
    rw [hsp, List.getElem?_append_right (by omega), show pre.length - (spans (zs.take a)).length = nx by omega, List.getElem?_append_left (by rw [span1_len]; exact hn)] at h1
    simp [span1, hn] at h1
    exact h1.symm
  refine ⟨ha, hx, hn, fun hw => ?_, fun hw => ?_⟩
  · refine ⟨?_, ha, fun h => hz _ h, fun _ => rfl⟩
    rw [List.take_zero, List.append_nil, spans_succ zs ha, ← hr, he, List.append_assoc, hx, ← span1_succ r hn, hw]
    congr 1
    exact (List.take_of_length_le (l := span1 r) (i := width r) (by rw [span1_len]; exact Nat.le_refl _))
  · refine ⟨?_, Nat.le_of_lt ha, fun _ => by rw [← hr]; exact hw, fun h => by omega⟩
    rw [← hr, span1_succ r hn, ← List.append_assoc, ← he, hx]
theorem Pos.miss {zs : List (Int × Int)} {pre : List Int} {a nx : Nat} (h : Pos zs pre a nx) {x : Int} (hp : ¬ pre ++ [x] <+: spans zs) (hl : pre.length < (spans zs).length) : a < zs.length ∧ nx < width (zs[a]?.getD (0, 0)) ∧ x ≠ (zs[a]?.getD (0, 0)).1 + (nx : Int) := by
  have ha : a < zs.length := by
    refine Nat.lt_of_le_of_ne h.le (fun e => ?_)
    have h1 := h.z e
    have h2 := h.e
    rw [h1, List.take_zero, List.append_nil, e, List.take_length] at h2
    rw [h2] at hl
    omega
  have hn := h.lt ha
  refine ⟨ha, hn, fun hx => hp ?_⟩
  rw [h.e, hx, List.append_assoc, ← span1_succ _ hn]
  exact come_prefix zs ha _
theorem Pos.done {zs : List (Int × Int)} {a nx : Nat} (h : Pos zs (spans zs) a nx) : a = zs.length := by
  refine Nat.le_antisymm h.le (Nat.le_of_not_lt fun ha => ?_)
  have hn := h.lt ha
  have h1 := congrArg List.length h.e
  have h2 := congrArg List.length (spans_split zs ha)
  simp only [List.length_append, List.length_take, span1_len] at h1 h2
  omega
theorem want_at {L : List Int} {pre : List Int} {x : Int} (hp : pre ++ [x] <+: L) {k : Nat} (hk : pre.length < k) : (L.take k)[pre.length]? = some x ∧ pre.length < (L.take k).length := by
  have h1 := prefix_get hp (i := pre.length) (by simp)
  have h2 := hp.length_le
  rw [List.length_append] at h2
  simp only [List.length_cons, List.length_nil] at h2
  refine ⟨?_, by rw [List.length_take]; omega⟩
  rw [List.getElem?_take, if_pos hk, h1]
  simp
end Go.Proofs.Ytmidiifgdloojaa.SpanEach
end
section
namespace Go.Proofs.Ytmidiifgdloojaa.SpanEach
open Go.RowKit Go.Shelf Go.Proofs.YtmidiifgdloojaaW.PrintWords Go.Proofs.YtmidiifgdloojaaW.PrintLast Go.Proofs.YtmidiifgdloojaaW.PrintMore Go.Proofs.Ytmidiifgdloojaa.Pr
set_option linter.unusedSimpArgs false
set_option linter.unusedVariables false
attribute [local go_sem] Oper.semAt_some
structure St (w : World) (bs : List (Nat × Obj)) (W : World) : Prop where
  b : ∀ x ∈ bs, W.heap[x.1]? = some x.2
  bel : Below w.heap.size w W
abbrev bx (t : TypeId) (v : Value) : Obj := .cells #[v] t (0, 0)
section
variable {w W W' : World} {bs : List (Nat × Obj)} {g : Nat} {t : TypeId} {v : Value}
theorem St.alloc (h : St w bs W) (o : Obj) : St w bs (W.alloc o) := ⟨fun x hx => (Below.heap_alloc W o x.1 (Array.getElem?_eq_some_iff.1 (h.b x hx)).1).trans (h.b x hx), h.bel.alloc h.bel.size o⟩
theorem St.below (h : St w bs W) (hb : Below W.heap.size W W') : St w bs W' := ⟨fun x hx => (hb.block x.1 (Array.getElem?_eq_some_iff.1 (h.b x hx)).1).trans (h.b x hx), h.bel.trans (hb.mono h.bel.size)⟩
theorem St.box (h : St w bs W) (o : Obj) : St w ((W.heap.size, o) :: bs) (W.alloc o) := ⟨fun x hx => by
  rcases List.mem_cons.1 hx with rfl | hx
  · exact World.alloc_heap_new W o
  · exact (h.alloc o).b x hx, (h.alloc o).bel⟩
theorem St.cell (h : St w bs W) (hm : (g, bx t v) ∈ bs) : W.cell? ⟨g, 0, none⟩ = some v := by
  have := h.b _ hm
  simp [World.cell?, show W.heap[g]? = _ from this]
theorem St.frozen (h : St w bs W) (hm : (g, bx t v) ∈ bs) : W.frozen? ⟨g, 0, none⟩ = false := by
  have := h.b _ hm
  simp [World.frozen?, show W.heap[g]? = _ from this]
theorem St.set (h : St w ((g, bx t v) :: bs) W) (hne : ∀ x ∈ bs, x.1 ≠ g) (hg : w.heap.size ≤ g) (v' : Value) : St w ((g, bx t v') :: bs) (W.setCell ⟨g, 0, none⟩ v') := by
  refine ⟨fun x hx => ?_, h.bel.setCell (p := ⟨g, 0, none⟩) hg _⟩
  rcases List.mem_cons.1 hx with rfl | hx
  · exact Boxed.set v' (show Boxed W g t v from h.b _ List.mem_cons_self)
  · exact (Below.heap_setCell W ⟨g, 0, none⟩ v' x.1 (hne x hx)).trans (h.b x (List.mem_cons_of_mem _ hx))
theorem St.sub {bs' : List (Nat × Obj)} (h : St w bs W) (hs : ∀ x ∈ bs', x ∈ bs) : St w bs' W := ⟨fun x hx => h.b x (hs x hx), h.bel⟩
theorem St.own {β : Type} {n : Nat} (hbs : ∀ x ∈ bs, x.2.isCells = true) (hn : w.heap.size ≤ n) : OwnFrom n (fun (_ : β) W => St w bs W) := by
  intro s X Y row h hg hr
  refine ⟨fun x hx => (hg.block x.1 (Array.getElem?_eq_some_iff.1 (h.b x hx)).1 (fun e => ?_)).trans (h.b x hx), ⟨hg.os.trans h.bel.os, hg.tape.trans h.bel.tape, hg.output.trans h.bel.output, Nat.le_trans h.bel.size hg.size, fun k hk => (hg.block k (Nat.lt_of_lt_of_le hk h.bel.size) (fun e => ?_)).trans (h.bel.block k hk)⟩⟩
  · obtain ⟨_, o, ho, hc⟩ := hr x.1 e.symm
    rw [h.b x hx] at ho
    cases ho
    rw [hbs x hx] at hc
    cases hc
  · have := (hr k e.symm).1
    omega
end
structure Rd (B : Nat) (W W' : World) : Prop where
  f : KeepsFrom B W W'
  k : Keeps36 W W'
theorem Rd.refl (B : Nat) (W : World) : Rd B W W := ⟨KeepsFrom.refl _ _, Keeps36.refl _⟩
theorem Rd.trans {B : Nat} {X Y Z : World} (h : Rd B X Y) (k : Rd B Y Z) : Rd B X Z := ⟨h.f.trans k.f, h.k.trans k.k⟩
theorem Rd.alloc (B : Nat) (W : World) (o : Obj) : Rd B W (W.alloc o) := ⟨(KeepsOthers.alloc _ _).from _, Keeps36.grown (World.grownBy_alloc W o none) (by simp)⟩
theorem Rd.set (B : Nat) {W : World} {g : Nat} {t : TypeId} {v : Value} (h : W.heap[g]? = some (bx t v)) (ht : t ≠ 36) (v' : Value) : Rd B W (W.setCell ⟨g, 0, none⟩ v') := by
  refine ⟨(KeepsOthers.setCell _ _ _).from _, Keeps36.grown (grownBy_setCell' W g v') ?_⟩
  intro r e c hh
  cases e
  rw [h] at hh
  cases hh
  exact ht rfl
theorem Rd.drewN (B : Nat) (W : World) (n : Nat) : Rd B W (W.drewN n) := ⟨KeepsFrom.of_grownBy (row := none) ⟨rfl, rfl, rfl, Nat.le_refl _, fun _ _ _ => rfl⟩ (fun j e => by cases e), fun k c h => h⟩
theorem fine_width {zs : List (Int × Int)} (hz : Fine zs) : ∀ k, k < zs.length → 0 < width (zs[k]?.getD (0, 0)) := by
  intro k hk
  obtain ⟨_, h1, _⟩ := hz.2 k hk
  simp only [width]
  omega
theorem w64 {n : Int} (h0 : -9223372036854775808 ≤ n) (h1 : n ≤ 9223372036854775807) : wrap64 n = n := IntWalk.wrap64_in n ⟨h0, h1⟩
theorem cell36 {W : World} {A : Option Addr} {l : List S36} (h : Kd.C k36 W A l.length l) {k : Nat} (hk : k < l.length) : ∃ ad, A = some ad ∧ W.cell? (ad.add (k * 2)) = some (.int .i64 l[k].f0) ∧ W.cell? ⟨(ad.add (k * 2)).block, (ad.add (k * 2)).off + 1, none⟩ = some (.int .i64 l[k].f1) := by
  obtain ⟨ad, e, h1, h2⟩ := at_T36 h (k : Int) (by omega) (by omega)
  have hx : rd_T36 l (k : Int) = l[k] := by simp [rd_T36, hk]
  rw [hx] at h1 h2
  exact ⟨ad, e, by simpa using h1, by simpa using h2⟩
theorem prs_at {l : List S36} {k : Nat} (hk : k < l.length) : (prs l)[k]?.getD (0, 0) = (l[k].f0, l[k].f1) := by simp [prs, hk]
theorem prs_len (l : List S36) : (prs l).length = l.length := by simp [prs]
abbrev wB (n : Nat) (A : Option Addr) (m c : Nat) (a nx : Int) : List (Nat × Obj) := [(n + 1 + 1, bx 3 (.int .i64 a)), (n + 1 + 1 + 1, bx 3 (.int .i64 nx)), (n, bx 22 (.slice A m c)), (n + 1, bx 4 (.bool false))]
theorem w_cells (n : Nat) (A : Option Addr) (m c : Nat) (a nx : Int) : ∀ x ∈ wB n A m c a nx, x.2.isCells = true := by
  intro x hx
  simp only [wB, List.mem_cons, List.not_mem_nil, or_false] at hx
  rcases hx with rfl | rfl | rfl | rfl <;> rfl
section
variable {w W : World} {n : Nat} {A : Option Addr} {m c : Nat} {a nx : Int}
theorem St.w5 (h : St w (wB n A m c a nx) W) (hn : n = w.heap.size) (a' : Int) : St w (wB n A m c a' nx) (W.setCell ⟨n + 1 + 1, 0, none⟩ (.int .i64 a')) :=
  h.set (fun x hx => by
    simp only [List.mem_cons, List.not_mem_nil, or_false] at hx
    rcases hx with rfl | rfl | rfl <;> simp <;> omega) (by omega) _
theorem St.w6 (h : St w (wB n A m c a nx) W) (hn : n = w.heap.size) (nx' : Int) : St w (wB n A m c a nx') (W.setCell ⟨n + 1 + 1 + 1, 0, none⟩ (.int .i64 nx')) := by
  have h1 : St w ((n + 1 + 1 + 1, bx 3 (.int .i64 nx)) :: [(n + 1 + 1, bx 3 (.int .i64 a)), (n, bx 22 (.slice A m c)), (n + 1, bx 4 (.bool false))]) W := h.sub (fun x hx => by
    simp only [wB, List.mem_cons, List.not_mem_nil, or_false] at hx ⊢
    rcases hx with rfl | rfl | rfl | rfl <;> simp)
  refine (h1.set (fun x hx => ?_) (by omega) (.int .i64 nx')).sub (fun x hx => ?_)
  · simp only [List.mem_cons, List.not_mem_nil, or_false] at hx
    rcases hx with rfl | rfl | rfl <;> simp <;> omega
  · simp only [wB, List.mem_cons, List.not_mem_nil, or_false] at hx ⊢
    rcases hx with rfl | rfl | rfl | rfl <;> simp
end
theorem cell36' {W : World} {ad : Addr} {l : List S36} (h : Kd.C k36 W (some ad) l.length l) {k : Nat} (hk : k < l.length) : W.cell? (ad.add (k * 2)) = some (.int .i64 l[k].f0) ∧ W.cell? ⟨(ad.add (k * 2)).block, (ad.add (k * 2)).off + 1, none⟩ = some (.int .i64 l[k].f1) := by
  obtain ⟨ad', e, h1, h2⟩ := cell36 h hk
  injection e with e
  subst e
  exact ⟨h1, h2⟩
set_option maxRecDepth 100000 in
set_option maxHeartbeats 8000000 in
theorem whole_calls {w : World} {A : Option Addr} {c : Nat} {l : List S36} (hr : Kd.C k36 w A l.length l) (hz : Fine (prs l)) {Bs : Nat} {sv : Value} (hBs : Bs < w.heap.size) (hc : w.cell? ⟨Bs, 0, none⟩ = some sv) (hI : Ranges w sv (prs l)) :
    Calls Try.prog 28 #[.func (.func 55) #[] #[.pointer (some ⟨Bs, 0, none⟩)], .slice A l.length c] w fun e w' => e = .returned (.bool true) ∧ Below w.heap.size w w' := by
  have hll : (l.length : Int) ≤ 32768 := by have := hz.1; simp [prs] at this; omega
  refine (callsIn_wide (n := 3)).1 ?_
  refine callsIn_of_wp_marks Try.func28 rfl trivial ?_ rfl
  simp only [Try.ntmps28, List.size_toArray, List.length_cons, List.length_nil, Nat.reduceAdd, Nat.reduceSub, Array.replicate_succ, Array.replicate_zero, List.push_toArray, List.append_toArray, List.nil_append, List.cons_append]
  gi_wp2
  have H0 : St w (wB w.heap.size A l.length c 0 0) ((((w.alloc (.cells #[.slice A l.length c] 22)).alloc (.cells #[.bool false] 4)).alloc (.cells #[.int .i64 0] 3)).alloc (.cells #[.int .i64 0] 3)) := by
    have h0 : St w [] w := ⟨fun x hx => (by cases hx), Below.refl _ _⟩
    have h1 := (((h0.box (bx 22 (.slice A l.length c))).box (bx 4 (.bool false))).box (bx 3 (.int .i64 0))).box (bx 3 (.int .i64 0))
    simp only [World.size_alloc] at h1
    exact h1.sub (fun x hx => by
      simp only [wB, List.mem_cons, List.not_mem_nil, or_false] at hx ⊢
      rcases hx with rfl | rfl | rfl | rfl <;> simp)
  have hs0 : ((((w.alloc (.cells #[.slice A l.length c] 22)).alloc (.cells #[.bool false] 4)).alloc (.cells #[.int .i64 0] 3)).alloc (.cells #[.int .i64 0] 3)).heap.size = w.heap.size + 4 := by simp
  generalize hn : w.heap.size = n at H0 hs0 ⊢
  have HN : Hid (n = w.heap.size) := Lib.hid hn.symm
  clear hn
  generalize (((w.alloc (.cells #[.slice A l.length c] 22)).alloc (.cells #[.bool false] 4)).alloc (.cells #[.int .i64 0] 3)).alloc (.cells #[.int .i64 0] 3) = W0 at H0 hs0 ⊢
  have hp0 := Pos.start (fine_width hz)
  have hmx : Try.prog.follows Departure.mixedOrders = true := by kernel_rfl
  refine wpIn_rangeFunc_ownG rfl (by omega) (gf := 55) (lb := #[.pointer (some ⟨Bs, 0, none⟩)]) rfl trivial (enters_of Try.func55 (by kernel_rfl) rfl)
    (each_stops Fence.wide 2 trivial rfl (by omega) Bs sv (prs l) hz W0 (Nat.lt_of_lt_of_le hBs H0.bel.size) ((H0.bel.cell (p := ⟨Bs, 0, none⟩) hBs).trans hc) (hI.below H0.bel rfl)) (fun h k => h.trans k) (fun W l o o' _ h hc _ => keeps36_b W l o o' h hc) (Below.refl _ _) (fun _ => rfl)
    (fun (pre : List Int) W => ∃ a nx : Nat, Pos (prs l) pre a nx ∧ St w (wB n A l.length c (a : Int) (nx : Int)) W)
    (fun cd (pre : List Int) W => ¬ pre <+: spans (prs l))
    ?hI ?hIx ⟨0, 0, hp0, H0⟩
    (fun x => { tmps := #[.func (.func 55) #[] #[.pointer (some ⟨Bs, 0, none⟩)], .slice A l.length c, undef, .pointer (some ⟨n, 0, none⟩), .pointer (some ⟨n + 1, 0, none⟩), .pointer (some ⟨n + 1 + 1, 0, none⟩), .pointer (some ⟨n + 1 + 1 + 1, 0, none⟩), .int .i64 x, .func (.func 55) #[] #[.pointer (some ⟨Bs, 0, none⟩)], .int .i64 x, undef, undef, undef, undef, undef, undef, undef, undef, undef, undef, undef, undef, undef, undef, undef, undef, undef, undef, undef, undef, undef, undef, undef, undef, undef, undef, undef, undef, undef, undef, undef, undef, undef, undef, undef, undef], defers := [] }) ?assign ?body ?done ?stop
  case hI =>
    rintro pre X Y row ⟨a, nx, hp, hs⟩ hg hr
    exact ⟨a, nx, hp, St.own (β := Unit) (w_cells _ _ _ _ _ _) (by have := HN.out; omega) () X Y row hs hg hr⟩
  case hIx => exact fun cd => fun _ _ _ _ hs _ _ => hs
  case assign =>
    intro l x W K hK
    gi_wp2
    exact hK
  case body =>
    rintro lr pre x W ⟨a, nx, hp, hs⟩ hlen
    have c5 := hs.cell (g := n + 1 + 1) List.mem_cons_self
    have c6 := hs.cell (g := n + 1 + 1 + 1) (List.mem_cons_of_mem _ List.mem_cons_self)
    have f6 := hs.frozen (g := n + 1 + 1 + 1) (List.mem_cons_of_mem _ List.mem_cons_self)
    have c3 := hs.cell (g := n) (List.mem_cons_of_mem _ (List.mem_cons_of_mem _ List.mem_cons_self))
    have c4 := hs.cell (g := n + 1) (List.mem_cons_of_mem _ (List.mem_cons_of_mem _ (List.mem_cons_of_mem _ List.mem_cons_self)))
    have f4 := hs.frozen (g := n + 1) (List.mem_cons_of_mem _ (List.mem_cons_of_mem _ (List.mem_cons_of_mem _ List.mem_cons_self)))
    have HS := Lib.hid hs
    have HP := Lib.hid hp
    have HLEN := Lib.hid hlen
    have hrW := Kd.C_below hr hs.bel
    clear hp hs hlen
    by_cases hx : pre ++ [x] <+: spans (prs l)
    · obtain ⟨ha, hxe, hw, hn1, hn2⟩ := HP.out.next (fine_width hz) hx
      rw [prs_len] at ha
      obtain ⟨ad, hAd, r0, r1⟩ := cell36 hrW ha
      have hza := hz.2 a (by rw [prs_len]; exact ha)
      rw [prs_at ha] at hza hxe hw hn1 hn2
      obtain ⟨z0, z1, z2⟩ := hza
      simp only [width] at hw hn1 hn2
      dsimp only at z0 z1 z2 hxe hw hn1 hn2
      have HC : Hid (∀ W, Below w.heap.size w W → W.cell? (ad.add (a * 2)) = some (.int .i64 l[a].f0) ∧ W.cell? ⟨(ad.add (a * 2)).block, (ad.add (a * 2)).off + 1, none⟩ = some (.int .i64 l[a].f1)) := Lib.hid (fun W hb => by
        have := Kd.C_below hr hb
        rw [hAd] at this
        exact cell36' this ha)
      subst hAd
      obtain ⟨lo, hlo⟩ : ∃ lo, lo = l[a].f0 := ⟨_, rfl⟩
      obtain ⟨hi, hhi⟩ : ∃ hi, hi = l[a].f1 := ⟨_, rfl⟩
      rw [← hlo] at r0 HC z0 z1 hxe hw hn1 hn2
      rw [← hhi] at r1 HC z1 z2 hw hn1 hn2
      have HA := Lib.hid ha
      have H1 := Lib.hid hn1
      have H2 := Lib.hid hn2
      have ab : (a : Int) ≤ 32768 := by omega
      have nb : (nx : Int) ≤ 1048576 := by omega
      have wk : IntKind.i64.wrap (lo + (nx : Int)) = x := ((IntWalk.i64_left _).trans (w64 (by omega) (by omega))).trans hxe.symm
      have wk2 : wrap64 (lo + (nx : Int)) = x := (w64 (by omega) (by omega)).trans hxe.symm
      have d0 : decide (l.length ≤ a) = false := decide_eq_false (by omega)
      have d1 : decide ((l.length : Int) ≤ (a : Int)) = false := decide_eq_false (by omega)
      have q1 : (a : Int) < (l.length : Int) := by omega
      have q2 : ((a : Int) < (l.length : Int)) = True := eq_true q1
      have q3 : (0 ≤ (a : Int)) = True := eq_true (by omega)
      have q4 : (x != x) = false := bne_self_eq_false x
      obtain ⟨y, hy⟩ : ∃ y : Int, y = lo + ((nx : Int) + 1) := ⟨_, rfl⟩
      have wy : IntKind.i64.wrap (lo + ((nx : Int) + 1)) = y := ((IntWalk.i64_left _).trans (w64 (by omega) (by omega))).trans hy.symm
      have wy2 : wrap64 (lo + ((nx : Int) + 1)) = y := (w64 (by omega) (by omega)).trans hy.symm
      have HY : Hid (y = hi ↔ nx + 1 = (hi - lo).toNat) := Lib.hid (by omega)
      have HW : Hid (nx < (hi - lo).toNat) := Lib.hid hw
      clear ha hxe hw hn1 hn2 hlo hhi hx z0 z1 z2 hy hrW
      gi_wp2
      refine wpIn_region_quietR (by kernel_rfl) (by kernel_rfl) (by kernel_rfl) ?_
      (repeat (gi_big_quiet_step (fail)))
      refine wpQuietIn_nil ?_
      intro _ hw'
      obtain ⟨nq, hw''⟩ := hw'
      subst hw''
      have hS1 := HS.out.below (pw_below_drewN (Below.refl W.heap.size W) nq)
      have R1 := Rd.drewN (n + 4) W nq
      have e6 := hS1.cell (g := n + 1 + 1 + 1) (List.mem_cons_of_mem _ List.mem_cons_self)
      have ef6 := hS1.frozen (g := n + 1 + 1 + 1) (List.mem_cons_of_mem _ List.mem_cons_self)
      have R2 := R1.trans (Rd.set (n + 4) (hS1.b (n + 1 + 1 + 1, bx 3 (.int .i64 (nx : Int))) (List.mem_cons_of_mem _ List.mem_cons_self)) (by decide) (.int .i64 ((nx : Int) + 1)))
      have hS2 := hS1.w6 HN.out ((nx : Int) + 1)
      clear hS1 R1 c5 c6 f6 c3 c4 f4 r0 r1
      gi_wp2
      generalize (W.drewN nq).setCell ⟨n + 1 + 1 + 1, 0, none⟩ (.int .i64 ((nx : Int) + 1)) = W2 at R2 hS2 ⊢
      have s5 := hS2.cell (g := n + 1 + 1) List.mem_cons_self
      have s6 := hS2.cell (g := n + 1 + 1 + 1) (List.mem_cons_of_mem _ List.mem_cons_self)
      have s3 := hS2.cell (g := n) (List.mem_cons_of_mem _ (List.mem_cons_of_mem _ List.mem_cons_self))
      obtain ⟨r0, r1⟩ := HC.out W2 hS2.bel
      refine wpIn_region_quietR (by kernel_rfl) (by kernel_rfl) (by kernel_rfl) ?_
      (repeat (gi_big_quiet_step (fail)))
      refine wpQuietIn_nil ?_
      intro _ hw'
      obtain ⟨nq2, hw''⟩ := hw'
      subst hw''
      have hS3 := hS2.below (pw_below_drewN (Below.refl W2.heap.size W2) nq2)
      have R3 := R2.trans (Rd.drewN (n + 4) W2 nq2)
      clear hS2 R2 s5 s6 s3 r0 r1 e6 ef6
      generalize W2.drewN nq2 = W3 at hS3 R3 ⊢
      have e5 := hS3.cell (g := n + 1 + 1) List.mem_cons_self
      have ef5 := hS3.frozen (g := n + 1 + 1) List.mem_cons_self
      by_cases hyh : y = hi
      · have d7 : (y == hi) = true := beq_iff_eq.2 hyh
        have HN1 := Lib.hid (H1.out (HY.out.1 hyh))
        have hS4 := hS3.w5 HN.out ((a : Int) + 1)
        have R4 := R3.trans (Rd.set (n + 4) (hS3.b (n + 1 + 1, bx 3 (.int .i64 (a : Int))) List.mem_cons_self) (by decide) (.int .i64 ((a : Int) + 1)))
        have t6 := hS4.cell (g := n + 1 + 1 + 1) (List.mem_cons_of_mem _ List.mem_cons_self)
        have tf6 := hS4.frozen (g := n + 1 + 1 + 1) (List.mem_cons_of_mem _ List.mem_cons_self)
        have hS5 := hS4.w6 HN.out 0
        have R5 := R4.trans (Rd.set (n + 4) (hS4.b (n + 1 + 1 + 1, bx 3 (.int .i64 ((nx : Int) + 1))) (List.mem_cons_of_mem _ List.mem_cons_self)) (by decide) (.int .i64 0))
        have hE := Lib.hid (And.intro hS5 R5)
        clear hS4 R4 hS5 R5 hS3 R3 hyh
        gi_wp2
        exact ⟨hs0 ▸ hE.out.2.f, hE.out.2.k, a + 1, 0, HN1.out, hE.out.1⟩
      · have d7 : (y == hi) = false := beq_eq_false_iff_ne.2 hyh
        have HN2 := Lib.hid (H2.out (by have := HW.out; have := mt HY.out.2 hyh; omega))
        have hE := Lib.hid (And.intro hS3 R3)
        clear hS3 R3 hyh
        gi_wp2
        exact ⟨hs0 ▸ hE.out.2.f, hE.out.2.k, a, nx + 1, HN2.out, hE.out.1⟩
    · obtain ⟨ha, hw, hxe⟩ := HP.out.miss hx HLEN.out
      rw [prs_len] at ha
      obtain ⟨ad, hAd, r0, r1⟩ := cell36 hrW ha
      have hza := hz.2 a (by rw [prs_len]; exact ha)
      rw [prs_at ha] at hza hxe hw
      obtain ⟨z0, z1, z2⟩ := hza
      simp only [width] at hw
      dsimp only at z0 z1 z2 hxe hw
      subst hAd
      obtain ⟨lo, hlo⟩ : ∃ lo, lo = l[a].f0 := ⟨_, rfl⟩
      obtain ⟨hi, hhi⟩ : ∃ hi, hi = l[a].f1 := ⟨_, rfl⟩
      rw [← hlo] at r0 z0 z1 hxe hw
      rw [← hhi] at r1 z1 z2 hw
      have HX := Lib.hid hx
      have ab : (a : Int) ≤ 32768 := by omega
      obtain ⟨y, hy⟩ : ∃ y : Int, y = lo + (nx : Int) := ⟨_, rfl⟩
      have wy : IntKind.i64.wrap (lo + (nx : Int)) = y := ((IntWalk.i64_left _).trans (w64 (by omega) (by omega))).trans hy.symm
      have wy2 : wrap64 (lo + (nx : Int)) = y := (w64 (by omega) (by omega)).trans hy.symm
      have d0 : decide (l.length ≤ a) = false := decide_eq_false (by omega)
      have d1 : decide ((l.length : Int) ≤ (a : Int)) = false := decide_eq_false (by omega)
      have q1 : (a : Int) < (l.length : Int) := by omega
      have q2 : ((a : Int) < (l.length : Int)) = True := eq_true q1
      have q3 : (0 ≤ (a : Int)) = True := eq_true (by omega)
      rw [← hy] at hxe
      have q4 : (x != y) = true := bne_iff_ne.2 hxe
      have q5 : decide (x = y) = false := decide_eq_false hxe
      have q6 : (x = y) = False := eq_false hxe
      have q7 : (x == y) = false := beq_eq_false_iff_ne.2 hxe
      clear ha hxe hw hlo hhi hx z0 z1 z2 hy hrW
      gi_wp2
      refine wpIn_region_quietR (by kernel_rfl) (by kernel_rfl) (by kernel_rfl) ?_
      (repeat (gi_big_quiet_step (fail)))
      refine wpQuietIn_nil ?_
      intro _ hw'
      obtain ⟨nq, hw''⟩ := hw'
      subst hw''
      have e4 : (W.drewN nq).cell? ⟨n + 1, 0, none⟩ = some (.bool false) := c4
      have ef4 : (W.drewN nq).frozen? ⟨n + 1, 0, none⟩ = false := f4
      gi_wp2
      exact ⟨(Rd.drewN _ W nq).f.trans ((KeepsOthers.setCell _ _ _).from _), HX.out⟩
  case done =>
    rintro D xs W hD rfl ⟨a, nx, hp, hs⟩ hK
    have ha := hp.done
    rw [prs_len] at ha
    subst ha
    have c5 := hs.cell (g := n + 1 + 1) List.mem_cons_self
    have c3 := hs.cell (g := n) (List.mem_cons_of_mem _ (List.mem_cons_of_mem _ List.mem_cons_self))
    have f4 := hs.frozen (g := n + 1) (List.mem_cons_of_mem _ (List.mem_cons_of_mem _ (List.mem_cons_of_mem _ List.mem_cons_self)))
    have c4 := hs.cell (g := n + 1) (List.mem_cons_of_mem _ (List.mem_cons_of_mem _ (List.mem_cons_of_mem _ List.mem_cons_self)))
    have d0 : (l.length == l.length) = true := beq_self_eq_true _
    have hb := hs.b (n + 1, bx 4 (.bool false)) (List.mem_cons_of_mem _ (List.mem_cons_of_mem _ (List.mem_cons_of_mem _ List.mem_cons_self)))
    have hbel := hs.bel
    have HE := Lib.hid (And.intro hb hbel)
    clear hb hbel hs hp
    gi_wp2
    have hK2 : (W.setCell ⟨n + 1, 0, none⟩ (.bool true)).heap[D]? = some (.deferred (some [])) := (KeepsOthers.setCell W ⟨n + 1, 0, none⟩ (.bool true)).same _ _ hK rfl
    refine ⟨by simp, .inl ⟨_, _, rfl, run_takeDeferred hK2, ?_⟩⟩
    have b4 := Boxed.set (.bool true) (show Boxed W (n + 1) 4 (.bool false) from HE.out.1)
    have hne : n + 1 ≠ D := by omega
    have b4' : Boxed ((W.setCell ⟨n + 1, 0, none⟩ (.bool true)).putObj D (.deferred none)) (n + 1) 4 (.bool true) := (World.putObj_heap_other (fun e => hne (by omega))).trans b4
    have c4' := b4'.cell
    have hbel0 := HE.out.2.setCell (p := ⟨n + 1, 0, none⟩) (by have := HN.out; show w.heap.size ≤ n + 1; omega) (.bool true)
    have hz0 := hbel0.size
    refine ⟨.bool true, ?_, rfl, ⟨hbel0.os, hbel0.tape, hbel0.output, Nat.le_trans hz0 (by simp), fun k hk => (World.putObj_heap_other (fun e => ?_)).trans (hbel0.block k hk)⟩⟩
    · simp [results, Try.results28, go_sem, c4']
    · have := HN.out
      omega
  case stop =>
    rintro D cd pre W hD hpf hx hK
    exact absurd hpf hx
end Go.Proofs.Ytmidiifgdloojaa.SpanEach
end
section
namespace Go.Proofs.Ytmidiifgdloojaa.SpanEach
open Go.RowKit Go.Proofs.YtmidiifgdloojaaW.PrintWords Go.Proofs.YtmidiifgdloojaaW.PrintLast Go.Proofs.YtmidiifgdloojaaW.PrintMore Go.Proofs.Ytmidiifgdloojaa.Pr Go.Proofs.Ytmidiifgdloojaa.SpanSort
set_option maxRecDepth 100000 in
set_option maxHeartbeats 4000000 in
theorem Each_fresh (k : Nat) (A0 : Option Addr) (c0 : Nat) (l0 : List S36) (r1 r2 : Int) (w : World) (hr0 : Kd.C k36 w A0 l0.length l0) (hc0 : l0.length ≤ c0) (hlen : r2 = 0 → l0.length ≤ 32768) (hC : span_Check.f k l0 = some (r1, r2)) :
    Calls Try.prog 27 #[.slice A0 l0.length c0] w fun e w' => ∃ sv, e = .returned (.func (.func 55) #[] #[.pointer (some ⟨w.heap.size, 0, none⟩)]) ∧ w.heap.size < w'.heap.size ∧
      w'.cell? ⟨w.heap.size, 0, none⟩ = some sv ∧ (Ranges w' sv (if r2 = 0 then prs l0 else []) ∧ ∀ g, sv.ownBlock = some g → w.heap.size ≤ g) ∧ Below w.heap.size w w' := by
  have HR0 := Aside0.mk hr0
  have HC0 := Aside0.mk hc0
  have A2 := Aside0.mk hC
  clear hr0 hc0 hC
  have HB := Aside0.mk (Below.refl w.heap.size w)
  by_cases c3 : r2 = 0
  · have hl := hlen c3
    subst c3
    have g1 : (0 : Int) ≤ (l0.length : Int) := by omega
    have g2 : ((l0.length : Int)).toNat ≤ 17592186044416 := by omega
    go_enter Try.func27, Try.ntmps27
    go_wp2_with (first | ((with_reducible refine gate_callee (f := 51) rfl ?_); refine goesL_ (some 8) rfl rfl Try.func51 (by kernel_rfl) rfl #[.slice A0 l0.length c0] rfl (by (try simp only [List.map_toArray, List.map_cons, List.map_nil]); first | done | rfl | (simp only [List.length_drop, List.length_take]; rfl)) ?_; (with_reducible refine (span_Check.calls k _ _ l0 r1 0 _ ?side1 ?side2 A2.out).mono ?_); (case side1 => repeat (first | exact HR0.out | (with_reducible refine Kd.C_alloc ?_ _) | (with_reducible refine Kd.C_drewN ?_ _) | (with_reducible refine Kd.C_drew ?_))); (case side2 => exact HC0.out); rintro e w4 ⟨rfl, hb⟩; refine ⟨_, rfl, ?_⟩; have b4 : Boxed w4 w.heap.size 22 (.slice none 0 0) := (hb.block _ (by simp)).trans (World.alloc_heap_new w _); have HB4 := Aside0.mk (Below.trans ((Below.refl w.heap.size w).alloc (Nat.le_refl _) _) (hb.mono (by simp))); have hs4 := Aside0.mk b4.lt; clear hb) | ((with_reducible refine gate_dst (N := 15) rfl ?_); refine Kd.R_make k36 _ 36 rfl (N := 15) rfl 22 _ _ rfl (l0.length : Int) rfl rfl Try.underlying22 (.agg #[(.int .i64 0), (.int .i64 0)]) 16 info36 rfl (by decide) (by omega) z36 (ok := fun _ => True) (okp := fun _ => True) (k36_mkM _ _ _ z36) (fun _ hk => hk) trivial g1 (by omega) (Below.refl _ _) (Nat.le_refl _) ?_; intro v15 w19 ho hb hg_ hnew_; have hnew0 : ∃ b, (v15 : Value).ownBlock = some b := Exists.elim hnew_ (fun b h_ => ⟨b, h_.1⟩); clear hg_ hnew_; obtain ⟨A5, c5, hv5⟩ := Kd.R_slice ho; rw [show (List.replicate (l0.length : Int).toNat z36).length = l0.length from by simp] at hv5; subst hv5; have b5 : Boxed w19 w.heap.size 22 (.slice none 0 0) := (hb.block _ hs4.out).trans b4; have b6 := b5.set (.slice A5 l0.length c5); have HO5 := Aside0.mk (Kd.R_set ho b5 (by decide) 0 (.slice A5 l0.length c5)); have HB5 := Aside0.mk ((HB4.out.trans (hb.mono (Nat.le_of_lt hs4.out))).setCell (p := ⟨w.heap.size, 0, none⟩) (Nat.le_refl _) (.slice A5 l0.length c5)); have c5b := b5.cell; have f5b := b5.frozen; have c6b := b6.cell; have hs5 := Aside0.mk hb.size; clear hb ho) | ((with_reducible refine gate_builtin (b := .copy) (xs := #[.tmp 16, .tmp 17]) rfl ?_); refine R_copy36 (w0 := _) w4.heap.size rfl (.tmp 16) (.tmp 17) 22 22 rfl Try.underlying22 info36s _ (List.replicate ((l0.length : Int) : Int).toNat z36) l0 A0 c0 (fun _ => True) rfl rfl (by simp) hnew0 HO5.out ?aR (Below.refl _ _) ?aS ?_; (case aR => exact Kd.C_below HR0.out HB5.out); (case aS => simpa using hs5.out); intro wcp hcp hbcp))
    go_ret
    refine ⟨rfl, Nat.lt_of_lt_of_le b6.lt hbcp.size, _, (hbcp.cell hs4.out).trans c6b, ?_, HB5.out.trans (hbcp.mono (Nat.le_of_lt hs4.out))⟩
    exact ⟨ranges_of_R hcp, fun g hg => Nat.le_trans (Nat.le_of_lt hs4.out) (Kd.R_base hcp g hg)⟩
  · go_enter Try.func27, Try.ntmps27
    go_wp2_with (first | ((with_reducible refine gate_callee (f := 51) rfl ?_); refine goesL_ (some 8) rfl rfl Try.func51 (by kernel_rfl) rfl #[.slice A0 l0.length c0] rfl (by (try simp only [List.map_toArray, List.map_cons, List.map_nil]); first | done | rfl | (simp only [List.length_drop, List.length_take]; rfl)) ?_; (with_reducible refine (span_Check.calls k _ _ l0 r1 r2 _ ?side1 ?side2 A2.out).mono ?_); (case side1 => repeat (first | exact HR0.out | (with_reducible refine Kd.C_alloc ?_ _) | (with_reducible refine Kd.C_drewN ?_ _) | (with_reducible refine Kd.C_drew ?_))); (case side2 => exact HC0.out); rintro e w4 ⟨rfl, hb⟩; refine ⟨_, rfl, ?_⟩; have b4 : Boxed w4 w.heap.size 22 (.slice none 0 0) := (hb.block _ (by simp)).trans (World.alloc_heap_new w _); have HB4 := Aside0.mk (Below.trans ((Below.refl w.heap.size w).alloc (Nat.le_refl _) _) (hb.mono (by simp))); have hs4 := Aside0.mk b4.lt; clear hb))
    go_ret
    refine ⟨rfl, hs4.out, _, b4.cell, ?_, HB4.out⟩
    try rw [if_neg c3]
    exact ⟨.inl ⟨rfl, rfl⟩, fun g hg => by simp [Value.ownBlock] at hg⟩
theorem blk_of_ranges {W : World} {sv : Value} {zs : List (Int × Int)} {n : Nat} (h : Ranges W sv zs) (hn : ∀ g, sv.ownBlock = some g → n ≤ g) : ∃ L : List (Nat × Obj), (∀ x ∈ L, W.heap[x.1]? = some x.2 ∧ x.2.isCells = true ∧ n ≤ x.1) ∧ ∀ W' : World, (∀ x ∈ L, W'.heap[x.1]? = some x.2) → Ranges W' sv zs := by
  rcases h with h | ⟨b, cap, cs, e, hb, hc⟩
  · exact ⟨[], by simp, fun W' _ => .inl h⟩
  · exact ⟨[(b, .cells cs 36 (0, 0))], fun x hx => by rw [List.mem_singleton.1 hx]; exact ⟨hb, rfl, hn b (by rw [e]; rfl)⟩, fun W' hW => .inr ⟨b, cap, cs, e, hW _ List.mem_cons_self, hc⟩⟩
theorem blk_of_cell {W : World} {g : Nat} {v : Value} (h : W.cell? ⟨g, 0, none⟩ = some v) : ∃ o, W.heap[g]? = some o ∧ o.isCells = true ∧ ∀ W' : World, W'.heap[g]? = some o → W'.cell? ⟨g, 0, none⟩ = some v := by
  have hlt := World.block_lt_of_cell? W _ h
  have ho : W.heap[g]? = some W.heap[g] := Array.getElem?_eq_getElem hlt
  refine ⟨_, ho, ?_, fun W' h' => ?_⟩
  · unfold World.cell? at h
    rw [ho] at h
    cases hc : W.heap[g] with
    | cells a b c => rfl
    | _ => rw [hc] at h; simp at h
  · rw [World.cell?_of_block (w := W) (h'.trans ho.symm)]
    exact h
end Go.Proofs.Ytmidiifgdloojaa.SpanEach
end
section
namespace Go.Proofs.Ytmidiifgdloojaa.SpanEach
open Go.RowKit
section
variable {α : Type} {F : Fence} {n : Nat} {P : Program} {g : Operand} {ps : Array Tmp} {assign body : Code} {Q : Exit → Act → World → Prop} {a : Act} {w : World} {gf : Nat} {lb : Array Value} {encs : α → Array Value} {Kp : World → World → Prop} {S Sp : List α → Prop} {N : Nat}
theorem range_H0 (hro : F.round = none) (h1 : 1 ≤ n) (hg : a.eval g = .func (.func gf) #[] lb) (hFg : F.fn gf) (eg : ∀ args w, (callFunc gf args).run P w = .ok (.enter gf args) w) (hseq : SeqStopsK F (n - 1) P gf lb encs Kp S Sp N w)
    (hKr : ∀ W, Kp W W) (hKt : ∀ {A B C : World}, Kp A B → Kp B C → Kp A C) (hKb : ∀ (W : World) (l : Nat) (o o' : Obj), w.heap.size ≤ l → W.heap[l]? = some o → o.isCells = false → o.isWalk = false → Kp W (W.putObj l o')) (hps : ∀ x, (encs x).size = ps.size)
    (I : List α → World → Prop) (Ix : Code → List α → World → Prop) (hI : OwnFrom w.heap.size I) (hIx : ∀ c, OwnFrom w.heap.size (Ix c)) (h0 : I [] w) (a₁ : α → Act)
    (hassign : ∀ (l : Nat) (x : α) (W : World) (K : Act → World → Prop), K (a₁ x) W → assign.wpIn (F.inRound l) (n - 1 - 1) P (Exit.then K (fun _ _ _ => False)) { tmps := (ps.zip (encs x)).foldl (fun t (p, v) => t.setIfInBounds p v) a.tmps, defers := [] } W)
    (hbody : ∀ (l : Nat) (r : Loop) (pre : List α) (x : α) (W : World), w.heap.size ≤ l → W.heap[l]? = some (.loop r) → I pre W → pre.length < N → body.wpIn (F.inRound l) (n - 1 - 1) P (ownPostG w.heap.size Kp I Ix (pre ++ [x]) W) (a₁ x) W)
    (hdone : ∀ (D : Nat) (xs : List α) (W : World), w.heap.size ≤ D → S xs → I xs W → W.heap[D]? = some (.deferred (some [])) → Q .normal { a with defers := { target := .collected D, args := #[] } :: a.defers } W)
    (hstop : ∀ (D : Nat) (c : Code) (pre : List α) (W : World), w.heap.size ≤ D → Sp pre → Ix c pre W → W.heap[D]? = some (.deferred (some [])) → c.wpIn F n P Q { a with defers := { target := .collected D, args := #[] } :: a.defers } W) :
    (Code.rangeFunc g ps assign body).wpIn F n P Q a w :=
  wpIn_rangeFunc_ownH hro h1 hg hFg eg hseq (fun h k => hKt h k) hKb (Below.refl _ _) hps I Ix hI hIx h0 (fun x a' _ => a' = a₁ x) (fun _ _ _ _ _ _ hs _ _ => hs)
    (fun l _ x W K hi hK => hassign l x W K (hK _ _ (KeepsFrom.refl _ _) (hKr W) hi rfl)) (fun l pre x a' W hl ⟨r, hr⟩ hi e hn => by subst e; exact hbody l r pre x W hl hr hi hn) hdone hstop
theorem range_N0 {l₀ : Nat} {r₀ : Loop} (hro : F.round = some l₀) (hl₀ : w.heap[l₀]? = some (.loop r₀)) (h1 : 1 ≤ n) (hg : a.eval g = .func (.func gf) #[] lb) (hFg : F.fn gf) (eg : ∀ args w, (callFunc gf args).run P w = .ok (.enter gf args) w) (hseq : SeqStopsK F (n - 1) P gf lb encs Kp S Sp N w)
    (hKr : ∀ W, Kp W W) (hKt : ∀ {A B C : World}, Kp A B → Kp B C → Kp A C) (hKb : ∀ (W : World) (l : Nat) (o o' : Obj), w.heap.size ≤ l → W.heap[l]? = some o → o.isCells = false → o.isWalk = false → Kp W (W.putObj l o')) (hps : ∀ x, (encs x).size = ps.size)
    (I : List α → World → Prop) (Ix : Code → List α → World → Prop) (hI : OwnFrom w.heap.size I) (hIx : ∀ c, OwnFrom w.heap.size (Ix c)) (h0 : I [] w) (a₁ : α → Act)
    (hassign : ∀ (l : Nat) (x : α) (W : World) (K : Act → World → Prop), K (a₁ x) W → assign.wpIn (F.inRound l) (n - 1 - 1) P (Exit.then K (fun _ _ _ => False)) { tmps := (ps.zip (encs x)).foldl (fun t (p, v) => t.setIfInBounds p v) a.tmps, defers := [] } W)
    (hbody : ∀ (l : Nat) (pre : List α) (x : α) (W : World), w.heap.size ≤ l → I pre W → pre.length < N → body.wpIn (F.inRound l) (n - 1 - 1) P (ownPostG w.heap.size Kp I Ix (pre ++ [x]) W) (a₁ x) W)
    (hdone : ∀ (xs : List α) (W : World), S xs → I xs W → Q .normal a W)
    (hstop : ∀ (c : Code) (pre : List α) (W : World), Sp pre → Ix c pre W → c.wpIn F n P Q a W) :
    (Code.rangeFunc g ps assign body).wpIn F n P Q a w :=
  wpIn_rangeFunc_ownN hro hl₀ h1 hg hFg eg hseq (fun h k => hKt h k) hKb (Below.refl _ _) hps I Ix hI hIx h0 (fun x a' _ => a' = a₁ x) (fun _ _ _ _ _ _ hs _ _ => hs)
    (fun l _ x W K hi hK => hassign l x W K (hK _ _ (KeepsFrom.refl _ _) (hKr W) hi rfl)) (fun l pre x a' W hl _ hi e hn => by subst e; exact hbody l pre x W hl hi hn) hdone hstop
end
end Go.Proofs.Ytmidiifgdloojaa.SpanEach
end
section
namespace Go.Proofs.Ytmidiifgdloojaa.SpanMath
open Go.Proofs.Ytmidiifgdloojaa.Pr
def mem (l : List S36) (q : Int) : Prop := ∃ r ∈ l, r.f0 ≤ q ∧ q < r.f1
theorem mem_nil (q : Int) : mem [] q ↔ False := by simp [mem]
theorem mem_cons (r : S36) (l : List S36) (q : Int) : mem (r :: l) q ↔ (r.f0 ≤ q ∧ q < r.f1) ∨ mem l q := by simp [mem]
theorem mem_append (a b : List S36) (q : Int) : mem (a ++ b) q ↔ mem a q ∨ mem b q := by
  induction a with
  | nil => simp [mem]
  | cons r a ih => rw [List.cons_append, mem_cons, mem_cons, ih, or_assoc]
def Nrm (l : List S36) : Prop := l.Pairwise (fun r s => r.f1 < s.f0) ∧ ∀ r ∈ l, r.f0 < r.f1
theorem nrm_nil : Nrm [] := ⟨List.Pairwise.nil, by simp⟩
theorem nrm_cons {r : S36} {l : List S36} : Nrm (r :: l) ↔ r.f0 < r.f1 ∧ (∀ s ∈ l, r.f1 < s.f0) ∧ Nrm l := by
  unfold Nrm
  rw [List.pairwise_cons]
  constructor
  · rintro ⟨⟨h1, h2⟩, h3⟩
    exact ⟨h3 r List.mem_cons_self, h1, h2, fun s hs => h3 s (List.mem_cons_of_mem _ hs)⟩
  · rintro ⟨h1, h2, h3, h4⟩
    refine ⟨⟨h2, h3⟩, fun s hs => ?_⟩
    rcases List.mem_cons.1 hs with rfl | hs
    · exact h1
    · exact h4 s hs
theorem nrm_append {a b : List S36} : Nrm (a ++ b) ↔ Nrm a ∧ Nrm b ∧ ∀ r ∈ a, ∀ s ∈ b, r.f1 < s.f0 := by
  unfold Nrm
  rw [List.pairwise_append]
  constructor
  · rintro ⟨⟨h1, h2, h3⟩, h4⟩
    exact ⟨⟨h1, fun r hr => h4 r (List.mem_append_left _ hr)⟩, ⟨h2, fun r hr => h4 r (List.mem_append_right _ hr)⟩, h3⟩
  · rintro ⟨⟨h1, h2⟩, ⟨h3, h4⟩, h5⟩
    refine ⟨⟨h1, h3, h5⟩, fun r hr => ?_⟩
    rcases List.mem_append.1 hr with hr | hr
    · exact h2 r hr
    · exact h4 r hr
theorem mem_tail_gt {r : S36} {l : List S36} (h : Nrm (r :: l)) {q : Int} (hq : mem l q) : r.f1 < q := by
  obtain ⟨s, hs, h1, _⟩ := hq
  have := (nrm_cons.1 h).2.1 s hs
  omega
theorem mem_ge {r : S36} {l : List S36} (h : Nrm (r :: l)) {q : Int} (hq : mem (r :: l) q) : r.f0 ≤ q := by
  rcases (mem_cons r l q).1 hq with h1 | h1
  · exact h1.1
  · have := mem_tail_gt h h1
    have := (nrm_cons.1 h).1
    omega
theorem s_ext {r s : S36} (h0 : r.f0 = s.f0) (h1 : r.f1 = s.f1) : r = s := by
  cases r; cases s; simp_all
theorem nrm_ext : ∀ {a b : List S36}, Nrm a → Nrm b → (∀ q, mem a q ↔ mem b q) → a = b
  | [], [], _, _, _ => rfl
  | [], s :: b, _, hb, h => by
    have := (h s.f0).2 ((mem_cons _ _ _).2 (.inl ⟨by omega, (nrm_cons.1 hb).1⟩))
    simp [mem] at this
  | r :: a, [], ha, _, h => by
    have := (h r.f0).1 ((mem_cons _ _ _).2 (.inl ⟨by omega, (nrm_cons.1 ha).1⟩))
    simp [mem] at this
  | r :: a, s :: b, ha, hb, h => by
    have ra := (nrm_cons.1 ha).1
    have sb := (nrm_cons.1 hb).1
    have e0 : r.f0 = s.f0 := by
      have h1 := mem_ge hb ((h r.f0).1 ((mem_cons _ _ _).2 (.inl ⟨by omega, ra⟩)))
      have h2 := mem_ge ha ((h s.f0).2 ((mem_cons _ _ _).2 (.inl ⟨by omega, sb⟩)))
      omega
    have e1 : r.f1 = s.f1 := by
      by_cases c : r.f1 < s.f1
      · have h1 := (h r.f1).2 ((mem_cons _ _ _).2 (.inl ⟨by omega, c⟩))
        rcases (mem_cons _ _ _).1 h1 with h2 | h2
        · omega
        · have := mem_tail_gt ha h2
          omega
      · by_cases c' : s.f1 < r.f1
        · have h1 := (h s.f1).1 ((mem_cons _ _ _).2 (.inl ⟨by omega, c'⟩))
          rcases (mem_cons _ _ _).1 h1 with h2 | h2
          · omega
          · have := mem_tail_gt hb h2
            omega
        · omega
    have er : r = s := s_ext e0 e1
    subst er
    have et : a = b := nrm_ext (nrm_cons.1 ha).2.2 (nrm_cons.1 hb).2.2 (fun q => by
      constructor
      · intro hq
        have g := mem_tail_gt ha hq
        rcases (mem_cons _ _ _).1 ((h q).1 ((mem_cons _ _ _).2 (.inr hq))) with h2 | h2
        · omega
        · exact h2
      · intro hq
        have g := mem_tail_gt hb hq
        rcases (mem_cons _ _ _).1 ((h q).2 ((mem_cons _ _ _).2 (.inr hq))) with h2 | h2
        · omega
        · exact h2)
    rw [et]
def addS (l : List S36) (lo hi : Int) : List S36 :=
  if lo ≥ hi then l else
  match l.getLast? with
  | none => [⟨lo, hi⟩]
  | some r => if r.f1 ≥ lo then l.dropLast ++ [⟨r.f0, if r.f1 < hi then hi else r.f1⟩] else l ++ [⟨lo, hi⟩]
theorem addS_empty {l : List S36} {lo hi : Int} (h : hi ≤ lo) : addS l lo hi = l := by unfold addS; rw [if_pos h]
theorem addS_nil {lo hi : Int} (h : lo < hi) : addS [] lo hi = [⟨lo, hi⟩] := by unfold addS; rw [if_neg (by omega)]; rfl
theorem addS_join {l : List S36} {r : S36} {lo hi : Int} (h : lo < hi) (hr : lo ≤ r.f1) : addS (l ++ [r]) lo hi = l ++ [⟨r.f0, if r.f1 < hi then hi else r.f1⟩] := by
  unfold addS; rw [if_neg (by omega)]; simp [hr]
theorem addS_more {l : List S36} {r : S36} {lo hi : Int} (h : lo < hi) (hr : r.f1 < lo) : addS (l ++ [r]) lo hi = l ++ [r] ++ [⟨lo, hi⟩] := by
  unfold addS; rw [if_neg (by omega)]; simp; omega
theorem concat_cases (l : List S36) : l = [] ∨ ∃ i r, l = i ++ [r] := by
  rcases List.eq_nil_or_concat l with h | ⟨i, r, h⟩
  · exact .inl h
  · exact .inr ⟨i, r, by simpa using h⟩
theorem addS_mem {l : List S36} {lo hi : Int} (h : lo < hi → ∀ r ∈ l, r.f0 ≤ lo) (q : Int) : mem (addS l lo hi) q ↔ mem l q ∨ (lo ≤ q ∧ q < hi) := by
  by_cases c : lo < hi
  · have h' := h c
    rcases concat_cases l with rfl | ⟨i, r, rfl⟩
    · rw [addS_nil c]; simp [mem]
    · have hr := h' r (by simp)
      by_cases c2 : lo ≤ r.f1
      · rw [addS_join c c2, mem_append, mem_append, mem_cons, mem_cons, mem_nil]
        have : (r.f0 ≤ q ∧ q < (if r.f1 < hi then hi else r.f1)) ↔ ((r.f0 ≤ q ∧ q < r.f1) ∨ (lo ≤ q ∧ q < hi)) := by
          split <;> constructor <;> intro h1 <;> omega
        show mem i q ∨ (r.f0 ≤ q ∧ q < (if r.f1 < hi then hi else r.f1)) ∨ False ↔ _
        rw [this]
        constructor
        · rintro (h1 | (h1 | h1) | h1)
          · exact .inl (.inl h1)
          · exact .inl (.inr (.inl h1))
          · exact .inr h1
          · exact h1.elim
        · rintro ((h1 | h1 | h1) | h1)
          · exact .inl h1
          · exact .inr (.inl (.inl h1))
          · exact h1.elim
          · exact .inr (.inl (.inr h1))
      · rw [addS_more c (by omega), mem_append, mem_cons, mem_nil, or_false]
  · rw [addS_empty (by omega)]
    constructor
    · exact .inl
    · rintro (h1 | h1)
      · exact h1
      · omega
theorem addS_nrm {l : List S36} {lo hi : Int} (hn : Nrm l) (h : lo < hi → ∀ r ∈ l, r.f0 ≤ lo) : Nrm (addS l lo hi) := by
  by_cases c : lo < hi
  · have h' := h c
    rcases concat_cases l with rfl | ⟨i, r, rfl⟩
    · rw [addS_nil c]
      exact nrm_cons.2 ⟨c, by simp, nrm_nil⟩
    · have hr := h' r (by simp)
      obtain ⟨h1, h2, h3⟩ := nrm_append.1 hn
      have hrr := (nrm_cons.1 h2).1
      by_cases c2 : lo ≤ r.f1
      · rw [addS_join c c2]
        refine nrm_append.2 ⟨h1, nrm_cons.2 ⟨?_, by simp, nrm_nil⟩, fun x hx s hs => ?_⟩
        · show r.f0 < (if r.f1 < hi then hi else r.f1)
          split <;> omega
        · simp at hs
          subst hs
          exact h3 x hx r (by simp)
      · rw [addS_more c (by omega)]
        refine nrm_append.2 ⟨hn, nrm_cons.2 ⟨c, by simp, nrm_nil⟩, fun x hx s hs => ?_⟩
        simp at hs
        subst hs
        show x.f1 < lo
        rcases List.mem_append.1 hx with hx | hx
        · have := h3 x hx r (by simp)
          omega
        · simp at hx
          subst hx
          omega
  · rw [addS_empty (by omega)]
    exact hn
theorem addS_lo {l : List S36} {lo hi b : Int} (h : ∀ r ∈ l, r.f0 ≤ b) (hb : lo < hi → lo ≤ b) : ∀ r ∈ addS l lo hi, r.f0 ≤ b := by
  by_cases c : lo < hi
  · rcases concat_cases l with rfl | ⟨i, r, rfl⟩
    · rw [addS_nil c]
      intro r hr
      simp at hr
      subst hr
      exact hb c
    · by_cases c2 : lo ≤ r.f1
      · rw [addS_join c c2]
        intro x hx
        rcases List.mem_append.1 hx with hx | hx
        · exact h x (List.mem_append_left _ hx)
        · simp at hx
          subst hx
          exact h r (by simp)
      · rw [addS_more c (by omega)]
        intro x hx
        rcases List.mem_append.1 hx with hx | hx
        · exact h x hx
        · simp at hx
          subst hx
          exact hb c
  · rw [addS_empty (by omega)]
    exact h
theorem addS_in {l : List S36} {lo hi : Int} {a b : Int} (h : ∀ r ∈ l, a ≤ r.f0 ∧ r.f1 ≤ b) (hlo : lo < hi → a ≤ lo ∧ hi ≤ b) : ∀ r ∈ addS l lo hi, a ≤ r.f0 ∧ r.f1 ≤ b := by
  by_cases c : lo < hi
  · have hl := hlo c
    rcases concat_cases l with rfl | ⟨i, r, rfl⟩
    · rw [addS_nil c]
      intro r hr
      simp at hr
      subst hr
      exact hl
    · by_cases c2 : lo ≤ r.f1
      · rw [addS_join c c2]
        intro x hx
        rcases List.mem_append.1 hx with hx | hx
        · exact h x (List.mem_append_left _ hx)
        · simp at hx
          subst hx
          have := h r (by simp)
          refine ⟨this.1, ?_⟩
          show (if r.f1 < hi then hi else r.f1) ≤ b
          split <;> omega
      · rw [addS_more c (by omega)]
        intro x hx
        rcases List.mem_append.1 hx with hx | hx
        · exact h x hx
        · simp at hx
          subst hx
          exact hl
  · rw [addS_empty (by omega)]
    exact h
theorem addS_len (l : List S36) (lo hi : Int) : (addS l lo hi).length ≤ l.length + 1 := by
  by_cases c : lo < hi
  · rcases concat_cases l with rfl | ⟨i, r, rfl⟩
    · rw [addS_nil c]; simp
    · by_cases c2 : lo ≤ r.f1
      · rw [addS_join c c2]; simp
      · rw [addS_more c (by omega)]; simp
  · rw [addS_empty (by omega)]; omega
def adds (l : List S36) (ps : List S36) : List S36 := ps.foldl (fun l p => addS l p.f0 p.f1) l
theorem adds_nil (l : List S36) : adds l [] = l := rfl
theorem adds_cons (l : List S36) (p : S36) (ps : List S36) : adds l (p :: ps) = adds (addS l p.f0 p.f1) ps := rfl
theorem adds_len : ∀ (ps l : List S36), (adds l ps).length ≤ l.length + ps.length
  | [], l => by simp [adds]
  | p :: ps, l => by
    rw [adds_cons]
    have := adds_len ps (addS l p.f0 p.f1)
    have := addS_len l p.f0 p.f1
    simp only [List.length_cons]
    omega
def Up (ps : List S36) : Prop := ps.Pairwise (fun p q => p.f0 < p.f1 → q.f0 < q.f1 → p.f0 ≤ q.f0)
theorem adds_spec : ∀ (ps l : List S36), Nrm l → Up ps → (∀ p ∈ ps, p.f0 < p.f1 → ∀ r ∈ l, r.f0 ≤ p.f0) → Nrm (adds l ps) ∧ ∀ q, mem (adds l ps) q ↔ mem l q ∨ mem ps q
  | [], l, hn, _, _ => ⟨hn, fun q => by rw [adds_nil, mem_nil, or_false]⟩
  | p :: ps, l, hn, hu, hl => by
    have hu' := List.pairwise_cons.1 hu
    have h0 : p.f0 < p.f1 → ∀ r ∈ l, r.f0 ≤ p.f0 := hl p List.mem_cons_self
    obtain ⟨h1, h2⟩ := adds_spec ps (addS l p.f0 p.f1) (addS_nrm hn h0) hu'.2 (fun q hq hqe r hr => by
      refine addS_lo (b := q.f0) (hl q (List.mem_cons_of_mem _ hq) hqe) (fun c => hu'.1 q hq c hqe) r hr)
    refine ⟨h1, fun q => ?_⟩
    rw [adds_cons, h2, addS_mem h0, mem_cons, or_assoc]
theorem adds_in {a b : Int} : ∀ (ps l : List S36), (∀ r ∈ l, a ≤ r.f0 ∧ r.f1 ≤ b) → (∀ p ∈ ps, p.f0 < p.f1 → a ≤ p.f0 ∧ p.f1 ≤ b) → ∀ r ∈ adds l ps, a ≤ r.f0 ∧ r.f1 ≤ b
  | [], _, h, _ => h
  | p :: ps, l, h, hp => by
    rw [adds_cons]
    exact adds_in ps _ (addS_in h (hp p List.mem_cons_self)) (fun q hq => hp q (List.mem_cons_of_mem _ hq))
theorem mem_iff {l l' : List S36} (h : ∀ x, x ∈ l ↔ x ∈ l') (q : Int) : mem l q ↔ mem l' q := by
  constructor
  · rintro ⟨r, hr, hq⟩
    exact ⟨r, (h r).1 hr, hq⟩
  · rintro ⟨r, hr, hq⟩
    exact ⟨r, (h r).2 hr, hq⟩
def Ris (l : List S36) : Prop := l.Pairwise (fun p q => p.f0 ≤ q.f0)
theorem Ris.up {l : List S36} (h : Ris l) : Up l := List.Pairwise.imp (fun h _ _ => h) h
end Go.Proofs.Ytmidiifgdloojaa.SpanMath
end
section
namespace Go.Proofs.Ytmidiifgdloojaa.Pr
open Go.RowKit Go.Proofs.YtmidiifgdloojaaW.PrintWords Go.Proofs.YtmidiifgdloojaaW.PrintLast Go.Proofs.YtmidiifgdloojaaW.PrintMore
attribute [local go_sem] max2_int min2_int max_two min_two max_three min_three max_four min_four
set_option linter.unusedVariables false
set_option linter.unusedSimpArgs false
def span_add.f (l0 : List (S36)) (a1 : Int) (a2 : Int) : Option ((List (S36))) := if a1 ≥ a2 then (some l0) else (if (l0.length : Int) > 0 then (if 0 ≤ (wrap64 ((l0.length : Int) - 1)) then (if (wrap64 ((l0.length : Int) - 1)) < (l0.length : Int) then (if ((rd_T36 l0 (wrap64 ((l0.length : Int) - 1))).f1) ≥ a1 then (some (l0.set ((wrap64 ((l0.length : Int) - 1)) : Int).toNat (⟨(rd_T36 l0 (wrap64 ((l0.length : Int) - 1))).f0, mx ((rd_T36 l0 (wrap64 ((l0.length : Int) - 1))).f1) a2⟩ : S36))) else (if l0.length < 8796093022208 then (some (l0 ++ [(⟨a1, a2⟩ : S36)])) else (none))) else (none)) else (none)) else (if l0.length < 8796093022208 then (some (l0 ++ [(⟨a1, a2⟩ : S36)])) else (none)))
set_option maxHeartbeats 8000000 in
set_option maxRecDepth 100000 in
theorem span_add.calls (P0_ : Nat → Prop) (u9000_ : Value) (l0 : List (S36)) (a1 : Int) (a2 : Int) (r : List (S36)) (w0 w : World) (hB : Below w0.heap.size w0 w) (ho0 : Kd.R k36 36 w w0.heap.size P0_ u9000_ l0) (h : span_add.f l0 a1 a2 = some r) :
  Calls Try.prog 49 #[u9000_, .int .i64 a1, .int .i64 a2] w fun e w' => ∃ v0_ : Value, e = .returned (v0_) ∧ Kd.R k36 36 w' w0.heap.size (fun k_ => (P0_ k_ ∨ w.heap.size ≤ k_)) v0_ r ∧ Below w0.heap.size w0 w' ∧ Kept w w' (fun k_ => P0_ k_) := by
 have hu36 := Try.underlying36
 have HO0 := Aside0.mk (show Kd.R k36 36 w w0.heap.size (fun k_ => (P0_ k_ ∨ w.heap.size ≤ k_)) u9000_ l0 from Kd.R_mono ho0 (fun k_ hk => (.inl hk)))
 have HK := Aside0.mk (Kept.refl w (fun k_ => P0_ k_))
 have HW0 := Aside0.mk hB.size
 have HB := Aside0.mk hB
 clear hB
 have H : (if a1 ≥ a2 then (some l0) else (if (l0.length : Int) > 0 then (if 0 ≤ (wrap64 ((l0.length : Int) - 1)) then (if (wrap64 ((l0.length : Int) - 1)) < (l0.length : Int) then (if ((rd_T36 l0 (wrap64 ((l0.length : Int) - 1))).f1) ≥ a1 then (some (l0.set ((wrap64 ((l0.length : Int) - 1)) : Int).toNat (⟨(rd_T36 l0 (wrap64 ((l0.length : Int) - 1))).f0, mx ((rd_T36 l0 (wrap64 ((l0.length : Int) - 1))).f1) a2⟩ : S36))) else (if l0.length < 8796093022208 then (some (l0 ++ [(⟨a1, a2⟩ : S36)])) else (none))) else (none)) else (none)) else (if l0.length < 8796093022208 then (some (l0 ++ [(⟨a1, a2⟩ : S36)])) else (none)))) = some r := h
 clear h
 by_cases c4 : a1 ≥ a2
 ·rw [if_pos c4] at H
  have c4b0 : decide (a2 ≤ a1) = true := decide_eq_true c4
  clear c4
  obtain rfl := Option.some.inj H
  go_enter Try.func49, Try.ntmps49
  go_wp2
  go_ret
  exact ⟨_, by first | rfl | (simp [errW_none, errW_some] <;> rfl) | (simp [*, errW_none, errW_some] <;> rfl), by (with_reducible repeat (first | apply Kd.R_alloc | apply Kd.R_drewN | apply Kd.R_drew)); exact HO0.out, by repeat (first | (with_reducible first | exact HB.out | apply below_alloc | apply pw_below_drewN | apply below_drew1) | exact HB.out), by repeat (first | (with_reducible first | exact HK.out | apply Kept.alloc | apply Kept.drewN | apply Kept.drew) | exact HK.out)⟩
 ·rw [if_neg c4] at H
  have c4b0 : decide (a2 ≤ a1) = false := decide_eq_false c4
  clear c4
  by_cases c5 : (l0.length : Int) > 0
  ·rw [if_pos c5] at H
   have c5b0 : decide (0 < (l0.length : Int)) = true := decide_eq_true c5
   have c5b1 : decide (0 < l0.length) = true := decide_eq_true (by omega)
   clear c5
   obtain ⟨ji6, hji6⟩ : ∃ j_ : Int, (wrap64 ((l0.length : Int) - 1)) = j_ := ⟨_, rfl⟩
   replace H : (if 0 ≤ (ji6) then (if (ji6) < (l0.length : Int) then (if ((rd_T36 l0 (ji6)).f1) ≥ a1 then (some (l0.set ((ji6) : Int).toNat (⟨(rd_T36 l0 (ji6)).f0, mx ((rd_T36 l0 (ji6)).f1) a2⟩ : S36))) else (if l0.length < 8796093022208 then (some (l0 ++ [(⟨a1, a2⟩ : S36)])) else (none))) else (none)) else (none)) = some r := by first | (rw [hji6] at H; exact H) | (simp only [hji6] at H ⊢; exact H)
   have hji6w : (IntKind.i64.wrap ((l0.length : Int) - 1)) = ji6 := (i64_w _).trans hji6
   by_cases c7 : 0 ≤ (ji6)
   ·rw [if_pos c7] at H
    have c7b0 : decide (0 ≤ (ji6)) = true := decide_eq_true c7
    clear c7
    by_cases c8 : (ji6) < (l0.length : Int)
    ·rw [if_pos c8] at H
     have c8b0 : decide ((ji6) < (l0.length : Int)) = true := decide_eq_true c8
     clear c8
     by_cases c9 : ((rd_T36 l0 (ji6)).f1) ≥ a1
     ·rw [if_pos c9] at H
      have c9b0 : decide (a1 ≤ ((rd_T36 l0 (ji6)).f1)) = true := decide_eq_true c9
      clear c9
      obtain ⟨ji10, hji10⟩ : ∃ j_ : Int, (mx ((rd_T36 l0 (ji6)).f1) a2) = j_ := ⟨_, rfl⟩
      replace H : (some (l0.set ((ji6) : Int).toNat (⟨(rd_T36 l0 (ji6)).f0, ji10⟩ : S36))) = some r := by first | (rw [hji10] at H; exact H) | (simp only [hji10] at H ⊢; exact H)
      have hji10_ : (if ((rd_T36 l0 (ji6)).f1) < a2 then a2 else ((rd_T36 l0 (ji6)).f1)) = ji10 := hji10
      obtain ⟨y105, hy105⟩ : ∃ y_ : List (S36), y_ = (l0.set ((ji6) : Int).toNat (⟨(rd_T36 l0 (ji6)).f0, ji10⟩ : S36)) := ⟨_, rfl⟩
      replace H : (some y105) = some r := by first | (rw [hy105]; with_reducible exact H) | (have H2_ := (Option.bind_some _ _).symm.trans H; rw [hy105]; with_reducible exact H2_) | (have H2_ := (Option.bind_some _ _).symm.trans H; with_reducible exact H2_) | with_reducible exact H | (rw [hy105]; exact H) | exact H
      have Ny105 := Aside0.mk hy105
      clear hy105
      obtain rfl := Option.some.inj H
      obtain ⟨Ao12, co12, eo12⟩ := Kd.R_slice HO0.out
      subst eo12
      have p103 : 0 ≤ ((ji6) : Int) := of_decide_eq_true (by first | (with_reducible assumption) | assumption)
      have q103 : (ji6) < (l0.length : Int) := of_decide_eq_true (by first | (with_reducible assumption) | assumption)
      obtain ⟨ad103, e103, hx103_0, hx103_1⟩ := at_T36 (Kd.R_reads' HO0.out).2.2 (ji6) p103 q103
      cases e103
      replace p103 := eq_true p103
      replace q103 := eq_true q103
      have p104 : 0 ≤ ((ji6) : Int) := of_decide_eq_true (by first | (with_reducible assumption) | assumption)
      have q104 : (ji6) < (l0.length : Int) := of_decide_eq_true (by first | (with_reducible assumption) | assumption)
      obtain ⟨ad104, e104, hx104_0, hx104_1⟩ := at_T36 (Kd.R_reads' HO0.out).2.2 (ji6) p104 q104
      obtain rfl : ad103 = ad104 := (by injection e104)
      replace p104 := eq_true p104
      replace q104 := eq_true q104
      have p11 : 0 ≤ ((ji6) : Int) := of_decide_eq_true (by first | (with_reducible assumption) | assumption)
      have q11 : ((ji6) : Int) < ((l0.length : Int) : Int) := of_decide_eq_true (by first | (with_reducible assumption) | assumption)
      obtain ⟨go11, co11, eo11, gb11, gl11, cl11, HG11⟩ := Kd.R_form HO0.out (by omega)
      (first | cases eo11 | (injection eo11 with ea_ en_ ec_; (first | subst ea_ | (injection ea_ with ea_; subst ea_)); subst ec_; clear en_))
      have GB11 := Aside0.mk gb11
      have GG11 := Aside0.mk HG11
      clear gb11 gl11 HG11
      have HMgo11 := Aside0.mk (show (P0_ go11 ∨ w.heap.size ≤ go11) from (HO0.out.1 _ rfl))
      (first | simp only [add_plain] at hx103_0 | skip)
      (first | simp only [add_plain] at hx103_1 | skip)
      (first | simp only [add_plain] at hx104_0 | skip)
      (first | simp only [add_plain] at hx104_1 | skip)
      obtain ⟨ce11, hcl11, hM11, hcc11, hfr11⟩ := Kd.R_elem HO0.out z36 ((ji6) : Int) p11 q11
      obtain rfl := k36_openM hM11
      have hx11_0 : w.cell? ⟨go11, ((ji6) : Int).toNat * 2, none⟩ = some (.int .i64 ((rd_T36 l0 (ji6)).f0)) := hcc11 0 _ rfl
      have hx11_1 : w.cell? ⟨go11, ((ji6) : Int).toNat * 2 + 1, none⟩ = some (.int .i64 ((rd_T36 l0 (ji6)).f1)) := hcc11 1 _ rfl
      have hf11_0 : w.frozen? ⟨go11, ((ji6) : Int).toNat * 2, none⟩ = false := hfr11 0
      have hf11_1 : w.frozen? ⟨go11, ((ji6) : Int).toNat * 2 + 1, none⟩ = false := hfr11 1
      clear hcl11 hcc11 hfr11 hM11
      replace p11 := eq_true p11
      replace q11 := eq_true q11
      have HX13 := Aside0.mk (show Kd.R k36 36 w w0.heap.size (fun k_ => (P0_ k_ ∨ w.heap.size ≤ k_)) (.slice (some ⟨go11, 0, none⟩) l0.length co12) l0 from (by (with_reducible repeat (first | apply Kd.R_alloc | apply Kd.R_drewN | apply Kd.R_drew)); exact HO0.out))
      obtain ⟨ce13, hcl13, hM13, hcc13, hfr13⟩ := Kd.R_elem HX13.out z36 ((ji6) : Int) (of_decide_eq_true (by first | (with_reducible assumption) | assumption)) (by have h_ : ((ji6) : Int) < ((l0.length : Int) : Int) := of_decide_eq_true (by first | (with_reducible assumption) | assumption); first | exact h_ | (have e_ := (Kd.R_reads' HO0.out).1; omega) | simpa using h_)
      obtain rfl := k36_openM hM13
      have HP13 := Kd.R_seg HX13.out ((ji6) : Int) (of_decide_eq_true (by first | (with_reducible assumption) | assumption)) (by have h_ : ((ji6) : Int) < ((l0.length : Int) : Int) := of_decide_eq_true (by first | (with_reducible assumption) | assumption); first | exact h_ | (have e_ := (Kd.R_reads' HO0.out).1; omega) | simpa using h_) (seg := [.int .i64 ji10]) (j := 1) hcl13 hcc13 (show 2 ≤ 2 from by decide) (x' := (⟨(rd_T36 l0 (ji6)).f0, ji10⟩ : S36)) (k36_mkM _ _ _ (⟨(rd_T36 l0 (ji6)).f0, ji10⟩ : S36) ) (fun _ hk => hk)
      have hx13_1 := hcc13 1 _ rfl
      (try simp only [show (k36).sz = 2 from rfl, Nat.mul_one, Nat.add_zero] at hx13_1)
      have hf13_1 := hfr13 1
      (try simp only [show (k36).sz = 2 from rfl, Nat.mul_one, Nat.add_zero] at hf13_1)
      clear hcl13 hcc13 hfr13 hM13
      go_enter Try.func49, Try.ntmps49
      go_wp2_with (first | ((with_reducible refine gate_store (t := 3) (p := 38) rfl ?_); refine store_event (t := 3) (p := 38) (v := ?vo_w14) (w1 := (w.setCell ⟨go11, ((ji6) : Int).toNat * 2 + 1, none⟩ (.int .i64 ji10))) ?hg ?ho ?hn ?hr ?_; (case ho => rfl); (case hg => rfl); (case hn => rfl); (case hr => first | (go_simp; done) | (go_simp; rfl)); intro w14 hw; have hg : w.grownBy w14 (some go11) := (by rw [hw]; exact HP13.2); have hp_ : Kd.R k36 36 w14 w0.heap.size (fun k_ => (P0_ k_ ∨ w.heap.size ≤ k_)) (.slice (some ⟨go11, 0, none⟩) l0.length co12) y105 := (by rw [hw, Ny105.out]; exact HP13.1); clear HP13; have n0_ := Aside0.mk (hp_); have n1_ := Aside0.mk ((by rw [hw]; exact below_set (HB.out) GB11.out : Below w0.heap.size w0 w14)); have n2_ := Aside0.mk (Kept.of_grown (S := (fun k_ => P0_ k_)) hg (by repeat (first | (with_reducible first | exact HK.out | apply Kept.alloc | apply Kept.drewN | apply Kept.drew) | exact HK.out)) (fun k_ e_ => (HO0.out.1 k_ e_))); clear HO0; clear HB; clear HK; have HO0 := n0_; have HB := n1_; have HK := n2_; clear n0_ n1_ n2_; clear hg hw hp_))
      go_ret
      exact ⟨_, by first | rfl | (simp [errW_none, errW_some] <;> rfl) | (simp only [← hji6, ← hji10]; first | rfl | (simp [errW_none, errW_some] <;> rfl)) | (simp [*, errW_none, errW_some] <;> rfl), by (with_reducible repeat (first | apply Kd.R_alloc | apply Kd.R_drewN | apply Kd.R_drew)); exact HO0.out, by repeat (first | (with_reducible first | exact HB.out | apply below_alloc | apply pw_below_drewN | apply below_drew1) | exact HB.out), by repeat (first | (with_reducible first | exact HK.out | apply Kept.alloc | apply Kept.drewN | apply Kept.drew) | exact HK.out)⟩
     ·rw [if_neg c9] at H
      have c9b0 : decide (a1 ≤ ((rd_T36 l0 (ji6)).f1)) = false := decide_eq_false c9
      clear c9
      by_cases c15 : l0.length < 8796093022208
      ·rw [if_pos c15] at H
       have LMc15 := Aside0.mk c15
       clear c15
       obtain ⟨y106, hy106⟩ : ∃ y_ : List (S36), y_ = (l0 ++ [(⟨a1, a2⟩ : S36)]) := ⟨_, rfl⟩
       replace H : (some y106) = some r := by first | (rw [hy106]; with_reducible exact H) | (have H2_ := (Option.bind_some _ _).symm.trans H; rw [hy106]; with_reducible exact H2_) | (have H2_ := (Option.bind_some _ _).symm.trans H; with_reducible exact H2_) | with_reducible exact H | (rw [hy106]; exact H) | exact H
       have Ny106 := Aside0.mk hy106
       clear hy106
       obtain rfl := Option.some.inj H
       obtain ⟨Ao16, co16, eo16⟩ := Kd.R_slice HO0.out
       subst eo16
       have p103 : 0 ≤ ((ji6) : Int) := of_decide_eq_true (by first | (with_reducible assumption) | assumption)
       have q103 : (ji6) < (l0.length : Int) := of_decide_eq_true (by first | (with_reducible assumption) | assumption)
       obtain ⟨ad103, e103, hx103_0, hx103_1⟩ := at_T36 (Kd.R_reads' HO0.out).2.2 (ji6) p103 q103
       cases e103
       replace p103 := eq_true p103
       replace q103 := eq_true q103
       go_enter Try.func49, Try.ntmps49
       go_wp2_with (first | ((with_reducible refine gate_builtin (b := .append) (xs := #[.tmp 40, .tmp 44]) rfl ?_); at_builtin; refine Kd.R_append k36 (w0 := w0) w0.heap.size rfl (.tmp 40) (.tmp 44) 22 36 (.agg #[(.int .i64 0), (.int .i64 0)]) 16 rfl Try.underlying22 info36 rfl (by decide) (by omega) (.slice (some ad103) l0.length co16) l0 (⟨a1, a2⟩ : S36) [.int .i64 a1, .int .i64 a2] (fun k_ => (P0_ k_ ∨ w.heap.size ≤ k_)) (fun _ => False) rfl rfl ?aP (fun _ hk => hk.elim) ?aF ?aO ?aB ?aS ?aL ?_; (case aP => exact k36_mkM _ _ _ (⟨a1, a2⟩ : S36)); (case aB => exact (by repeat (first | (with_reducible first | exact HB.out | apply below_alloc | apply pw_below_drewN | apply below_drew1) | exact HB.out))); (case aF => exact (fun k_ hk => (.inr (Nat.le_trans (by first | exact HK.out.1 | exact (show Kept w _ (fun k_ => P0_ k_) from by repeat (first | (with_reducible first | exact HK.out | apply Kept.alloc | apply Kept.drewN | apply Kept.drew) | exact HK.out)).1) hk)))); (case aO => exact (by (with_reducible repeat (first | apply Kd.R_alloc | apply Kd.R_drewN | apply Kd.R_drew)); exact HO0.out)); (case aS => exact (below_size (by repeat (first | (with_reducible first | exact HB.out | apply below_alloc | apply pw_below_drewN | apply below_drew1) | exact HB.out)))); (case aL => have := LMc15.out; omega); intro v107 w17 ho hb hg hat; rw [← Ny106.out] at ho; have n0_ := Aside0.mk (hb); have n1_ := Aside0.mk (Kept.of_grown (S := (fun k_ => P0_ k_)) hg (by repeat (first | (with_reducible first | exact HK.out | apply Kept.alloc | apply Kept.drewN | apply Kept.drew) | exact HK.out)) (fun k_ e_ => (HO0.out.1 k_ e_))); have n2_ := Aside0.mk (ho); clear HB; clear HK; clear HO0; have HB := n0_; have HK := n1_; have HO108 := n2_; clear n0_ n1_ n2_; clear ho hb hg hat))
       go_ret
       exact ⟨_, by first | rfl | (simp [errW_none, errW_some] <;> rfl) | (simp only [← hji6]; first | rfl | (simp [errW_none, errW_some] <;> rfl)) | (simp [*, errW_none, errW_some] <;> rfl), by (with_reducible repeat (first | apply Kd.R_alloc | apply Kd.R_drewN | apply Kd.R_drew)); exact HO108.out, by repeat (first | (with_reducible first | exact HB.out | apply below_alloc | apply pw_below_drewN | apply below_drew1) | exact HB.out), by repeat (first | (with_reducible first | exact HK.out | apply Kept.alloc | apply Kept.drewN | apply Kept.drew) | exact HK.out)⟩
      ·rw [if_neg c15] at H
       exact absurd H (by simp)
    ·rw [if_neg c8] at H
     exact absurd H (by simp)
   ·rw [if_neg c7] at H
    exact absurd H (by simp)
  ·rw [if_neg c5] at H
   have c5b0 : decide (0 < (l0.length : Int)) = false := decide_eq_false c5
   have c5b1 : decide (0 < l0.length) = false := decide_eq_false (by omega)
   clear c5
   by_cases c18 : l0.length < 8796093022208
   ·rw [if_pos c18] at H
    have LMc18 := Aside0.mk c18
    clear c18
    obtain ⟨y109, hy109⟩ : ∃ y_ : List (S36), y_ = (l0 ++ [(⟨a1, a2⟩ : S36)]) := ⟨_, rfl⟩
    replace H : (some y109) = some r := by first | (rw [hy109]; with_reducible exact H) | (have H2_ := (Option.bind_some _ _).symm.trans H; rw [hy109]; with_reducible exact H2_) | (have H2_ := (Option.bind_some _ _).symm.trans H; with_reducible exact H2_) | with_reducible exact H | (rw [hy109]; exact H) | exact H
    have Ny109 := Aside0.mk hy109
    clear hy109
    obtain rfl := Option.some.inj H
    obtain ⟨Ao19, co19, eo19⟩ := Kd.R_slice HO0.out
    subst eo19
    go_enter Try.func49, Try.ntmps49
    go_wp2_with (first | ((with_reducible refine gate_builtin (b := .append) (xs := #[.tmp 40, .tmp 44]) rfl ?_); at_builtin; refine Kd.R_append k36 (w0 := w0) w0.heap.size rfl (.tmp 40) (.tmp 44) 22 36 (.agg #[(.int .i64 0), (.int .i64 0)]) 16 rfl Try.underlying22 info36 rfl (by decide) (by omega) (.slice Ao19 l0.length co19) l0 (⟨a1, a2⟩ : S36) [.int .i64 a1, .int .i64 a2] (fun k_ => (P0_ k_ ∨ w.heap.size ≤ k_)) (fun _ => False) rfl rfl ?aP (fun _ hk => hk.elim) ?aF ?aO ?aB ?aS ?aL ?_; (case aP => exact k36_mkM _ _ _ (⟨a1, a2⟩ : S36)); (case aB => exact (by repeat (first | (with_reducible first | exact HB.out | apply below_alloc | apply pw_below_drewN | apply below_drew1) | exact HB.out))); (case aF => exact (fun k_ hk => (.inr (Nat.le_trans (by first | exact HK.out.1 | exact (show Kept w _ (fun k_ => P0_ k_) from by repeat (first | (with_reducible first | exact HK.out | apply Kept.alloc | apply Kept.drewN | apply Kept.drew) | exact HK.out)).1) hk)))); (case aO => exact (by (with_reducible repeat (first | apply Kd.R_alloc | apply Kd.R_drewN | apply Kd.R_drew)); exact HO0.out)); (case aS => exact (below_size (by repeat (first | (with_reducible first | exact HB.out | apply below_alloc | apply pw_below_drewN | apply below_drew1) | exact HB.out)))); (case aL => have := LMc18.out; omega); intro v110 w20 ho hb hg hat; rw [← Ny109.out] at ho; have n0_ := Aside0.mk (hb); have n1_ := Aside0.mk (Kept.of_grown (S := (fun k_ => P0_ k_)) hg (by repeat (first | (with_reducible first | exact HK.out | apply Kept.alloc | apply Kept.drewN | apply Kept.drew) | exact HK.out)) (fun k_ e_ => (HO0.out.1 k_ e_))); have n2_ := Aside0.mk (ho); clear HB; clear HK; clear HO0; have HB := n0_; have HK := n1_; have HO111 := n2_; clear n0_ n1_ n2_; clear ho hb hg hat))
    go_ret
    exact ⟨_, by first | rfl | (simp [errW_none, errW_some] <;> rfl) | (simp [*, errW_none, errW_some] <;> rfl), by (with_reducible repeat (first | apply Kd.R_alloc | apply Kd.R_drewN | apply Kd.R_drew)); exact HO111.out, by repeat (first | (with_reducible first | exact HB.out | apply below_alloc | apply pw_below_drewN | apply below_drew1) | exact HB.out), by repeat (first | (with_reducible first | exact HK.out | apply Kept.alloc | apply Kept.drewN | apply Kept.drew) | exact HK.out)⟩
   ·rw [if_neg c18] at H
    exact absurd H (by simp)
end Go.Proofs.Ytmidiifgdloojaa.Pr
end
section
namespace Go.Proofs.Ytmidiifgdloojaa.Pr
open Go.RowKit Go.Proofs.YtmidiifgdloojaaW.PrintWords Go.Proofs.YtmidiifgdloojaaW.PrintLast Go.Proofs.YtmidiifgdloojaaW.PrintMore
attribute [local go_sem] max2_int min2_int max_two min_two max_three min_three max_four min_four
set_option linter.unusedVariables false
set_option linter.unusedSimpArgs false
def redraftlaw02_copied.f (l0 : List (S36)) : Option ((List (S36))) := if ([] : List (S36)).length + l0.length < 8796093022208 then (some (([] : List (S36)) ++ l0)) else (none)
set_option maxHeartbeats 8000000 in
set_option maxRecDepth 100000 in
theorem redraftlaw02_copied.calls (A0 : Option Addr) (c0 : Nat) (l0 : List (S36)) (r : List (S36)) (w : World) (hr0 : Kd.C k36 w A0 l0.length l0) (hc0 : l0.length ≤ c0) (h : redraftlaw02_copied.f l0 = some r) :
  Calls Try.prog 17 #[.slice A0 l0.length c0] w fun e w' => ∃ v0_ : Value, e = .returned (v0_) ∧ Kd.R k36 36 w' w.heap.size (fun _ => True) v0_ r ∧ Below w.heap.size w w' := by
 have HR0 := Aside0.mk hr0
 have HC0 := Aside0.mk hc0
 clear hr0 hc0
 have HB := Aside0.mk (Below.refl w.heap.size w)
 have H : (if ([] : List (S36)).length + l0.length < 8796093022208 then (some (([] : List (S36)) ++ l0)) else (none)) = some r := h
 clear h
 by_cases c2 : ([] : List (S36)).length + l0.length < 8796093022208
 ·rw [if_pos c2] at H
  have LMc2 := Aside0.mk c2
  clear c2
  obtain ⟨y112, hy112⟩ : ∃ y_ : List (S36), y_ = (([] : List (S36)) ++ l0) := ⟨_, rfl⟩
  replace H : (some y112) = some r := by first | (rw [hy112]; with_reducible exact H) | (have H2_ := (Option.bind_some _ _).symm.trans H; rw [hy112]; with_reducible exact H2_) | (have H2_ := (Option.bind_some _ _).symm.trans H; with_reducible exact H2_) | with_reducible exact H | (rw [hy112]; exact H) | exact H
  have Ny112 := Aside0.mk hy112
  clear hy112
  obtain rfl := Option.some.inj H
  go_enter Try.func17, Try.ntmps17
  go_wp2_with (first | ((with_reducible refine gate_builtin (b := .append) (xs := #[.const (.slice none 0 0), .tmp 3]) rfl ?_); at_builtin; refine Kd.R_append_rows k36 (w0 := w) w.heap.size rfl (.const (.slice none 0 0)) (.tmp 3) 22 36 (.agg #[(.int .i64 0), (.int .i64 0)]) 16 rfl Try.underlying22 info36 rfl (by decide) (by omega) (.slice none 0 0) ([] : List (S36)) l0 _ _ _ (fun _ => True) (fun _ => False) rfl rfl ?aO ?aR (fun _ _ h => h) (fun _ h => h.elim) ?aF ?aB ?aS ?aL ?_; (case aR => repeat (first | exact HR0.out | (with_reducible refine Kd.C_alloc ?_ _) | (with_reducible refine Kd.C_drewN ?_ _) | (with_reducible refine Kd.C_drew ?_))); (case aB => exact (by repeat (first | (with_reducible first | exact HB.out | apply below_alloc | apply pw_below_drewN | apply below_drew1) | exact HB.out))); (case aF => exact (fun _ _ => trivial)); (case aO => exact ((Kd.R_nil _ _ _ _ (fun _ => True)))); (case aS => exact (below_size (by repeat (first | (with_reducible first | exact HB.out | apply below_alloc | apply pw_below_drewN | apply below_drew1) | exact HB.out)))); (case aL => have := LMc2.out; omega); intro v113 w3 ho hb hg hat; rw [← Ny112.out] at ho; have n0_ := Aside0.mk (hb); have n1_ := Aside0.mk (ho); clear HB; have HB := n0_; have HO114 := n1_; clear n0_ n1_; clear ho hb hg hat))
  go_ret
  exact ⟨_, by first | rfl | (simp [errW_none, errW_some] <;> rfl) | (simp [*, errW_none, errW_some] <;> rfl), by (with_reducible repeat (first | apply Kd.R_alloc | apply Kd.R_drewN | apply Kd.R_drew)); exact HO114.out, by repeat (first | (with_reducible first | exact HB.out | apply below_alloc | apply pw_below_drewN | apply below_drew1) | exact HB.out)⟩
 ·rw [if_neg c2] at H
  exact absurd H (by simp)
end Go.Proofs.Ytmidiifgdloojaa.Pr
end
section
namespace Go.Proofs.Ytmidiifgdloojaa.Pr
open Go.RowKit Go.Proofs.YtmidiifgdloojaaW.PrintWords Go.Proofs.YtmidiifgdloojaaW.PrintLast Go.Proofs.YtmidiifgdloojaaW.PrintMore
attribute [local go_sem] max2_int min2_int max_two min_two max_three min_three max_four min_four
set_option linter.unusedVariables false
set_option linter.unusedSimpArgs false
def redraftlaw02_num.f (a0 : Int) : Option (Int) := some a0
set_option maxHeartbeats 8000000 in
set_option maxRecDepth 100000 in
theorem redraftlaw02_num.calls (a0 : Int) (r : Int) (w : World) (h : redraftlaw02_num.f a0 = some r) :
  Calls Try.prog 19 #[.int .i64 a0] w fun e w' => e = .returned (.int .i64 r) ∧ Drawn0 w w' := by
 have H : (some a0) = some r := h
 clear h
 obtain rfl := Option.some.inj H
 go_enter Try.func19, Try.ntmps19
 go_wp2
 go_ret
 exact ⟨by first | rfl | (simp; done) | (simp [*]; done), by repeat (first | exact Drawn0.refl _ | apply Drawn0.step)⟩
end Go.Proofs.Ytmidiifgdloojaa.Pr
end
section
namespace Go.Proofs.Ytmidiifgdloojaa.Pr
open Go.RowKit Go.Proofs.YtmidiifgdloojaaW.PrintWords Go.Proofs.YtmidiifgdloojaaW.PrintLast Go.Proofs.YtmidiifgdloojaaW.PrintMore
attribute [local go_sem] max2_int min2_int max_two min_two max_three min_three max_four min_four
set_option linter.unusedVariables false
set_option linter.unusedSimpArgs false
def span_bounded.f (l0 : List (S36)) : Option ((List (S36)) × Int) := if (l0.length : Int) > 32768 then (some (([] : List (S36)), 21)) else (some (l0, 0))
set_option maxHeartbeats 8000000 in
set_option maxRecDepth 100000 in
theorem span_bounded.calls (P0_ : Nat → Prop) (u9000_ : Value) (l0 : List (S36)) (r1 : List (S36)) (r2 : Int) (w0 w : World) (hB : Below w0.heap.size w0 w) (ho0 : Kd.R k36 36 w w0.heap.size P0_ u9000_ l0) (h : span_bounded.f l0 = some (r1, r2)) :
  Calls Try.prog 50 #[u9000_] w fun e w' => ∃ v0_ : Value, e = .returned (.tuple #[v0_, .int .i64 r2]) ∧ Kd.R k36 36 w' w0.heap.size (fun k_ => (P0_ k_ ∨ w.heap.size ≤ k_)) v0_ r1 ∧ Below w0.heap.size w0 w' ∧ Kept w w' (fun k_ => P0_ k_) := by
 have HO0 := Aside0.mk (show Kd.R k36 36 w w0.heap.size (fun k_ => (P0_ k_ ∨ w.heap.size ≤ k_)) u9000_ l0 from Kd.R_mono ho0 (fun k_ hk => (.inl hk)))
 have HK := Aside0.mk (Kept.refl w (fun k_ => P0_ k_))
 have HW0 := Aside0.mk hB.size
 have HB := Aside0.mk hB
 clear hB
 have H : (if (l0.length : Int) > 32768 then (some (([] : List (S36)), 21)) else (some (l0, 0))) = some (r1, r2) := h
 clear h
 by_cases c2 : (l0.length : Int) > 32768
 ·rw [if_pos c2] at H
  have c2b0 : decide (32768 < (l0.length : Int)) = true := decide_eq_true c2
  have c2b1 : decide (32768 < l0.length) = true := decide_eq_true (by omega)
  clear c2
  simp only [Option.some.injEq, Prod.mk.injEq] at H
  obtain ⟨rfl, rfl⟩ := H
  obtain ⟨Ao3, co3, eo3⟩ := Kd.R_slice HO0.out
  subst eo3
  go_enter Try.func50, Try.ntmps50
  go_wp2
  go_ret2
  exact ⟨_, by first | rfl | (simp [errW_none, errW_some] <;> rfl) | (simp [*, errW_none, errW_some] <;> rfl), by first | exact Kd.R_nil _ _ _ _ _ | exact Kd.N_nil _ _ _ _ _ | exact Kd.V_nil _ _ _ _ _ | exact Kd.Q_nil _ _ _ _ _ | exact Kd.S_nil _ _ _ _ _, by repeat (first | (with_reducible first | exact HB.out | apply below_alloc | apply pw_below_drewN | apply below_drew1) | exact HB.out), by repeat (first | (with_reducible first | exact HK.out | apply Kept.alloc | apply Kept.drewN | apply Kept.drew) | exact HK.out)⟩
 ·rw [if_neg c2] at H
  have c2b0 : decide (32768 < (l0.length : Int)) = false := decide_eq_false c2
  have c2b1 : decide (32768 < l0.length) = false := decide_eq_false (by omega)
  clear c2
  simp only [Option.some.injEq, Prod.mk.injEq] at H
  obtain ⟨rfl, rfl⟩ := H
  obtain ⟨Ao4, co4, eo4⟩ := Kd.R_slice HO0.out
  subst eo4
  go_enter Try.func50, Try.ntmps50
  go_wp2
  go_ret2
  exact ⟨_, by first | rfl | (simp [errW_none, errW_some] <;> rfl) | (simp [*, errW_none, errW_some] <;> rfl), by (with_reducible repeat (first | apply Kd.R_alloc | apply Kd.R_drewN | apply Kd.R_drew)); exact HO0.out, by repeat (first | (with_reducible first | exact HB.out | apply below_alloc | apply pw_below_drewN | apply below_drew1) | exact HB.out), by repeat (first | (with_reducible first | exact HK.out | apply Kept.alloc | apply Kept.drewN | apply Kept.drew) | exact HK.out)⟩
end Go.Proofs.Ytmidiifgdloojaa.Pr
end
section
namespace Go.Proofs.Ytmidiifgdloojaa.Pr
open Go.RowKit Go.Proofs.YtmidiifgdloojaaW.PrintWords Go.Proofs.YtmidiifgdloojaaW.PrintLast Go.Proofs.YtmidiifgdloojaaW.PrintMore
attribute [local go_sem] max2_int min2_int max_two min_two max_three min_three max_four min_four
set_option linter.unusedVariables false
set_option linter.unusedSimpArgs false
mutual
def redraftref02_Check.l0 : Nat → List (S36) → Int → Option (Int × Int)
 | 0, _, _ => none
 | k + 1, x0, x4 => if x4 < (x0.length : Int) then (if 0 ≤ x4 then (if ((rd_T36 x0 x4).f0) < 0 then (redraftref02_Check.j1 k x0 x4 true) else (if ((rd_T36 x0 x4).f1) > 1048576 then (redraftref02_Check.j1 k x0 x4 true) else (redraftref02_Check.j1 k x0 x4 (decide (((rd_T36 x0 x4).f0) ≥ ((rd_T36 x0 x4).f1)))))) else (none)) else (some (0, 0))
def redraftref02_Check.j1 : Nat → List (S36) → Int → Bool → Option (Int × Int)
 | 0, _, _, _ => none
 | k + 1, x0, x4, x40 => if x40 = true then (some (x4, 20)) else (if x4 > 0 then (if 0 ≤ x4 then (if x4 < (x0.length : Int) then (if 0 ≤ (wrap64 (x4 - 1)) then (if (wrap64 (x4 - 1)) < (x0.length : Int) then (if ((rd_T36 x0 x4).f0) ≤ ((rd_T36 x0 (wrap64 (x4 - 1))).f1) then (some (x4, 22)) else (redraftref02_Check.l0 k x0 (wrap64 (x4 + 1)))) else (none)) else (none)) else (none)) else (none)) else (redraftref02_Check.l0 k x0 (wrap64 (x4 + 1))))
end
def redraftref02_Check.f (k : Nat) (l0 : List (S36)) : Option (Int × Int) := if (l0.length : Int) > 32768 then (some (32768, 21)) else (redraftref02_Check.l0 k l0 0)
theorem redraftref02_Check.mono_l : ∀ k, (∀ y0 y1, LeO (redraftref02_Check.l0 k y0 y1) (redraftref02_Check.l0 (k + 1) y0 y1)) ∧ (∀ y0 y1 y2, LeO (redraftref02_Check.j1 k y0 y1 y2) (redraftref02_Check.j1 (k + 1) y0 y1 y2))
 | 0 => ⟨fun _ _ r h => by simp [redraftref02_Check.l0] at h, fun _ _ _ r h => by simp [redraftref02_Check.j1] at h⟩
 | k + 1 => by
  obtain ⟨ih0, ih1⟩ := redraftref02_Check.mono_l k
  refine ⟨?_, ?_⟩
  ·intro y0 y1
   unfold redraftref02_Check.l0
   repeat' first
   | (with_reducible exact ih0 _ _)
   | (with_reducible exact ih1 _ _ _)
   | (with_reducible exact LeO.refl _)
   | (with_reducible exact LeO.none _)
   | (with_reducible refine LeO.ite ?_ ?_)
   | (with_reducible refine LeO.bind ?_ (fun _ => ?_))
   | exact ih0 _ _
   | exact ih1 _ _ _
   | exact LeO.none _
   | refine LeO.ite ?_ ?_
   | refine LeO.bind ?_ (fun _ => ?_)
  ·intro y0 y1 y2
   unfold redraftref02_Check.j1
   repeat' first
   | (with_reducible exact ih0 _ _)
   | (with_reducible exact ih1 _ _ _)
   | (with_reducible exact LeO.refl _)
   | (with_reducible exact LeO.none _)
   | (with_reducible refine LeO.ite ?_ ?_)
   | (with_reducible refine LeO.bind ?_ (fun _ => ?_))
   | exact ih0 _ _
   | exact ih1 _ _ _
   | exact LeO.none _
   | refine LeO.ite ?_ ?_
   | refine LeO.bind ?_ (fun _ => ?_)
theorem redraftref02_Check.mono : ∀ a0 k, LeO (redraftref02_Check.f k a0) (redraftref02_Check.f (k + 1) a0) := by
 intro a0 k
 obtain ⟨ih0, ih1⟩ := redraftref02_Check.mono_l k
 unfold redraftref02_Check.f
 repeat' first
   | (with_reducible exact ih0 _ _)
   | (with_reducible exact ih1 _ _ _)
   | (with_reducible exact LeO.refl _)
   | (with_reducible exact LeO.none _)
   | (with_reducible refine LeO.ite ?_ ?_)
   | (with_reducible refine LeO.bind ?_ (fun _ => ?_))
   | exact ih0 _ _
   | exact ih1 _ _ _
   | exact LeO.none _
   | refine LeO.ite ?_ ?_
   | refine LeO.bind ?_ (fun _ => ?_)
set_option maxHeartbeats 8000000 in
set_option maxRecDepth 100000 in
theorem redraftref02_Check.calls (k : Nat) (A0 : Option Addr) (c0 : Nat) (l0 : List (S36)) (r1 : Int) (r2 : Int) (w : World) (hr0 : Kd.C k36 w A0 l0.length l0) (hc0 : l0.length ≤ c0) (h : redraftref02_Check.f k l0 = some (r1, r2)) :
  Calls Try.prog 54 #[.slice A0 l0.length c0] w fun e w' => e = .returned (.tuple #[.int .i64 r1, .int .i64 r2]) ∧ Drawn0 w w' := by
 have HR0 := Aside0.mk hr0
 have HC0 := Aside0.mk hc0
 clear hr0 hc0
 have H : (if (l0.length : Int) > 32768 then (some (32768, 21)) else (redraftref02_Check.l0 k l0 0)) = some (r1, r2) := h
 clear h
 by_cases c2 : (l0.length : Int) > 32768
 ·rw [if_pos c2] at H
  have c2b0 : decide (32768 < (l0.length : Int)) = true := decide_eq_true c2
  have c2b1 : decide (32768 < l0.length) = true := decide_eq_true (by omega)
  clear c2
  simp only [Option.some.injEq, Prod.mk.injEq] at H
  obtain ⟨rfl, rfl⟩ := H
  go_enter Try.func54, Try.ntmps54
  go_wp2
  repeat (go_quiet (fail); try go_wp2)
  go_ret2
  exact ⟨by first | rfl | (simp; done) | (simp [*]; done), by repeat (first | exact Drawn0.refl _ | apply Drawn0.step)⟩
 ·rw [if_neg c2] at H
  have c2b0 : decide (32768 < (l0.length : Int)) = false := decide_eq_false c2
  have c2b1 : decide (32768 < l0.length) = false := decide_eq_false (by omega)
  clear c2
  have H' := Aside0.mk H
  clear H
  go_enter Try.func54, Try.ntmps54
  go_wp2
  repeat (go_quiet (fail); try go_wp2)
  go_loopg [4] k (fun kq v4 w' => ∃ (x4_1 : Int), v4 = .int .i64 x4_1 ∧ Aside0 (redraftref02_Check.l0 kq l0 x4_1 = some (r1, r2)) ∧ Aside0 (kq ≤ k) ∧ Drawn0 w w')
  case atStart => exact ⟨(0), (by first | rfl | (simp; done) | (simp [*]; done)), H', ⟨Nat.le_refl _⟩, by repeat (first | exact Drawn0.refl _ | apply Drawn0.step)⟩
  case round =>
   clear H'
   try clear c2
   try clear c2b0
   try clear c2b1
   try clear p2
   obtain ⟨x4_1, rfl, HA, HK1, ⟨m1, rfl⟩⟩ := hrel
   cases gk with
   | zero => exact absurd HA.out (by simp [redraftref02_Check.l0])
   | succ k1 =>
    have H := HA.out
    clear HA
    simp only [redraftref02_Check.l0] at H
    by_cases c3 : x4_1 < (l0.length : Int)
    ·rw [if_pos c3] at H
     have c3b0 : decide (x4_1 < (l0.length : Int)) = true := decide_eq_true c3
     clear c3
     have HC4 := Aside0.mk H
     clear H
     go_upto_region 6 with (fail)
     repeat (go_quiet (fail); go_upto_region 6 with (fail))
     go_cut [40] (fun v40 wc => ∃ (kq : Nat) (x40_3 : Bool), v40 = .bool x40_3 ∧ Aside0 (redraftref02_Check.j1 kq l0 x4_1 x40_3 = some (r1, r2)) ∧ Aside0 (kq ≤ k1) ∧ Drawn0 w wc)
     case first =>
      have H := HC4.out
      clear HC4
      by_cases c5 : 0 ≤ x4_1
      ·rw [if_pos c5] at H
       have c5b0 : decide (0 ≤ x4_1) = true := decide_eq_true c5
       clear c5
       (first | rw [c5b0] | (simp only [i64_w, i32_w]; rw [c5b0]) | skip)
       by_cases c6 : ((rd_T36 l0 x4_1).f0) < 0
       ·rw [if_pos c6] at H
        have c6b0 : decide (((rd_T36 l0 x4_1).f0) < 0) = true := decide_eq_true c6
        clear c6
        have H' := Aside0.mk H
        clear H
        have p278 : 0 ≤ (x4_1 : Int) := of_decide_eq_true (by first | (with_reducible assumption) | assumption)
        have q278 : x4_1 < (l0.length : Int) := of_decide_eq_true (by first | (with_reducible assumption) | assumption)
        obtain ⟨ad278, e278, hx278_0, hx278_1⟩ := at_T36 HR0.out x4_1 p278 q278
        cases e278
        replace p278 := eq_true p278
        replace q278 := eq_true q278
        go_wp2
        repeat (go_quiet (fail); try go_wp2)
        go_meet
        case rel => exact ⟨_, (true), (by first | rfl | (simp; done) | (simp [*]; done)), H', ⟨by have := HK1.out; first | omega | exact Nat.le_refl _⟩, by repeat (first | exact Drawn0.refl _ | apply Drawn0.step)⟩
       ·rw [if_neg c6] at H
        have c6b0 : decide (((rd_T36 l0 x4_1).f0) < 0) = false := decide_eq_false c6
        clear c6
        by_cases c7 : ((rd_T36 l0 x4_1).f1) > 1048576
        ·rw [if_pos c7] at H
         have c7b0 : decide (1048576 < ((rd_T36 l0 x4_1).f1)) = true := decide_eq_true c7
         clear c7
         have H' := Aside0.mk H
         clear H
         have p278 : 0 ≤ (x4_1 : Int) := of_decide_eq_true (by first | (with_reducible assumption) | assumption)
         have q278 : x4_1 < (l0.length : Int) := of_decide_eq_true (by first | (with_reducible assumption) | assumption)
         obtain ⟨ad278, e278, hx278_0, hx278_1⟩ := at_T36 HR0.out x4_1 p278 q278
         cases e278
         replace p278 := eq_true p278
         replace q278 := eq_true q278
         have p279 : 0 ≤ (x4_1 : Int) := of_decide_eq_true (by first | (with_reducible assumption) | assumption)
         have q279 : x4_1 < (l0.length : Int) := of_decide_eq_true (by first | (with_reducible assumption) | assumption)
         obtain ⟨ad279, e279, hx279_0, hx279_1⟩ := at_T36 HR0.out x4_1 p279 q279
         obtain rfl : ad278 = ad279 := (by injection e279)
         replace p279 := eq_true p279
         replace q279 := eq_true q279
         go_wp2
         repeat (go_quiet (fail); try go_wp2)
         go_meet
         case rel => exact ⟨_, (true), (by first | rfl | (simp; done) | (simp [*]; done)), H', ⟨by have := HK1.out; first | omega | exact Nat.le_refl _⟩, by repeat (first | exact Drawn0.refl _ | apply Drawn0.step)⟩
        ·rw [if_neg c7] at H
         have c7b0 : decide (1048576 < ((rd_T36 l0 x4_1).f1)) = false := decide_eq_false c7
         clear c7
         have H' := Aside0.mk H
         clear H
         have p278 : 0 ≤ (x4_1 : Int) := of_decide_eq_true (by first | (with_reducible assumption) | assumption)
         have q278 : x4_1 < (l0.length : Int) := of_decide_eq_true (by first | (with_reducible assumption) | assumption)
         obtain ⟨ad278, e278, hx278_0, hx278_1⟩ := at_T36 HR0.out x4_1 p278 q278
         cases e278
         replace p278 := eq_true p278
         replace q278 := eq_true q278
         have p279 : 0 ≤ (x4_1 : Int) := of_decide_eq_true (by first | (with_reducible assumption) | assumption)
         have q279 : x4_1 < (l0.length : Int) := of_decide_eq_true (by first | (with_reducible assumption) | assumption)
         obtain ⟨ad279, e279, hx279_0, hx279_1⟩ := at_T36 HR0.out x4_1 p279 q279
         obtain rfl : ad278 = ad279 := (by injection e279)
         replace p279 := eq_true p279
         replace q279 := eq_true q279
         have p280 : 0 ≤ (x4_1 : Int) := of_decide_eq_true (by first | (with_reducible assumption) | assumption)
         have q280 : x4_1 < (l0.length : Int) := of_decide_eq_true (by first | (with_reducible assumption) | assumption)
         obtain ⟨ad280, e280, hx280_0, hx280_1⟩ := at_T36 HR0.out x4_1 p280 q280
         obtain rfl : ad278 = ad280 := (by injection e280)
         replace p280 := eq_true p280
         replace q280 := eq_true q280
         have p281 : 0 ≤ (x4_1 : Int) := of_decide_eq_true (by first | (with_reducible assumption) | assumption)
         have q281 : x4_1 < (l0.length : Int) := of_decide_eq_true (by first | (with_reducible assumption) | assumption)
         obtain ⟨ad281, e281, hx281_0, hx281_1⟩ := at_T36 HR0.out x4_1 p281 q281
         obtain rfl : ad278 = ad281 := (by injection e281)
         replace p281 := eq_true p281
         replace q281 := eq_true q281
         go_wp2
         repeat (go_quiet (fail); try go_wp2)
         go_meet
         case rel => exact ⟨_, (decide (((rd_T36 l0 x4_1).f0) ≥ ((rd_T36 l0 x4_1).f1))), (by first | rfl | (simp; done) | (simp [*]; done)), H', ⟨by have := HK1.out; first | omega | exact Nat.le_refl _⟩, by repeat (first | exact Drawn0.refl _ | apply Drawn0.step)⟩
      ·rw [if_neg c5] at H
       exact absurd H (by simp)
     case rest =>
      clear HC4
      try clear c2
      try clear c2b0
      try clear c2b1
      try clear p2
      try clear q2
      try clear hx2
      try clear c3
      try clear c3b0
      try clear c5
      try clear c5b0
      try clear c6
      try clear c6b0
      try clear c7
      try clear c7b0
      try clear hx278_0
      try clear hx278_1
      try clear hx279_0
      try clear hx279_1
      try clear hx280_0
      try clear hx280_1
      try clear hx281_0
      try clear hx281_1
      try clear p2
      try clear p278
      try clear p279
      try clear p280
      try clear p281
      try clear q278
      try clear q279
      try clear q280
      try clear q281
      obtain ⟨kq, x40_3, rfl, HA, HJ3, ⟨mc3, rfl⟩⟩ := hcut
      cases kq with
      | zero => exact absurd HA.out (by simp [redraftref02_Check.j1])
      | succ kj3 =>
       have H := HA.out
       clear HA
       simp only [redraftref02_Check.j1] at H
       by_cases c8 : x40_3 = true
       ·subst c8
        have H1 : (some (x4_1, 20)) = some (r1, r2) := by rw [if_pos rfl] at H; exact H
        clear H
        have H := H1
        clear H1
        simp only [Option.some.injEq, Prod.mk.injEq] at H
        obtain ⟨rfl, rfl⟩ := H
        go_wp2
        repeat (go_quiet (fail); try go_wp2)
        go_ret2
        exact ⟨by first | rfl | (simp; done) | (simp [*]; done), by repeat (first | exact Drawn0.refl _ | apply Drawn0.step)⟩
       ·replace c8 := Bool.eq_false_iff.mpr c8
        subst c8
        have H1 : (if x4_1 > 0 then (if 0 ≤ x4_1 then (if x4_1 < (l0.length : Int) then (if 0 ≤ (wrap64 (x4_1 - 1)) then (if (wrap64 (x4_1 - 1)) < (l0.length : Int) then (if ((rd_T36 l0 x4_1).f0) ≤ ((rd_T36 l0 (wrap64 (x4_1 - 1))).f1) then (some (x4_1, 22)) else (redraftref02_Check.l0 kj3 l0 (wrap64 (x4_1 + 1)))) else (none)) else (none)) else (none)) else (none)) else (redraftref02_Check.l0 kj3 l0 (wrap64 (x4_1 + 1)))) = some (r1, r2) := by rw [if_neg (show ¬ (false = true) by decide)] at H; exact H
        clear H
        have H := H1
        clear H1
        by_cases c9 : x4_1 > 0
        ·rw [if_pos c9] at H
         have c9b0 : decide (0 < x4_1) = true := decide_eq_true c9
         clear c9
         by_cases c10 : 0 ≤ x4_1
         ·rw [if_pos c10] at H
          have c10b0 : decide (0 ≤ x4_1) = true := decide_eq_true c10
          clear c10
          by_cases c11 : x4_1 < (l0.length : Int)
          ·rw [if_pos c11] at H
           have c11b0 : decide (x4_1 < (l0.length : Int)) = true := decide_eq_true c11
           clear c11
           obtain ⟨ji12, hji12⟩ : ∃ j_ : Int, (wrap64 (x4_1 - 1)) = j_ := ⟨_, rfl⟩
           replace H : (if 0 ≤ (ji12) then (if (ji12) < (l0.length : Int) then (if ((rd_T36 l0 x4_1).f0) ≤ ((rd_T36 l0 (ji12)).f1) then (some (x4_1, 22)) else (redraftref02_Check.l0 kj3 l0 (wrap64 (x4_1 + 1)))) else (none)) else (none)) = some (r1, r2) := by first | (rw [hji12] at H; exact H) | (simp only [hji12] at H ⊢; exact H)
           have hji12w : (IntKind.i64.wrap (x4_1 - 1)) = ji12 := (i64_w _).trans hji12
           by_cases c13 : 0 ≤ (ji12)
           ·rw [if_pos c13] at H
            have c13b0 : decide (0 ≤ (ji12)) = true := decide_eq_true c13
            clear c13
            by_cases c14 : (ji12) < (l0.length : Int)
            ·rw [if_pos c14] at H
             have c14b0 : decide ((ji12) < (l0.length : Int)) = true := decide_eq_true c14
             clear c14
             by_cases c15 : ((rd_T36 l0 x4_1).f0) ≤ ((rd_T36 l0 (ji12)).f1)
             ·rw [if_pos c15] at H
              have c15b0 : decide (((rd_T36 l0 x4_1).f0) ≤ ((rd_T36 l0 (ji12)).f1)) = true := decide_eq_true c15
              clear c15
              simp only [Option.some.injEq, Prod.mk.injEq] at H
              obtain ⟨rfl, rfl⟩ := H
              have p282 : 0 ≤ (x4_1 : Int) := of_decide_eq_true (by first | (with_reducible assumption) | assumption)
              have q282 : x4_1 < (l0.length : Int) := of_decide_eq_true (by first | (with_reducible assumption) | assumption)
              obtain ⟨ad282, e282, hx282_0, hx282_1⟩ := at_T36 HR0.out x4_1 p282 q282
              cases e282
              replace p282 := eq_true p282
              replace q282 := eq_true q282
              have p283 : 0 ≤ ((ji12) : Int) := of_decide_eq_true (by first | (with_reducible assumption) | assumption)
              have q283 : (ji12) < (l0.length : Int) := of_decide_eq_true (by first | (with_reducible assumption) | assumption)
              obtain ⟨ad283, e283, hx283_0, hx283_1⟩ := at_T36 HR0.out (ji12) p283 q283
              obtain rfl : ad282 = ad283 := (by injection e283)
              replace p283 := eq_true p283
              replace q283 := eq_true q283
              go_wp2
              repeat (go_quiet (fail); try go_wp2)
              go_ret2
              exact ⟨by first | rfl | (simp; done) | (simp only [← hji12] <;> (first | rfl | simp)) | (simp [*]; done), by repeat (first | exact Drawn0.refl _ | apply Drawn0.step)⟩
             ·rw [if_neg c15] at H
              have c15b0 : decide (((rd_T36 l0 x4_1).f0) ≤ ((rd_T36 l0 (ji12)).f1)) = false := decide_eq_false c15
              clear c15
              have H' := Aside0.mk H
              clear H
              have p282 : 0 ≤ (x4_1 : Int) := of_decide_eq_true (by first | (with_reducible assumption) | assumption)
              have q282 : x4_1 < (l0.length : Int) := of_decide_eq_true (by first | (with_reducible assumption) | assumption)
              obtain ⟨ad282, e282, hx282_0, hx282_1⟩ := at_T36 HR0.out x4_1 p282 q282
              cases e282
              replace p282 := eq_true p282
              replace q282 := eq_true q282
              have p283 : 0 ≤ ((ji12) : Int) := of_decide_eq_true (by first | (with_reducible assumption) | assumption)
              have q283 : (ji12) < (l0.length : Int) := of_decide_eq_true (by first | (with_reducible assumption) | assumption)
              obtain ⟨ad283, e283, hx283_0, hx283_1⟩ := at_T36 HR0.out (ji12) p283 q283
              obtain rfl : ad282 = ad283 := (by injection e283)
              replace p283 := eq_true p283
              replace q283 := eq_true q283
              go_wp2
              repeat (go_quiet (fail); try go_wp2)
              go_roundg kj3
              case measure => have := HK1.out; have := HJ3.out; omega
              case rel => exact ⟨(wrap64 (x4_1 + 1)), (by first | rfl | (simp; done) | (simp [*]; done)), H', ⟨by have := HK1.out; have := HJ3.out; omega⟩, by repeat (first | exact Drawn0.refl _ | apply Drawn0.step)⟩
            ·rw [if_neg c14] at H
             exact absurd H (by simp)
           ·rw [if_neg c13] at H
            exact absurd H (by simp)
          ·rw [if_neg c11] at H
           exact absurd H (by simp)
         ·rw [if_neg c10] at H
          exact absurd H (by simp)
        ·rw [if_neg c9] at H
         have c9b0 : decide (0 < x4_1) = false := decide_eq_false c9
         clear c9
         have H' := Aside0.mk H
         clear H
         go_wp2
         repeat (go_quiet (fail); try go_wp2)
         go_roundg kj3
         case measure => have := HK1.out; have := HJ3.out; omega
         case rel => exact ⟨(wrap64 (x4_1 + 1)), (by first | rfl | (simp; done) | (simp [*]; done)), H', ⟨by have := HK1.out; have := HJ3.out; omega⟩, by repeat (first | exact Drawn0.refl _ | apply Drawn0.step)⟩
    ·rw [if_neg c3] at H
     have c3b0 : decide (x4_1 < (l0.length : Int)) = false := decide_eq_false c3
     clear c3
     simp only [Option.some.injEq, Prod.mk.injEq] at H
     obtain ⟨rfl, rfl⟩ := H
     go_wp2
     repeat (go_quiet (fail); try go_wp2)
     go_ret2
     exact ⟨by first | rfl | (simp; done) | (simp [*]; done), by repeat (first | exact Drawn0.refl _ | apply Drawn0.step)⟩
end Go.Proofs.Ytmidiifgdloojaa.Pr
end
section
namespace Go.Proofs.Ytmidiifgdloojaa.Pr
open Go.RowKit Go.Proofs.YtmidiifgdloojaaW.PrintWords Go.Proofs.YtmidiifgdloojaaW.PrintLast Go.Proofs.YtmidiifgdloojaaW.PrintMore
attribute [local go_sem] max2_int min2_int max_two min_two max_three min_three max_four min_four
set_option linter.unusedVariables false
set_option linter.unusedSimpArgs false
def span_outside.f (a0 : Int) : Option (Bool) := if a0 < 0 then (some true) else (some (decide (a0 > 1048576)))
set_option maxHeartbeats 8000000 in
set_option maxRecDepth 100000 in
theorem span_outside.calls (a0 : Int) (r : Bool) (w : World) (h : span_outside.f a0 = some r) :
  Calls Try.prog 52 #[.int .i64 a0] w fun e w' => e = .returned (.bool r) ∧ Drawn0 w w' := by
 have H : (if a0 < 0 then (some true) else (some (decide (a0 > 1048576)))) = some r := h
 clear h
 by_cases c2 : a0 < 0
 ·rw [if_pos c2] at H
  have c2b0 : decide (a0 < 0) = true := decide_eq_true c2
  clear c2
  obtain rfl := Option.some.inj H
  go_enter Try.func52, Try.ntmps52
  go_wp2
  go_ret
  exact ⟨by first | rfl | (simp; done) | (simp [*]; done), by repeat (first | exact Drawn0.refl _ | apply Drawn0.step)⟩
 ·rw [if_neg c2] at H
  have c2b0 : decide (a0 < 0) = false := decide_eq_false c2
  clear c2
  obtain rfl := Option.some.inj H
  go_enter Try.func52, Try.ntmps52
  go_wp2
  go_ret
  exact ⟨by first | rfl | (simp; done) | (simp [*]; done), by repeat (first | exact Drawn0.refl _ | apply Drawn0.step)⟩
end Go.Proofs.Ytmidiifgdloojaa.Pr
end
section
namespace Go.Proofs.Ytmidiifgdloojaa.Pr
open Go.RowKit Go.Proofs.YtmidiifgdloojaaW.PrintWords Go.Proofs.YtmidiifgdloojaaW.PrintLast Go.Proofs.YtmidiifgdloojaaW.PrintMore
attribute [local go_sem] max2_int min2_int max_two min_two max_three min_three max_four min_four
set_option linter.unusedVariables false
set_option linter.unusedSimpArgs false
def span_both.f (k : Nat) (l0 : List (S36)) (l1 : List (S36)) : Option (Int) := (span_Check.f k l0).bind fun bt140 => (if bt140.2 = 0 then ((span_Check.f k l1).bind fun bt142 => (some bt142.2)) else (some bt140.2))
theorem span_both.mono : ∀ a0 a1 k, LeO (span_both.f k a0 a1) (span_both.f (k + 1) a0 a1) := by
 intro a0 a1 k
 unfold span_both.f
 repeat' first
   | (with_reducible exact span_Check.mono _ _)
   | (with_reducible exact LeO.refl _)
   | (with_reducible exact LeO.none _)
   | (with_reducible refine LeO.ite ?_ ?_)
   | (with_reducible refine LeO.bind ?_ (fun _ => ?_))
   | exact span_Check.mono _ _
   | exact LeO.none _
   | refine LeO.ite ?_ ?_
   | refine LeO.bind ?_ (fun _ => ?_)
set_option maxHeartbeats 8000000 in
set_option maxRecDepth 100000 in
theorem span_both.calls (k : Nat) (A0 : Option Addr) (c0 : Nat) (l0 : List (S36)) (A1 : Option Addr) (c1 : Nat) (l1 : List (S36)) (r : Int) (w : World) (hr0 : Kd.C k36 w A0 l0.length l0) (hc0 : l0.length ≤ c0) (hr1 : Kd.C k36 w A1 l1.length l1) (hc1 : l1.length ≤ c1) (h : span_both.f k l0 l1 = some r) :
  Calls Try.prog 53 #[.slice A0 l0.length c0, .slice A1 l1.length c1] w fun e w' => e = .returned (.int .i64 r) ∧ Below w.heap.size w w' := by
 have HR0 := Aside0.mk hr0
 have HC0 := Aside0.mk hc0
 clear hr0 hc0
 have HR1 := Aside0.mk hr1
 have HC1 := Aside0.mk hc1
 clear hr1 hc1
 have HB := Aside0.mk (Below.refl w.heap.size w)
 have H : ((span_Check.f k l0).bind fun bt140 => (if bt140.2 = 0 then ((span_Check.f k l1).bind fun bt142 => (some bt142.2)) else (some bt140.2))) = some r := h
 clear h
 replace H := Option.bind_eq_some_iff.mp H
 obtain ⟨⟨t140, t141⟩, A30, H⟩ := H
 replace H : (if t141 = 0 then ((span_Check.f k l1).bind fun bt142 => (some bt142.2)) else (some t141)) = some r := H
 have A3 := Aside0.mk A30
 clear A30
 by_cases c4 : t141 = 0
 ·rw [if_pos c4] at H
  have c4b0 : (t141 == 0) = true := beq_iff_eq.mpr c4
  have c4b1 : (t141 != 0) = false := bne_eq_false_iff_eq.mpr c4
  clear c4
  replace H := Option.bind_eq_some_iff.mp H
  obtain ⟨⟨t142, t143⟩, A50, H⟩ := H
  replace H : (some t143) = some r := H
  have A5 := Aside0.mk A50
  clear A50
  obtain rfl := Option.some.inj H
  go_enter Try.func53, Try.ntmps53
  go_wp2_with (first | ((with_reducible refine gate_callee (f := 51) rfl ?_); refine goesL_ (some 11) rfl rfl Try.func51 (by kernel_rfl) rfl #[.slice A0 l0.length c0] rfl (by (try simp only [List.map_toArray, List.map_cons, List.map_nil]); first | done | rfl | (simp only [List.length_drop, List.length_take]; rfl)) ?_; (with_reducible refine (span_Check.calls k _ _ l0 t140 t141 _ ?side1 ?side2 A3.out).mono ?_); (case side1 => repeat (first | exact HR0.out | (with_reducible refine Kd.C_alloc ?_ _) | (with_reducible refine Kd.C_drewN ?_ _) | (with_reducible refine Kd.C_drew ?_))); (case side2 => exact HC0.out); rintro e w6 ⟨rfl, hb⟩; refine ⟨_, rfl, ?_⟩; have n0_ := Aside0.mk (below_step (by repeat (first | (with_reducible first | exact HB.out | apply below_alloc | apply pw_below_drewN | apply below_drew1) | exact HB.out)) hb); clear HB; have HB := n0_; clear n0_; (try clear hb); (try clear hb2); (try clear hk); (try clear hi)) | ((with_reducible refine gate_callee (f := 51) rfl ?_); refine goesL_ (some 19) rfl rfl Try.func51 (by kernel_rfl) rfl #[.slice A1 l1.length c1] rfl (by (try simp only [List.map_toArray, List.map_cons, List.map_nil]); first | done | rfl | (simp only [List.length_drop, List.length_take]; rfl)) ?_; (with_reducible refine (span_Check.calls k _ _ l1 t142 t143 _ ?side1 ?side2 A5.out).mono ?_); (case side1 => repeat (first | exact (Kd.C_below HR1.out HB.out) | (with_reducible refine Kd.C_alloc ?_ _) | (with_reducible refine Kd.C_drewN ?_ _) | (with_reducible refine Kd.C_drew ?_))); (case side2 => exact HC1.out); rintro e w7 ⟨rfl, hb⟩; refine ⟨_, rfl, ?_⟩; have n0_ := Aside0.mk (below_step (by repeat (first | (with_reducible first | exact HB.out | apply below_alloc | apply pw_below_drewN | apply below_drew1) | exact HB.out)) hb); clear HB; have HB := n0_; clear n0_; (try clear hb); (try clear hb2); (try clear hk); (try clear hi)))
  go_ret
  exact ⟨by first | rfl | (simp [errW_none, errW_some] <;> rfl) | (simp [*, errW_none, errW_some] <;> rfl), by repeat (first | (with_reducible first | exact HB.out | apply below_alloc | apply pw_below_drewN | apply below_drew1) | exact HB.out)⟩
 ·rw [if_neg c4] at H
  have c4b0 : (t141 == 0) = false := beq_eq_false_iff_ne.mpr c4
  have c4b1 : (t141 != 0) = true := bne_iff_ne.mpr c4
  obtain rfl := Option.some.inj H
  go_enter Try.func53, Try.ntmps53
  go_wp2_with (first | ((with_reducible refine gate_callee (f := 51) rfl ?_); refine goesL_ (some 11) rfl rfl Try.func51 (by kernel_rfl) rfl #[.slice A0 l0.length c0] rfl (by (try simp only [List.map_toArray, List.map_cons, List.map_nil]); first | done | rfl | (simp only [List.length_drop, List.length_take]; rfl)) ?_; (with_reducible refine (span_Check.calls k _ _ l0 t140 t141 _ ?side1 ?side2 A3.out).mono ?_); (case side1 => repeat (first | exact HR0.out | (with_reducible refine Kd.C_alloc ?_ _) | (with_reducible refine Kd.C_drewN ?_ _) | (with_reducible refine Kd.C_drew ?_))); (case side2 => exact HC0.out); rintro e w8 ⟨rfl, hb⟩; refine ⟨_, rfl, ?_⟩; have n0_ := Aside0.mk (below_step (by repeat (first | (with_reducible first | exact HB.out | apply below_alloc | apply pw_below_drewN | apply below_drew1) | exact HB.out)) hb); clear HB; have HB := n0_; clear n0_; (try clear hb); (try clear hb2); (try clear hk); (try clear hi)))
  go_ret
  exact ⟨by first | rfl | (simp [errW_none, errW_some] <;> rfl) | (simp [*, errW_none, errW_some] <;> rfl), by repeat (first | (with_reducible first | exact HB.out | apply below_alloc | apply pw_below_drewN | apply below_drew1) | exact HB.out)⟩
end Go.Proofs.Ytmidiifgdloojaa.Pr
end
section
namespace Go.Proofs.Ytmidiifgdloojaa.Pr
open Go.RowKit Go.Proofs.YtmidiifgdloojaaW.PrintWords Go.Proofs.YtmidiifgdloojaaW.PrintLast Go.Proofs.YtmidiifgdloojaaW.PrintMore
attribute [local go_sem] max2_int min2_int max_two min_two max_three min_three max_four min_four
set_option linter.unusedVariables false
set_option linter.unusedSimpArgs false
theorem eqA36 (d : Nat) (w : World) (x0 y0 : Int) (x1 y1 : Int) :
  (Op.equalIn (d + 2) 36 (.agg #[.int .i64 x0, .int .i64 x1]) (.agg #[.int .i64 y0, .int .i64 y1])).run Try.prog w = .ok (x0 == y0 && (x1 == y1)) w := by
 refine eqA_of Try.underlying36 (by kernel_rfl) ?_
 refine eqf_cons (by rfl) (by go_simp; rfl) (by go_simp; rfl) (by go_simp) ?_
 exact eqf_last (by rfl) (by go_simp; rfl) (by go_simp; rfl) (by go_simp)
end Go.Proofs.Ytmidiifgdloojaa.Pr
end
section
namespace Go.Proofs.Ytmidiifgdloojaa.Pr
open Go.RowKit Go.Proofs.YtmidiifgdloojaaW.PrintWords Go.Proofs.YtmidiifgdloojaaW.PrintLast Go.Proofs.YtmidiifgdloojaaW.PrintMore
attribute [local go_sem] max2_int min2_int max_two min_two max_three min_three max_four min_four
set_option linter.unusedVariables false
set_option linter.unusedSimpArgs false
attribute [local go_sem high] eqA36
def redraftlaw02_same.l0 : Nat → List (S36) → List (S36) → Int → Option (Bool)
 | 0, _, _, _ => none
 | k + 1, x0, x1, x5 => if x5 < (x0.length : Int) then (if 0 ≤ x5 then (if x5 < (x1.length : Int) then (if (!(((rd_T36 x0 x5).f0) == ((rd_T36 x1 x5).f0)) || (!(((rd_T36 x0 x5).f1) == ((rd_T36 x1 x5).f1)))) = true then (some false) else (redraftlaw02_same.l0 k x0 x1 (wrap64 (x5 + 1)))) else (none)) else (none)) else (some true)
def redraftlaw02_same.f (k : Nat) (l0 : List (S36)) (l1 : List (S36)) : Option (Bool) := if (l0.length : Int) = (l1.length : Int) then (redraftlaw02_same.l0 k l0 l1 0) else (some false)
theorem redraftlaw02_same.mono_l : ∀ k, (∀ y0 y1 y2, LeO (redraftlaw02_same.l0 k y0 y1 y2) (redraftlaw02_same.l0 (k + 1) y0 y1 y2))
 | 0 => fun _ _ _ r h => by simp [redraftlaw02_same.l0] at h
 | k + 1 => by
  have ih0 := redraftlaw02_same.mono_l k
  ·intro y0 y1 y2
   unfold redraftlaw02_same.l0
   repeat' first
   | (with_reducible exact ih0 _ _ _)
   | (with_reducible exact LeO.refl _)
   | (with_reducible exact LeO.none _)
   | (with_reducible refine LeO.ite ?_ ?_)
   | (with_reducible refine LeO.bind ?_ (fun _ => ?_))
   | exact ih0 _ _ _
   | exact LeO.none _
   | refine LeO.ite ?_ ?_
   | refine LeO.bind ?_ (fun _ => ?_)
theorem redraftlaw02_same.mono : ∀ a0 a1 k, LeO (redraftlaw02_same.f k a0 a1) (redraftlaw02_same.f (k + 1) a0 a1) := by
 intro a0 a1 k
 have ih0 := redraftlaw02_same.mono_l k
 unfold redraftlaw02_same.f
 repeat' first
   | (with_reducible exact ih0 _ _ _)
   | (with_reducible exact LeO.refl _)
   | (with_reducible exact LeO.none _)
   | (with_reducible refine LeO.ite ?_ ?_)
   | (with_reducible refine LeO.bind ?_ (fun _ => ?_))
   | exact ih0 _ _ _
   | exact LeO.none _
   | refine LeO.ite ?_ ?_
   | refine LeO.bind ?_ (fun _ => ?_)
set_option maxHeartbeats 8000000 in
set_option maxRecDepth 100000 in
theorem redraftlaw02_same.calls (k : Nat) (A0 : Option Addr) (c0 : Nat) (l0 : List (S36)) (A1 : Option Addr) (c1 : Nat) (l1 : List (S36)) (r : Bool) (w : World) (hr0 : Kd.C k36 w A0 l0.length l0) (hc0 : l0.length ≤ c0) (hr1 : Kd.C k36 w A1 l1.length l1) (hc1 : l1.length ≤ c1) (h : redraftlaw02_same.f k l0 l1 = some r) :
  Calls Try.prog 25 #[.slice A0 l0.length c0, .slice A1 l1.length c1] w fun e w' => e = .returned (.bool r) ∧ Drawn0 w w' := by
 have hu36 := Try.underlying36
 have HR0 := Aside0.mk hr0
 have HC0 := Aside0.mk hc0
 clear hr0 hc0
 have HR1 := Aside0.mk hr1
 have HC1 := Aside0.mk hc1
 clear hr1 hc1
 have H : (if (l0.length : Int) = (l1.length : Int) then (redraftlaw02_same.l0 k l0 l1 0) else (some false)) = some r := h
 clear h
 by_cases c3 : (l0.length : Int) = (l1.length : Int)
 ·rw [if_pos c3] at H
  have c3b0 : ((l0.length : Int) == (l1.length : Int)) = true := beq_iff_eq.mpr c3
  have c3b1 : ((l0.length : Int) != (l1.length : Int)) = false := bne_eq_false_iff_eq.mpr c3
  have c3b2 : (l0.length == l1.length) = true := by first | simpa using c3 | (simp at c3 ⊢; omega)
  clear c3
  have H' := Aside0.mk H
  clear H
  go_enter Try.func25, Try.ntmps25
  go_wp2
  repeat (go_quiet (fail); try go_wp2)
  go_loopg [5] k (fun kq v5 w' => ∃ (x5_1 : Int), v5 = .int .i64 x5_1 ∧ Aside0 (redraftlaw02_same.l0 kq l0 l1 x5_1 = some r) ∧ Aside0 (kq ≤ k) ∧ Drawn0 w w')
  case atStart => exact ⟨(0), (by first | rfl | (simp; done) | (simp [*]; done)), H', ⟨Nat.le_refl _⟩, by repeat (first | exact Drawn0.refl _ | apply Drawn0.step)⟩
  case round =>
   clear H'
   try clear c1
   try clear c2
   try clear p2
   try clear c3
   try clear c3b0
   try clear c3b1
   try clear c3b2
   obtain ⟨x5_1, rfl, HA, HK1, ⟨m1, rfl⟩⟩ := hrel
   cases gk with
   | zero => exact absurd HA.out (by simp [redraftlaw02_same.l0])
   | succ k1 =>
    have H := HA.out
    clear HA
    simp only [redraftlaw02_same.l0] at H
    by_cases c4 : x5_1 < (l0.length : Int)
    ·rw [if_pos c4] at H
     have c4b0 : decide (x5_1 < (l0.length : Int)) = true := decide_eq_true c4
     clear c4
     by_cases c5 : 0 ≤ x5_1
     ·rw [if_pos c5] at H
      have c5b0 : decide (0 ≤ x5_1) = true := decide_eq_true c5
      clear c5
      by_cases c6 : x5_1 < (l1.length : Int)
      ·rw [if_pos c6] at H
       have c6b0 : decide (x5_1 < (l1.length : Int)) = true := decide_eq_true c6
       clear c6
       by_cases c7 : (!(((rd_T36 l0 x5_1).f0) == ((rd_T36 l1 x5_1).f0)) || (!(((rd_T36 l0 x5_1).f1) == ((rd_T36 l1 x5_1).f1)))) = true
       ·rw [if_pos c7] at H
        have c7b0 : (!(((rd_T36 l0 x5_1).f0) == ((rd_T36 l1 x5_1).f0)) || (!(((rd_T36 l0 x5_1).f1) == ((rd_T36 l1 x5_1).f1)))) = true := c7
        clear c7
        obtain rfl := Option.some.inj H
        have p171 : 0 ≤ (x5_1 : Int) := of_decide_eq_true (by first | (with_reducible assumption) | assumption)
        have q171 : x5_1 < (l0.length : Int) := of_decide_eq_true (by first | (with_reducible assumption) | assumption)
        obtain ⟨ad171, e171, hx171_0, hx171_1⟩ := at_T36 HR0.out x5_1 p171 q171
        cases e171
        replace p171 := eq_true p171
        replace q171 := eq_true q171
        have p172 : 0 ≤ (x5_1 : Int) := of_decide_eq_true (by first | (with_reducible assumption) | assumption)
        have q172 : x5_1 < (l1.length : Int) := of_decide_eq_true (by first | (with_reducible assumption) | assumption)
        obtain ⟨ad172, e172, hx172_0, hx172_1⟩ := at_T36 HR1.out x5_1 p172 q172
        cases e172
        replace p172 := eq_true p172
        replace q172 := eq_true q172
        go_wp2
        repeat (go_quiet (fail); try go_wp2)
        go_ret
        exact ⟨by first | rfl | (simp; done) | (simp [*]; done), by repeat (first | exact Drawn0.refl _ | apply Drawn0.step)⟩
       ·rw [if_neg c7] at H
        have c7b0 : (!(((rd_T36 l0 x5_1).f0) == ((rd_T36 l1 x5_1).f0)) || (!(((rd_T36 l0 x5_1).f1) == ((rd_T36 l1 x5_1).f1)))) = false := by simpa using c7
        clear c7
        have H' := Aside0.mk H
        clear H
        have p171 : 0 ≤ (x5_1 : Int) := of_decide_eq_true (by first | (with_reducible assumption) | assumption)
        have q171 : x5_1 < (l0.length : Int) := of_decide_eq_true (by first | (with_reducible assumption) | assumption)
        obtain ⟨ad171, e171, hx171_0, hx171_1⟩ := at_T36 HR0.out x5_1 p171 q171
        cases e171
        replace p171 := eq_true p171
        replace q171 := eq_true q171
        have p172 : 0 ≤ (x5_1 : Int) := of_decide_eq_true (by first | (with_reducible assumption) | assumption)
        have q172 : x5_1 < (l1.length : Int) := of_decide_eq_true (by first | (with_reducible assumption) | assumption)
        obtain ⟨ad172, e172, hx172_0, hx172_1⟩ := at_T36 HR1.out x5_1 p172 q172
        cases e172
        replace p172 := eq_true p172
        replace q172 := eq_true q172
        go_wp2
        repeat (go_quiet (fail); try go_wp2)
        go_roundg k1
        case measure => have := HK1.out; omega
        case rel => exact ⟨(wrap64 (x5_1 + 1)), (by first | rfl | (simp; done) | (simp [*]; done)), H', ⟨by have := HK1.out; omega⟩, by repeat (first | exact Drawn0.refl _ | apply Drawn0.step)⟩
      ·rw [if_neg c6] at H
       exact absurd H (by simp)
     ·rw [if_neg c5] at H
      exact absurd H (by simp)
    ·rw [if_neg c4] at H
     have c4b0 : decide (x5_1 < (l0.length : Int)) = false := decide_eq_false c4
     clear c4
     obtain rfl := Option.some.inj H
     go_wp2
     repeat (go_quiet (fail); try go_wp2)
     go_ret
     exact ⟨by first | rfl | (simp; done) | (simp [*]; done), by repeat (first | exact Drawn0.refl _ | apply Drawn0.step)⟩
 ·rw [if_neg c3] at H
  have c3b0 : ((l0.length : Int) == (l1.length : Int)) = false := beq_eq_false_iff_ne.mpr c3
  have c3b1 : ((l0.length : Int) != (l1.length : Int)) = true := bne_iff_ne.mpr c3
  have c3b2 : (l0.length == l1.length) = false := by first | simpa using c3 | (simp at c3 ⊢; omega)
  obtain rfl := Option.some.inj H
  go_enter Try.func25, Try.ntmps25
  go_wp2
  repeat (go_quiet (fail); try go_wp2)
  go_ret
  exact ⟨by first | rfl | (simp; done) | (simp [*]; done), by repeat (first | exact Drawn0.refl _ | apply Drawn0.step)⟩
end Go.Proofs.Ytmidiifgdloojaa.Pr
end
section
namespace Go.Proofs.Ytmidiifgdloojaa.SpanFns
open Go.RowKit Go.Proofs.YtmidiifgdloojaaW.PrintWords Go.Proofs.YtmidiifgdloojaaW.PrintMore Go.Proofs.Ytmidiifgdloojaa.Pr Go.Proofs.Ytmidiifgdloojaa.SpanMath
theorem w64 {n : Int} (h0 : -9223372036854775808 ≤ n) (h1 : n ≤ 9223372036854775807) : wrap64 n = n := IntWalk.wrap64_in n ⟨h0, h1⟩
theorem rd_at (pre : List S36) (r : S36) (suf : List S36) : rd_T36 (pre ++ r :: suf) (pre.length : Int) = r := by simp [rd_T36]
theorem rd_last (i : List S36) (r : S36) (suf : List S36) : rd_T36 (i ++ [r] ++ suf) ((i ++ [r]).length - 1 : Int) = r := by
  have : (((i ++ [r]).length : Int) - 1).toNat = i.length := by simp only [List.length_append, List.length_singleton]; omega
  unfold rd_T36
  rw [this, List.append_assoc]
  simp
instance decS : DecidableEq S36 := fun r s => decidable_of_iff (r.f0 = s.f0 ∧ r.f1 = s.f1) ⟨fun h => s_ext h.1 h.2, fun h => by rw [h]; exact ⟨rfl, rfl⟩⟩
abbrev Short (l : List S36) : Prop := l.length < 8796093022208
theorem add_f {l : List S36} {lo hi : Int} (h : Short l) : span_add.f l lo hi = some (addS l lo hi) := by
  unfold span_add.f
  by_cases c : lo ≥ hi
  · rw [if_pos c, addS_empty (by omega)]
  · rw [if_neg c]
    rcases concat_cases l with rfl | ⟨i, r, rfl⟩
    · rw [if_neg (by simp), if_pos (by simp), addS_nil (by omega)]
      rfl
    · have hl : (i ++ [r]).length = i.length + 1 := by simp
      have h' : (i ++ [r]).length < 8796093022208 := h
      have e1 : wrap64 (((i ++ [r]).length : Int) - 1) = ((i ++ [r]).length : Int) - 1 := w64 (by omega) (by omega)
      have e2 : rd_T36 (i ++ [r]) (((i ++ [r]).length : Int) - 1) = r := by have := rd_last i r []; rwa [List.append_nil] at this
      have e3 : (((i ++ [r]).length : Int) - 1).toNat = i.length := by omega
      rw [e1, e2, e3, if_pos (by omega), if_pos (by omega), if_pos (by omega)]
      by_cases c2 : r.f1 ≥ lo
      · rw [if_pos c2, addS_join (by omega) c2]
        simp [mx]
      · rw [if_neg c2, if_pos h', addS_more (by omega) (by omega)]
theorem bounded_f (l : List S36) : span_bounded.f l = some (if l.length > 32768 then [] else l, if l.length > 32768 then 21 else 0) := by
  unfold span_bounded.f
  by_cases c : l.length > 32768
  · rw [if_pos (by omega), if_pos c, if_pos c]
  · rw [if_neg (by omega), if_neg c, if_neg c]
theorem copied_f {l : List S36} (h : Short l) : redraftlaw02_copied.f l = some l := by
  unfold redraftlaw02_copied.f
  rw [if_pos (by simpa using h)]
  rfl
def chk (i : Int) (prev : Option S36) : List S36 → Int × Int
  | [] => (0, 0)
  | r :: l => if r.f0 < 0 ∨ r.f1 > 1048576 ∨ r.f0 ≥ r.f1 then (i, 20) else if prev.any (fun p => decide (r.f0 ≤ p.f1)) = true then (i, 22) else chk (i + 1) (some r) l
def checkS (l : List S36) : Int × Int := if l.length > 32768 then (32768, 21) else chk 0 none l
theorem getLast_snoc (pre : List S36) (r : S36) : (pre ++ [r]).getLast? = some r := by simp
theorem Check_l0 : ∀ (suf pre : List S36) (k : Nat), Short (pre ++ suf) → 2 * suf.length + 1 ≤ k →
    span_Check.l0 k (pre ++ suf) (pre ++ suf) ((pre ++ suf).length : Int) (pre.length : Int) = some (chk pre.length pre.getLast? suf)
  | [], pre, k, hs, hk => by
    obtain ⟨k, rfl⟩ : ∃ m, k = m + 1 := ⟨k - 1, by omega⟩
    simp only [span_Check.l0]
    rw [if_neg (by simp)]
    rfl
  | r :: suf, pre, k, hs, hk => by
    simp only [List.length_cons] at hk
    obtain ⟨k, rfl⟩ : ∃ m, k = m + 2 := ⟨k - 2, by omega⟩
    have hl : (pre ++ r :: suf).length = pre.length + 1 + suf.length := by simp; omega
    have hs' : (pre ++ r :: suf).length < 8796093022208 := hs
    simp only [span_Check.l0]
    rw [if_pos (by omega), if_pos (by omega), if_pos (by omega), rd_at]
    have ih := Check_l0 suf (pre ++ [r]) k (by rw [List.append_assoc]; exact hs) (by omega)
    rw [List.append_assoc, List.singleton_append] at ih
    have e1 : wrap64 ((pre.length : Int) + 1) = ((pre ++ [r]).length : Int) := by rw [w64 (by omega) (by omega)]; simp
    have key : ∀ b : Bool, (b = decide (r.f0 < 0 ∨ r.f1 > 1048576 ∨ r.f0 ≥ r.f1)) → span_Check.j1 (k + 1) (pre ++ r :: suf) (pre.length : Int) (pre ++ r :: suf) ((pre ++ r :: suf).length : Int) (pre.length : Int) b r.f0 r.f1 = some (chk pre.length pre.getLast? (r :: suf)) := by
      rintro b rfl
      simp only [span_Check.j1]
      rw [chk]
      by_cases c : r.f0 < 0 ∨ r.f1 > 1048576 ∨ r.f0 ≥ r.f1
      · rw [if_pos (by simpa using c), if_pos c]
      · rw [if_neg (by simpa using c), if_neg c]
        rcases concat_cases pre with rfl | ⟨i, p, rfl⟩
        · rw [if_neg (by simp), if_neg (by simp), e1, ih]
          simp
        · have e2 : wrap64 (((i ++ [p]).length : Int) - 1) = ((i ++ [p]).length : Int) - 1 := w64 (by omega) (by omega)
          have h1 : (i ++ [p]).length = i.length + 1 := by simp
          rw [if_pos (by omega), e2, if_pos (by omega), if_pos (by omega), rd_last i p (r :: suf), getLast_snoc]
          by_cases c2 : r.f0 ≤ p.f1
          · rw [if_pos c2, if_pos (by simpa using c2)]
          · rw [if_neg c2, if_neg (by simpa using c2), e1, ih, getLast_snoc, show ((i ++ [p] ++ [r]).length : Int) = ((i ++ [p]).length : Int) + 1 from by simp; omega]
    by_cases c1 : r.f0 < 0
    · rw [if_pos c1]
      exact key true (by simp [c1])
    · rw [if_neg c1]
      by_cases c2 : r.f1 > 1048576
      · rw [if_pos c2]
        exact key true (by simp [c2])
      · rw [if_neg c2]
        exact key _ (by simp [c1, c2])
theorem Check_f {l : List S36} (h : Short l) {k : Nat} (hk : 2 * l.length + 1 ≤ k) : span_Check.f k l = some (checkS l) := by
  unfold span_Check.f checkS
  by_cases c : l.length > 32768
  · rw [if_pos (by omega), if_pos c]
  · rw [if_neg (by omega), if_neg c]
    exact Check_l0 l [] k h hk
theorem refCheck_l0 : ∀ (suf pre : List S36) (k : Nat), Short (pre ++ suf) → 2 * suf.length + 1 ≤ k →
    redraftref02_Check.l0 k (pre ++ suf) (pre.length : Int) = some (chk pre.length pre.getLast? suf)
  | [], pre, k, hs, hk => by
    obtain ⟨k, rfl⟩ : ∃ m, k = m + 1 := ⟨k - 1, by omega⟩
    simp only [redraftref02_Check.l0]
    rw [if_neg (by simp)]
    rfl
  | r :: suf, pre, k, hs, hk => by
    simp only [List.length_cons] at hk
    obtain ⟨k, rfl⟩ : ∃ m, k = m + 2 := ⟨k - 2, by omega⟩
    have hl : (pre ++ r :: suf).length = pre.length + 1 + suf.length := by simp; omega
    have hs' : (pre ++ r :: suf).length < 8796093022208 := hs
    simp only [redraftref02_Check.l0]
    rw [if_pos (by omega), if_pos (by omega), rd_at]
    have ih := refCheck_l0 suf (pre ++ [r]) k (by rw [List.append_assoc]; exact hs) (by omega)
    rw [List.append_assoc, List.singleton_append] at ih
    have e1 : wrap64 ((pre.length : Int) + 1) = ((pre ++ [r]).length : Int) := by rw [w64 (by omega) (by omega)]; simp
    have key : ∀ b : Bool, (b = decide (r.f0 < 0 ∨ r.f1 > 1048576 ∨ r.f0 ≥ r.f1)) → redraftref02_Check.j1 (k + 1) (pre ++ r :: suf) (pre.length : Int) b = some (chk pre.length pre.getLast? (r :: suf)) := by
      rintro b rfl
      simp only [redraftref02_Check.j1]
      rw [chk]
      by_cases c : r.f0 < 0 ∨ r.f1 > 1048576 ∨ r.f0 ≥ r.f1
      · rw [if_pos (by simpa using c), if_pos c]
      · rw [if_neg (by simpa using c), if_neg c]
        rcases concat_cases pre with rfl | ⟨i, p, rfl⟩
        · rw [if_neg (by simp), if_neg (by simp), e1, ih]
          simp
        · have e2 : wrap64 (((i ++ [p]).length : Int) - 1) = ((i ++ [p]).length : Int) - 1 := w64 (by omega) (by omega)
          have h1 : (i ++ [p]).length = i.length + 1 := by simp
          rw [if_pos (by omega), if_pos (by omega), if_pos (by omega), e2, if_pos (by omega), if_pos (by omega), rd_at, rd_last i p (r :: suf), getLast_snoc]
          by_cases c2 : r.f0 ≤ p.f1
          · rw [if_pos c2, if_pos (by simpa using c2)]
          · rw [if_neg c2, if_neg (by simpa using c2), e1, ih, getLast_snoc, show ((i ++ [p] ++ [r]).length : Int) = ((i ++ [p]).length : Int) + 1 from by simp; omega]
    by_cases c1 : r.f0 < 0
    · rw [if_pos c1]
      exact key true (by simp [c1])
    · rw [if_neg c1]
      by_cases c2 : r.f1 > 1048576
      · rw [if_pos c2]
        exact key true (by simp [c2])
      · rw [if_neg c2]
        exact key _ (by simp [c1, c2])
theorem refCheck_f {l : List S36} (h : Short l) {k : Nat} (hk : 2 * l.length + 1 ≤ k) : redraftref02_Check.f k l = some (checkS l) := by
  unfold redraftref02_Check.f checkS
  by_cases c : l.length > 32768
  · rw [if_pos (by omega), if_pos c]
  · rw [if_neg (by omega), if_neg c]
    exact refCheck_l0 l [] k h hk
theorem refCheck_ev {l : List S36} (h : Short l) : Ev (fun k => redraftref02_Check.f k l) (checkS l) := ⟨_, fun _ hk => refCheck_f h hk⟩
def Good (l : List S36) : Prop := l.length ≤ 32768 ∧ Nrm l ∧ ∀ r ∈ l, 0 ≤ r.f0 ∧ r.f1 ≤ 1048576
theorem Good.short {l : List S36} (h : Good l) : Short l := by have := h.1; show l.length < _; omega
theorem chk_ok : ∀ (l : List S36) (i : Int) (prev : Option S36), (chk i prev l).2 = 0 → chk i prev l = (0, 0) ∧ Nrm l ∧ (∀ r ∈ l, 0 ≤ r.f0 ∧ r.f1 ≤ 1048576) ∧ (∀ p, prev = some p → ∀ r ∈ l, p.f1 < r.f0)
  | [], i, prev, _ => ⟨rfl, nrm_nil, by simp, by simp⟩
  | r :: l, i, prev, h => by
    rw [chk] at h ⊢
    by_cases c : r.f0 < 0 ∨ r.f1 > 1048576 ∨ r.f0 ≥ r.f1
    · rw [if_pos c] at h; exact absurd h (by simp)
    · rw [if_neg c] at h ⊢
      by_cases c2 : prev.any (fun p => decide (r.f0 ≤ p.f1)) = true
      · rw [if_pos c2] at h; exact absurd h (by simp)
      · rw [if_neg c2] at h ⊢
        obtain ⟨h1, h2, h3, h4⟩ := chk_ok l (i + 1) (some r) h
        refine ⟨h1, nrm_cons.2 ⟨by omega, fun s hs => h4 r rfl s hs, h2⟩, fun s hs => ?_, fun p hp s hs => ?_⟩
        · rcases List.mem_cons.1 hs with rfl | hs
          · omega
          · exact h3 s hs
        · subst hp
          have hp' : ¬ r.f0 ≤ p.f1 := by simpa using c2
          rcases List.mem_cons.1 hs with rfl | hs
          · omega
          · have := h4 r rfl s hs
            omega
theorem chk_of : ∀ (l : List S36) (i : Int) (prev : Option S36), Nrm l → (∀ r ∈ l, 0 ≤ r.f0 ∧ r.f1 ≤ 1048576) → (∀ p, prev = some p → ∀ r ∈ l.head?, p.f1 < r.f0) → chk i prev l = (0, 0)
  | [], i, prev, _, _, _ => rfl
  | r :: l, i, prev, hn, hb, hp => by
    obtain ⟨h1, h2, h3⟩ := nrm_cons.1 hn
    have hr := hb r List.mem_cons_self
    rw [chk, if_neg (by omega), if_neg, chk_of l (i + 1) (some r) h3 (fun s hs => hb s (List.mem_cons_of_mem _ hs))]
    · intro p hp s hs
      injection hp with hp
      subst hp
      refine h2 s ?_
      cases l with
      | nil => simp at hs
      | cons y l => simp at hs; subst hs; exact List.mem_cons_self
    · cases prev with
      | none => simp
      | some p => have := hp p rfl r rfl; simpa using this
theorem checkS_good {l : List S36} : (checkS l).2 = 0 ↔ Good l := by
  unfold checkS Good
  by_cases c : l.length > 32768
  · rw [if_pos c]
    constructor
    · intro h; exact absurd h (by simp)
    · rintro ⟨h, _⟩; omega
  · rw [if_neg c]
    constructor
    · intro h
      obtain ⟨_, h2, h3, _⟩ := chk_ok l 0 none h
      exact ⟨by omega, h2, h3⟩
    · rintro ⟨_, h2, h3⟩
      rw [chk_of l 0 none h2 h3 (by simp)]
theorem num_f (e : Int) : redraftlaw02_num.f e = some e := rfl
end Go.Proofs.Ytmidiifgdloojaa.SpanFns
end
section
namespace Go.Proofs.Ytmidiifgdloojaa.SpanFns
open Go.RowKit Go.Proofs.YtmidiifgdloojaaW.PrintWords Go.Proofs.YtmidiifgdloojaaW.PrintMore Go.Proofs.Ytmidiifgdloojaa.Pr Go.Proofs.Ytmidiifgdloojaa.SpanMath
theorem e_succ (pre : List S36) (r : S36) (h : pre.length < 8796093022208) : wrap64 ((pre.length : Int) + 1) = ((pre ++ [r]).length : Int) := by rw [w64 (by omega) (by omega)]; simp
end Go.Proofs.Ytmidiifgdloojaa.SpanFns
end
section
namespace Go.Proofs.Ytmidiifgdloojaa.Pr
open Go.RowKit Go.Proofs.YtmidiifgdloojaaW.PrintWords Go.Proofs.YtmidiifgdloojaaW.PrintLast Go.Proofs.YtmidiifgdloojaaW.PrintMore
attribute [local go_sem] max2_int min2_int max_two min_two max_three min_three max_four min_four
set_option linter.unusedVariables false
set_option linter.unusedSimpArgs false
mutual
def span_Through.j0 : Nat → List (S36) → Int → Int → Bool → Option ((List (S36)) × Int)
 | 0, _, _, _, _ => none
 | k + 1, x0, x1, x2, x27 => if x27 = true then (some (([] : List (S36)), 12)) else (if (x0.length : Int) > 0 then (if 0 ≤ (wrap64 ((x0.length : Int) - 1)) then (if (wrap64 ((x0.length : Int) - 1)) < (x0.length : Int) then (if ((rd_T36 x0 (wrap64 ((x0.length : Int) - 1))).f1) > x1 then (if (wrap64 (((rd_T36 x0 (wrap64 ((x0.length : Int) - 1))).f1) + x2)) > 1048576 then (some (([] : List (S36)), 24)) else (span_Through.j1 k x0 x1 x2)) else (span_Through.j1 k x0 x1 x2)) else (none)) else (none)) else (span_Through.j1 k x0 x1 x2))
def span_Through.j1 : Nat → List (S36) → Int → Int → Option ((List (S36)) × Int)
 | 0, _, _, _ => none
 | k + 1, x0, x1, x2 => span_Through.l0 k x1 x2 ([] : List (S36)) x0 (x0.length : Int) 0
def span_Through.l0 : Nat → Int → Int → List (S36) → List (S36) → Int → Int → Option ((List (S36)) × Int)
 | 0, _, _, _, _, _, _ => none
 | k + 1, x1, x2, x11, x47, x48, x49 => if x49 < x48 then (if 0 ≤ x49 then (if x49 < (x47.length : Int) then ((span_add.f x11 ((rd_T36 x47 x49).f0) (mn ((rd_T36 x47 x49).f1) x1)).bind fun t130 => ((span_add.f t130 (wrap64 ((mx ((rd_T36 x47 x49).f0) x1) + x2)) (wrap64 (((rd_T36 x47 x49).f1) + x2))).bind fun t133 => (span_Through.l0 k x1 x2 t133 x47 x48 (wrap64 (x49 + 1))))) else (none)) else (none)) else ((span_bounded.f x11).bind fun bt136 => (some (bt136.1, bt136.2)))
end
def span_Through.f (k : Nat) (l0 : List (S36)) (a1 : Int) (a2 : Int) : Option ((List (S36)) × Int) := (span_Check.f k l0).bind fun bt123 => (if bt123.2 = 0 then ((span_outside.f a1).bind fun t125 => (if t125 = true then (span_Through.j0 k l0 a1 a2 true) else ((span_outside.f a2).bind fun t126 => (span_Through.j0 k l0 a1 a2 t126)))) else (some (([] : List (S36)), bt123.2)))
theorem span_Through.mono_l : ∀ k, (∀ y0 y1 y2 y3, LeO (span_Through.j0 k y0 y1 y2 y3) (span_Through.j0 (k + 1) y0 y1 y2 y3)) ∧ (∀ y0 y1 y2, LeO (span_Through.j1 k y0 y1 y2) (span_Through.j1 (k + 1) y0 y1 y2)) ∧ (∀ y0 y1 y2 y3 y4 y5, LeO (span_Through.l0 k y0 y1 y2 y3 y4 y5) (span_Through.l0 (k + 1) y0 y1 y2 y3 y4 y5))
 | 0 => ⟨fun _ _ _ _ r h => by simp [span_Through.j0] at h, fun _ _ _ r h => by simp [span_Through.j1] at h, fun _ _ _ _ _ _ r h => by simp [span_Through.l0] at h⟩
 | k + 1 => by
  obtain ⟨ih0, ih1, ih2⟩ := span_Through.mono_l k
  refine ⟨?_, ?_, ?_⟩
  ·intro y0 y1 y2 y3
   unfold span_Through.j0
   repeat' first
   | (with_reducible exact ih0 _ _ _ _)
   | (with_reducible exact ih1 _ _ _)
   | (with_reducible exact ih2 _ _ _ _ _ _)
   | (with_reducible exact span_Check.mono _ _)
   | (with_reducible exact LeO.refl _)
   | (with_reducible exact LeO.none _)
   | (with_reducible refine LeO.ite ?_ ?_)
   | (with_reducible refine LeO.bind ?_ (fun _ => ?_))
   | exact ih0 _ _ _ _
   | exact ih1 _ _ _
   | exact ih2 _ _ _ _ _ _
   | exact span_Check.mono _ _
   | exact LeO.none _
   | refine LeO.ite ?_ ?_
   | refine LeO.bind ?_ (fun _ => ?_)
  ·intro y0 y1 y2
   unfold span_Through.j1
   repeat' first
   | (with_reducible exact ih0 _ _ _ _)
   | (with_reducible exact ih1 _ _ _)
   | (with_reducible exact ih2 _ _ _ _ _ _)
   | (with_reducible exact span_Check.mono _ _)
   | (with_reducible exact LeO.refl _)
   | (with_reducible exact LeO.none _)
   | (with_reducible refine LeO.ite ?_ ?_)
   | (with_reducible refine LeO.bind ?_ (fun _ => ?_))
   | exact ih0 _ _ _ _
   | exact ih1 _ _ _
   | exact ih2 _ _ _ _ _ _
   | exact span_Check.mono _ _
   | exact LeO.none _
   | refine LeO.ite ?_ ?_
   | refine LeO.bind ?_ (fun _ => ?_)
  ·intro y0 y1 y2 y3 y4 y5
   unfold span_Through.l0
   repeat' first
   | (with_reducible exact ih0 _ _ _ _)
   | (with_reducible exact ih1 _ _ _)
   | (with_reducible exact ih2 _ _ _ _ _ _)
   | (with_reducible exact span_Check.mono _ _)
   | (with_reducible exact LeO.refl _)
   | (with_reducible exact LeO.none _)
   | (with_reducible refine LeO.ite ?_ ?_)
   | (with_reducible refine LeO.bind ?_ (fun _ => ?_))
   | exact ih0 _ _ _ _
   | exact ih1 _ _ _
   | exact ih2 _ _ _ _ _ _
   | exact span_Check.mono _ _
   | exact LeO.none _
   | refine LeO.ite ?_ ?_
   | refine LeO.bind ?_ (fun _ => ?_)
theorem span_Through.mono : ∀ a0 a1 a2 k, LeO (span_Through.f k a0 a1 a2) (span_Through.f (k + 1) a0 a1 a2) := by
 intro a0 a1 a2 k
 obtain ⟨ih0, ih1, ih2⟩ := span_Through.mono_l k
 unfold span_Through.f
 repeat' first
   | (with_reducible exact ih0 _ _ _ _)
   | (with_reducible exact ih1 _ _ _)
   | (with_reducible exact ih2 _ _ _ _ _ _)
   | (with_reducible exact span_Check.mono _ _)
   | (with_reducible exact LeO.refl _)
   | (with_reducible exact LeO.none _)
   | (with_reducible refine LeO.ite ?_ ?_)
   | (with_reducible refine LeO.bind ?_ (fun _ => ?_))
   | exact ih0 _ _ _ _
   | exact ih1 _ _ _
   | exact ih2 _ _ _ _ _ _
   | exact span_Check.mono _ _
   | exact LeO.none _
   | refine LeO.ite ?_ ?_
   | refine LeO.bind ?_ (fun _ => ?_)
set_option maxHeartbeats 8000000 in
set_option maxRecDepth 100000 in
theorem span_Through.calls (k : Nat) (A0 : Option Addr) (c0 : Nat) (l0 : List (S36)) (a1 : Int) (a2 : Int) (r1 : List (S36)) (r2 : Int) (w : World) (hr0 : Kd.C k36 w A0 l0.length l0) (hc0 : l0.length ≤ c0) (h : span_Through.f k l0 a1 a2 = some (r1, r2)) :
  Calls Try.prog 23 #[.slice A0 l0.length c0, .int .i64 a1, .int .i64 a2] w fun e w' => ∃ v0_ : Value, e = .returned (.tuple #[v0_, .int .i64 r2]) ∧ Kd.R k36 36 w' w.heap.size (fun _ => True) v0_ r1 ∧ Below w.heap.size w w' := by
 have hu36 := Try.underlying36
 have HR0 := Aside0.mk hr0
 have HC0 := Aside0.mk hc0
 clear hr0 hc0
 have HB := Aside0.mk (Below.refl w.heap.size w)
 have H : ((span_Check.f k l0).bind fun bt123 => (if bt123.2 = 0 then ((span_outside.f a1).bind fun t125 => (if t125 = true then (span_Through.j0 k l0 a1 a2 true) else ((span_outside.f a2).bind fun t126 => (span_Through.j0 k l0 a1 a2 t126)))) else (some (([] : List (S36)), bt123.2)))) = some (r1, r2) := h
 clear h
 replace H := Option.bind_eq_some_iff.mp H
 obtain ⟨⟨t123, t124⟩, A40, H⟩ := H
 replace H : (if t124 = 0 then ((span_outside.f a1).bind fun t125 => (if t125 = true then (span_Through.j0 k l0 a1 a2 true) else ((span_outside.f a2).bind fun t126 => (span_Through.j0 k l0 a1 a2 t126)))) else (some (([] : List (S36)), t124))) = some (r1, r2) := H
 have A4 := Aside0.mk A40
 clear A40
 by_cases c5 : t124 = 0
 ·rw [if_pos c5] at H
  have c5b0 : (t124 == 0) = true := beq_iff_eq.mpr c5
  have c5b1 : (t124 != 0) = false := bne_eq_false_iff_eq.mpr c5
  clear c5
  have HC6 := Aside0.mk H
  clear H
  go_enter Try.func23, Try.ntmps23
  go_upto_region 4 with (first | ((with_reducible refine gate_callee (f := 51) rfl ?_); refine goesL_ (some 16) rfl rfl Try.func51 (by kernel_rfl) rfl #[.slice A0 l0.length c0] rfl (by (try simp only [List.map_toArray, List.map_cons, List.map_nil]); first | done | rfl | (simp only [List.length_drop, List.length_take]; rfl)) ?_; (with_reducible refine (span_Check.calls k _ _ l0 t123 t124 _ ?side1 ?side2 A4.out).mono ?_); (case side1 => repeat (first | exact HR0.out | (with_reducible refine Kd.C_alloc ?_ _) | (with_reducible refine Kd.C_drewN ?_ _) | (with_reducible refine Kd.C_drew ?_))); (case side2 => exact HC0.out); rintro e w7 ⟨rfl, hb⟩; refine ⟨_, rfl, ?_⟩; have n0_ := Aside0.mk (below_step (by repeat (first | (with_reducible first | exact HB.out | apply below_alloc | apply pw_below_drewN | apply below_drew1) | exact HB.out)) hb); clear HB; have HB := n0_; clear n0_; (try clear hb); (try clear hb2); (try clear hk); (try clear hi)))
  (try simp only [Act.put, List.setIfInBounds_toArray, List.set_cons_zero, List.set_cons_succ])
  go_cut [27] (fun v27 wc => ∃ (kq : Nat) (x27_5 : Bool), v27 = .bool x27_5 ∧ Aside0 (span_Through.j0 kq l0 a1 a2 x27_5 = some (r1, r2)) ∧ Aside0 (kq ≤ k) ∧ Aside0 (Below w.heap.size w wc))
  case first =>
   have H := HC6.out
   clear HC6
   replace H := Option.bind_eq_some_iff.mp H
   obtain ⟨t125, A80, H⟩ := H
   replace H : (if t125 = true then (span_Through.j0 k l0 a1 a2 true) else ((span_outside.f a2).bind fun t126 => (span_Through.j0 k l0 a1 a2 t126))) = some (r1, r2) := H
   have A8 := Aside0.mk A80
   clear A80
   by_cases c9 : t125 = true
   ·subst c9
    have H1 : (span_Through.j0 k l0 a1 a2 true) = some (r1, r2) := by rw [if_pos rfl] at H; exact H
    clear H
    have H := H1
    clear H1
    have H' := Aside0.mk H
    clear H
    go_wp2_with (first | ((with_reducible refine gate_callee (f := 52) rfl ?_); refine goesL_ (some 23) rfl rfl Try.func52 (by kernel_rfl) rfl #[.int .i64 a1] rfl (by (try simp only [List.map_toArray, List.map_cons, List.map_nil]); first | done | rfl | (simp only [List.length_drop, List.length_take]; rfl)) ?_; (with_reducible refine (span_outside.calls a1 true _ A8.out).mono ?_); rintro e w' ⟨rfl, ⟨nd, rfl⟩⟩; refine ⟨_, rfl, ?_⟩))
    go_meet
    case rel => exact ⟨_, (true), (by first | rfl | (simp; done) | (simp [*]; done)), H', ⟨by first | omega | exact Nat.le_refl _⟩, ⟨by repeat (first | (with_reducible first | exact HB.out | apply below_alloc | apply pw_below_drewN | apply below_drew1) | exact HB.out)⟩⟩
   ·replace c9 := Bool.eq_false_iff.mpr c9
    subst c9
    have H1 : ((span_outside.f a2).bind fun t126 => (span_Through.j0 k l0 a1 a2 t126)) = some (r1, r2) := by rw [if_neg (show ¬ (false = true) by decide)] at H; exact H
    clear H
    have H := H1
    clear H1
    replace H := Option.bind_eq_some_iff.mp H
    obtain ⟨t126, A100, H⟩ := H
    replace H : (span_Through.j0 k l0 a1 a2 t126) = some (r1, r2) := H
    have A10 := Aside0.mk A100
    clear A100
    have H' := Aside0.mk H
    clear H
    go_wp2_with (first | ((with_reducible refine gate_callee (f := 52) rfl ?_); refine goesL_ (some 23) rfl rfl Try.func52 (by kernel_rfl) rfl #[.int .i64 a1] rfl (by (try simp only [List.map_toArray, List.map_cons, List.map_nil]); first | done | rfl | (simp only [List.length_drop, List.length_take]; rfl)) ?_; (with_reducible refine (span_outside.calls a1 false _ A8.out).mono ?_); rintro e w' ⟨rfl, ⟨nd, rfl⟩⟩; refine ⟨_, rfl, ?_⟩) | (go_at_call 52; (with_reducible refine (span_outside.calls a2 t126 _ A10.out).mono ?_); rintro e w' ⟨rfl, ⟨nd, rfl⟩⟩))
    go_meet
    case rel => exact ⟨_, (t126), (by first | rfl | (simp; done) | (simp [*]; done)), H', ⟨by first | omega | exact Nat.le_refl _⟩, ⟨by repeat (first | (with_reducible first | exact HB.out | apply below_alloc | apply pw_below_drewN | apply below_drew1) | exact HB.out)⟩⟩
  case rest =>
   clear HC6
   try clear c2
   try clear p2
   try clear c5
   try clear c5b0
   try clear c5b1
   try clear c9
   obtain ⟨kq, x27_5, rfl, HA, HJ5, HB⟩ := hcut
   cases kq with
   | zero => exact absurd HA.out (by simp [span_Through.j0])
   | succ kj5 =>
    have H := HA.out
    clear HA
    simp only [span_Through.j0] at H
    by_cases c11 : x27_5 = true
    ·subst c11
     have H1 : (some (([] : List (S36)), 12)) = some (r1, r2) := by rw [if_pos rfl] at H; exact H
     clear H
     have H := H1
     clear H1
     simp only [Option.some.injEq, Prod.mk.injEq] at H
     obtain ⟨rfl, rfl⟩ := H
     go_wp2
     go_ret2
     exact ⟨_, by first | rfl | (simp [errW_none, errW_some] <;> rfl) | (simp [*, errW_none, errW_some] <;> rfl), by first | exact Kd.R_nil _ _ _ _ _ | exact Kd.N_nil _ _ _ _ _ | exact Kd.V_nil _ _ _ _ _ | exact Kd.Q_nil _ _ _ _ _ | exact Kd.S_nil _ _ _ _ _, by repeat (first | (with_reducible first | exact HB.out | apply below_alloc | apply pw_below_drewN | apply below_drew1) | exact HB.out)⟩
    ·replace c11 := Bool.eq_false_iff.mpr c11
     subst c11
     have H1 : (if (l0.length : Int) > 0 then (if 0 ≤ (wrap64 ((l0.length : Int) - 1)) then (if (wrap64 ((l0.length : Int) - 1)) < (l0.length : Int) then (if ((rd_T36 l0 (wrap64 ((l0.length : Int) - 1))).f1) > a1 then (if (wrap64 (((rd_T36 l0 (wrap64 ((l0.length : Int) - 1))).f1) + a2)) > 1048576 then (some (([] : List (S36)), 24)) else (span_Through.j1 kj5 l0 a1 a2)) else (span_Through.j1 kj5 l0 a1 a2)) else (none)) else (none)) else (span_Through.j1 kj5 l0 a1 a2)) = some (r1, r2) := by rw [if_neg (show ¬ (false = true) by decide)] at H; exact H
     clear H
     have H := H1
     clear H1
     have HC12 := Aside0.mk H
     clear H
     go_upto_if 30 with (fail)
     go_cut [] (fun wc => ∃ (kq : Nat), Aside0 (span_Through.j1 kq l0 a1 a2 = some (r1, r2)) ∧ Aside0 (kq ≤ kj5) ∧ Aside0 (Below w.heap.size w wc))
     case first =>
      have H := HC12.out
      clear HC12
      by_cases c13 : (l0.length : Int) > 0
      ·rw [if_pos c13] at H
       have c13b0 : decide (0 < (l0.length : Int)) = true := decide_eq_true c13
       have c13b1 : decide (0 < l0.length) = true := decide_eq_true (by omega)
       clear c13
       (first | rw [c13b0] | rw [c13b1] | (simp only [i64_w, i32_w]; rw [c13b0]) | skip)
       obtain ⟨ji14, hji14⟩ : ∃ j_ : Int, (wrap64 ((l0.length : Int) - 1)) = j_ := ⟨_, rfl⟩
       replace H : (if 0 ≤ (ji14) then (if (ji14) < (l0.length : Int) then (if ((rd_T36 l0 (ji14)).f1) > a1 then (if (wrap64 (((rd_T36 l0 (ji14)).f1) + a2)) > 1048576 then (some (([] : List (S36)), 24)) else (span_Through.j1 kj5 l0 a1 a2)) else (span_Through.j1 kj5 l0 a1 a2)) else (none)) else (none)) = some (r1, r2) := by first | (rw [hji14] at H; exact H) | (simp only [hji14] at H ⊢; exact H)
       have hji14w : (IntKind.i64.wrap ((l0.length : Int) - 1)) = ji14 := (i64_w _).trans hji14
       by_cases c15 : 0 ≤ (ji14)
       ·rw [if_pos c15] at H
        have c15b0 : decide (0 ≤ (ji14)) = true := decide_eq_true c15
        clear c15
        by_cases c16 : (ji14) < (l0.length : Int)
        ·rw [if_pos c16] at H
         have c16b0 : decide ((ji14) < (l0.length : Int)) = true := decide_eq_true c16
         clear c16
         by_cases c17 : ((rd_T36 l0 (ji14)).f1) > a1
         ·rw [if_pos c17] at H
          have c17b0 : decide (a1 < ((rd_T36 l0 (ji14)).f1)) = true := decide_eq_true c17
          clear c17
          by_cases c18 : (wrap64 (((rd_T36 l0 (ji14)).f1) + a2)) > 1048576
          ·rw [if_pos c18] at H
           have c18b0 : decide (1048576 < (wrap64 (((rd_T36 l0 (ji14)).f1) + a2))) = true := decide_eq_true c18
           clear c18
           simp only [Option.some.injEq, Prod.mk.injEq] at H
           obtain ⟨rfl, rfl⟩ := H
           have p127 : 0 ≤ ((ji14) : Int) := of_decide_eq_true (by first | (with_reducible assumption) | assumption)
           have q127 : (ji14) < (l0.length : Int) := of_decide_eq_true (by first | (with_reducible assumption) | assumption)
           obtain ⟨ad127, e127, hx127_0, hx127_1⟩ := at_T36 HR0.out (ji14) p127 q127
           cases e127
           replace hx127_0 := (HB.out.cell (World.block_lt_of_cell? w _ hx127_0)).trans hx127_0
           replace hx127_1 := (HB.out.cell (World.block_lt_of_cell? w _ hx127_1)).trans hx127_1
           replace p127 := eq_true p127
           replace q127 := eq_true q127
           go_wp2
           go_ret2
           exact ⟨_, by first | rfl | (simp [errW_none, errW_some] <;> rfl) | (simp only [← hji14]; first | rfl | (simp [errW_none, errW_some] <;> rfl)) | (simp [*, errW_none, errW_some] <;> rfl), by first | exact Kd.R_nil _ _ _ _ _ | exact Kd.N_nil _ _ _ _ _ | exact Kd.V_nil _ _ _ _ _ | exact Kd.Q_nil _ _ _ _ _ | exact Kd.S_nil _ _ _ _ _, by repeat (first | (with_reducible first | exact HB.out | apply below_alloc | apply pw_below_drewN | apply below_drew1) | exact HB.out)⟩
          ·rw [if_neg c18] at H
           have c18b0 : decide (1048576 < (wrap64 (((rd_T36 l0 (ji14)).f1) + a2))) = false := decide_eq_false c18
           clear c18
           have H' := Aside0.mk H
           clear H
           have p127 : 0 ≤ ((ji14) : Int) := of_decide_eq_true (by first | (with_reducible assumption) | assumption)
           have q127 : (ji14) < (l0.length : Int) := of_decide_eq_true (by first | (with_reducible assumption) | assumption)
           obtain ⟨ad127, e127, hx127_0, hx127_1⟩ := at_T36 HR0.out (ji14) p127 q127
           cases e127
           replace hx127_0 := (HB.out.cell (World.block_lt_of_cell? w _ hx127_0)).trans hx127_0
           replace hx127_1 := (HB.out.cell (World.block_lt_of_cell? w _ hx127_1)).trans hx127_1
           replace p127 := eq_true p127
           replace q127 := eq_true q127
           go_wp2
           go_meet
           case rel => exact ⟨_, H', ⟨by have := HJ5.out; first | omega | exact Nat.le_refl _⟩, ⟨by repeat (first | (with_reducible first | exact HB.out | apply below_alloc | apply pw_below_drewN | apply below_drew1) | exact HB.out)⟩⟩
         ·rw [if_neg c17] at H
          have c17b0 : decide (a1 < ((rd_T36 l0 (ji14)).f1)) = false := decide_eq_false c17
          clear c17
          have H' := Aside0.mk H
          clear H
          have p127 : 0 ≤ ((ji14) : Int) := of_decide_eq_true (by first | (with_reducible assumption) | assumption)
          have q127 : (ji14) < (l0.length : Int) := of_decide_eq_true (by first | (with_reducible assumption) | assumption)
          obtain ⟨ad127, e127, hx127_0, hx127_1⟩ := at_T36 HR0.out (ji14) p127 q127
          cases e127
          replace hx127_0 := (HB.out.cell (World.block_lt_of_cell? w _ hx127_0)).trans hx127_0
          replace hx127_1 := (HB.out.cell (World.block_lt_of_cell? w _ hx127_1)).trans hx127_1
          replace p127 := eq_true p127
          replace q127 := eq_true q127
          go_wp2
          go_meet
          case rel => exact ⟨_, H', ⟨by have := HJ5.out; first | omega | exact Nat.le_refl _⟩, ⟨by repeat (first | (with_reducible first | exact HB.out | apply below_alloc | apply pw_below_drewN | apply below_drew1) | exact HB.out)⟩⟩
        ·rw [if_neg c16] at H
         exact absurd H (by simp)
       ·rw [if_neg c15] at H
        exact absurd H (by simp)
      ·rw [if_neg c13] at H
       have c13b0 : decide (0 < (l0.length : Int)) = false := decide_eq_false c13
       have c13b1 : decide (0 < l0.length) = false := decide_eq_false (by omega)
       clear c13
       (first | rw [c13b0] | rw [c13b1] | (simp only [i64_w, i32_w]; rw [c13b0]) | skip)
       have H' := Aside0.mk H
       clear H
       go_wp2
       go_meet
       case rel => exact ⟨_, H', ⟨by have := HJ5.out; first | omega | exact Nat.le_refl _⟩, ⟨by repeat (first | (with_reducible first | exact HB.out | apply below_alloc | apply pw_below_drewN | apply below_drew1) | exact HB.out)⟩⟩
     case rest =>
      clear HC12
      try clear c1
      try clear p1
      try clear q1
      try clear hx1
      try clear c2
      try clear p2
      try clear c5
      try clear c5b0
      try clear c5b1
      try clear p6
      try clear c9
      try clear c11
      try clear p12
      try clear q12
      try clear hx12
      try clear c13
      try clear c13b0
      try clear c13b1
      try clear c15
      try clear c15b0
      try clear c16
      try clear c16b0
      try clear c17
      try clear c17b0
      try clear c18
      try clear c18b0
      try clear hx127_0
      try clear hx127_1
      try clear p127
      try clear p2
      try clear q127
      obtain ⟨kq, HA, HJ11, HB⟩ := hcut
      cases kq with
      | zero => exact absurd HA.out (by simp [span_Through.j1])
      | succ kj11 =>
       have H := HA.out
       clear HA
       simp only [span_Through.j1] at H
       have H' := Aside0.mk H
       clear H
       go_wp2
       go_loopg [11, 49] kj11 (fun kq v11 v49 w' => ∃ (x11_3 : List (S36)) (x49_3 : Int), v49 = .int .i64 x49_3 ∧ Aside0 (span_Through.l0 kq a1 a2 x11_3 l0 (l0.length : Int) x49_3 = some (r1, r2)) ∧ Aside0 (kq ≤ kj11) ∧ Aside0 (Kd.R k36 36 w' w.heap.size (fun _ => True) v11 x11_3) ∧ Aside0 (Below w.heap.size w w'))
       case atStart => exact ⟨(([] : List (S36))), (0), (by first | rfl | (simp; done) | (simp [*]; done)), H', ⟨Nat.le_refl _⟩, ⟨by first | exact Kd.R_nil _ _ _ _ _ | exact Kd.N_nil _ _ _ _ _ | exact Kd.V_nil _ _ _ _ _ | exact Kd.Q_nil _ _ _ _ _ | exact Kd.S_nil _ _ _ _ _⟩, ⟨by repeat (first | (with_reducible first | exact HB.out | apply below_alloc | apply pw_below_drewN | apply below_drew1) | exact HB.out)⟩⟩
       case round =>
        clear H'
        try clear c1
        try clear p1
        try clear q1
        try clear hx1
        try clear c2
        try clear p2
        try clear c5
        try clear c5b0
        try clear c5b1
        try clear p6
        try clear c9
        try clear c11
        try clear p12
        try clear q12
        try clear hx12
        try clear c13
        try clear c13b0
        try clear c13b1
        try clear c15
        try clear c15b0
        try clear c16
        try clear c16b0
        try clear c17
        try clear c17b0
        try clear c18
        try clear c18b0
        try clear hx127_0
        try clear hx127_1
        try clear p1
        try clear p12
        try clear p127
        try clear p2
        try clear p6
        try clear q1
        try clear q12
        try clear q127
        obtain ⟨x11_3, x49_3, rfl, HA, HK3, HO_11, HB⟩ := hrel
        cases gk with
        | zero => exact absurd HA.out (by simp [span_Through.l0])
        | succ k3 =>
         have H := HA.out
         clear HA
         simp only [span_Through.l0] at H
         by_cases c19 : x49_3 < (l0.length : Int)
         ·rw [if_pos c19] at H
          have c19b0 : decide (x49_3 < (l0.length : Int)) = true := decide_eq_true c19
          clear c19
          by_cases c20 : 0 ≤ x49_3
          ·rw [if_pos c20] at H
           have c20b0 : decide (0 ≤ x49_3) = true := decide_eq_true c20
           clear c20
           by_cases c21 : x49_3 < (l0.length : Int)
           ·rw [if_pos c21] at H
            have c21b0 : decide (x49_3 < (l0.length : Int)) = true := decide_eq_true c21
            clear c21
            obtain ⟨ji22, hji22⟩ : ∃ j_ : Int, (mn ((rd_T36 l0 x49_3).f1) a1) = j_ := ⟨_, rfl⟩
            replace H : ((span_add.f x11_3 ((rd_T36 l0 x49_3).f0) (ji22)).bind fun t130 => ((span_add.f t130 (wrap64 ((mx ((rd_T36 l0 x49_3).f0) a1) + a2)) (wrap64 (((rd_T36 l0 x49_3).f1) + a2))).bind fun t133 => (span_Through.l0 k3 a1 a2 t133 l0 (l0.length : Int) (wrap64 (x49_3 + 1))))) = some (r1, r2) := by first | (rw [hji22] at H; exact H) | (simp only [hji22] at H ⊢; exact H)
            have hji22_ : (if a1 < ((rd_T36 l0 x49_3).f1) then a1 else ((rd_T36 l0 x49_3).f1)) = ji22 := hji22
            replace H := Option.bind_eq_some_iff.mp H
            obtain ⟨t130, A230, H⟩ := H
            replace H : ((span_add.f t130 (wrap64 ((mx ((rd_T36 l0 x49_3).f0) a1) + a2)) (wrap64 (((rd_T36 l0 x49_3).f1) + a2))).bind fun t133 => (span_Through.l0 k3 a1 a2 t133 l0 (l0.length : Int) (wrap64 (x49_3 + 1)))) = some (r1, r2) := H
            have A23 := Aside0.mk A230
            clear A230
            obtain ⟨ji24, hji24⟩ : ∃ j_ : Int, (mx ((rd_T36 l0 x49_3).f0) a1) = j_ := ⟨_, rfl⟩
            replace H : ((span_add.f t130 (wrap64 ((ji24) + a2)) (wrap64 (((rd_T36 l0 x49_3).f1) + a2))).bind fun t133 => (span_Through.l0 k3 a1 a2 t133 l0 (l0.length : Int) (wrap64 (x49_3 + 1)))) = some (r1, r2) := by first | (rw [hji24] at H; exact H) | (simp only [hji24] at H ⊢; exact H)
            (try rw [hji24] at A23)
            have hji24_ : (if ((rd_T36 l0 x49_3).f0) < a1 then a1 else ((rd_T36 l0 x49_3).f0)) = ji24 := hji24
            replace H := Option.bind_eq_some_iff.mp H
            obtain ⟨t133, A250, H⟩ := H
            replace H : (span_Through.l0 k3 a1 a2 t133 l0 (l0.length : Int) (wrap64 (x49_3 + 1))) = some (r1, r2) := H
            have A25 := Aside0.mk A250
            clear A250
            have H' := Aside0.mk H
            clear H
            have p128 : 0 ≤ (x49_3 : Int) := of_decide_eq_true (by first | (with_reducible assumption) | assumption)
            have q128 : x49_3 < (l0.length : Int) := of_decide_eq_true (by first | (with_reducible assumption) | assumption)
            obtain ⟨ad128, e128, hx128_0, hx128_1⟩ := at_T36 HR0.out x49_3 p128 q128
            cases e128
            replace hx128_0 := (HB.out.cell (World.block_lt_of_cell? w _ hx128_0)).trans hx128_0
            replace hx128_1 := (HB.out.cell (World.block_lt_of_cell? w _ hx128_1)).trans hx128_1
            replace p128 := eq_true p128
            replace q128 := eq_true q128
            go_wp2_with (first | ((with_reducible refine gate_dst (N := 13) rfl ?_); refine box_event ?hg (N := 13) ?hd (cs := #[.int .i64 0, .int .i64 0]) (t := 36) ?hr ?_; (case hd => rfl); (case hg => rfl); (case hr => first | (go_simp; done) | (go_simp; rfl)); intro gb129 hg w26 hbox hb; have n0_ := Aside0.mk (Kd.R_below (Kd.R_elderB (by (with_reducible repeat (first | apply Kd.R_alloc | apply Kd.R_drewN | apply Kd.R_drew)); exact HO_11.out) gb129 (Nat.le_of_eq hg.symm)) hb); have n1_ := Aside0.mk (below_step (by repeat (first | (with_reducible first | exact HB.out | apply below_alloc | apply pw_below_drewN | apply below_drew1) | exact HB.out)) hb); have n2_ := Aside0.mk (hbox); have n3_ := Aside0.mk ((by rw [hg]; exact (below_size (by repeat (first | (with_reducible first | exact HB.out | apply below_alloc | apply pw_below_drewN | apply below_drew1) | exact HB.out))) : w.heap.size ≤ gb129)); have n4_ := Aside0.mk ((by rw [hg]; exact (below_size (by repeat (first | (with_reducible first | exact HB.out | apply below_alloc | apply pw_below_drewN | apply below_drew1) | exact HB.out))) : w.heap.size ≤ gb129)); clear HO_11; clear HB; have HO_11 := n0_; have HB := n1_; have BK129 := n2_; have GW129 := n3_; have GE129 := n4_; clear n0_ n1_ n2_ n3_ n4_; clear hb hbox hg; have hcz27_0 : w26.cell? ⟨gb129, 0, none⟩ = some (.int .i64 0) := (blk_cell BK129.out 0).trans rfl; have hcz27_1 : w26.cell? ⟨gb129, 1, none⟩ = some (.int .i64 0) := (blk_cell BK129.out 1).trans rfl; have hfz27_0 := blk_frozen BK129.out 0; have hfz27_1 := blk_frozen BK129.out 1) | ((with_reducible refine gate_store (t := 36) (p := 13) rfl ?_); refine store_event (t := 36) (p := 13) (v := ?vo_w28) (w1 := ((w26.setCell ⟨gb129, 0, none⟩ (.int .i64 ((rd_T36 l0 x49_3).f0))).setCell ⟨gb129, 1, none⟩ (.int .i64 ((rd_T36 l0 x49_3).f1)))) ?hg ?ho ?hn ?hr ?_; (case ho => rfl); (case hg => rfl); (case hn => rfl); (case hr => first | (go_simp; done) | (go_simp; rfl)); intro w28 hw; have n0_ : Aside0 (Kd.R k36 36 w28 w.heap.size (fun k_ => k_ ≠ gb129) u11 x11_3) := ⟨(by rw [hw]; exact (by (with_reducible repeat (first | apply Kd.R_alloc | apply Kd.R_drewN | apply Kd.R_drew)); exact Kd.R_mono (Kd.R_far (p := ⟨gb129, 1, none⟩) (Kd.R_far (p := ⟨gb129, 0, none⟩) (Kd.R_mono HO_11.out (fun k_ hk => (⟨hk, hk.2⟩ : _ ∧ k_ ≠ gb129))) (fun _ hk => hk.2) (.int .i64 ((rd_T36 l0 x49_3).f0))) (fun _ hk => hk.2) (.int .i64 ((rd_T36 l0 x49_3).f1))) (fun _ hk => hk.1.2)))⟩; have n1_ : Aside0 (w28.heap[gb129]? = some (.cells #[.int .i64 ((rd_T36 l0 x49_3).f0), .int .i64 ((rd_T36 l0 x49_3).f1)] 36 (0, 0))) := ⟨(by rw [hw]; exact (by (with_reducible repeat (first | refine blk_drewN ?_ _ | refine blk_drew ?_ | refine blk_alloc ?_ _)); refine blk_put (cs := #[.int .i64 ((rd_T36 l0 x49_3).f0), .int .i64 0]) ?_ 1 _ rfl; (with_reducible repeat (first | refine blk_drewN ?_ _ | refine blk_drew ?_ | refine blk_alloc ?_ _)); refine blk_put (cs := #[.int .i64 0, .int .i64 0]) ?_ 0 _ rfl; (with_reducible repeat (first | refine blk_drewN ?_ _ | refine blk_drew ?_ | refine blk_alloc ?_ _)); exact BK129.out))⟩; have n2_ : Aside0 (Below w.heap.size w w28) := ⟨(by rw [hw]; exact (by repeat (first | (with_reducible first | exact HB.out | apply below_alloc | apply pw_below_drewN | apply below_drew1 | refine below_set ?_ GE129.out) | exact HB.out)))⟩; clear hw; clear HO_11; clear BK129; clear HB; have HO_11 := n0_; have BK129 := n1_; have HB := n2_; clear n0_ n1_ n2_; have hcz29_0 : w28.cell? ⟨gb129, 0, none⟩ = some (.int .i64 ((rd_T36 l0 x49_3).f0)) := (blk_cell BK129.out 0).trans rfl; have hcz29_1 : w28.cell? ⟨gb129, 1, none⟩ = some (.int .i64 ((rd_T36 l0 x49_3).f1)) := (blk_cell BK129.out 1).trans rfl; have hfz29_0 := blk_frozen BK129.out 0; have hfz29_1 := blk_frozen BK129.out 1; obtain ⟨Ao30, co30, eo30⟩ := Kd.R_slice HO_11.out; subst eo30) | ((with_reducible refine gate_callee (f := 49) rfl ?_); refine goesL_ (some 60) rfl rfl Try.func49 (by kernel_rfl) rfl #[.slice Ao30 x11_3.length co30, .int .i64 ((rd_T36 l0 x49_3).f0), .int .i64 ji22] rfl (by (try simp only [List.map_toArray, List.map_cons, List.map_nil]); first | done | (simp only [hji22]; rfl) | rfl | (simp only [List.length_drop, List.length_take]; rfl)) ?_; (with_reducible refine (span_add.calls (fun k_ => some k_ = (.slice Ao30 x11_3.length co30 : Value).ownBlock) (.slice Ao30 x11_3.length co30) x11_3 ((rd_T36 l0 x49_3).f0) ji22 t130 w _ ?side1 ?side2 A23.out).mono ?_); (case side1 => repeat (first | (with_reducible first | exact HB.out | apply below_alloc | apply pw_below_drewN | apply below_drew1 | refine below_set ?_ GE129.out) | exact HB.out)); (case side2 => exact Kd.R_tight rfl HO_11.out); rintro e w31 ⟨v131, rfl, ho0, hb, hkp⟩; refine ⟨_, rfl, ?_⟩; have n0_ := Aside0.mk (blk_kept (by (with_reducible repeat (first | refine blk_drewN ?_ _ | refine blk_drew ?_ | refine blk_alloc ?_ _)); exact BK129.out) hkp (fun hs_ => (fun e_ => (Kd.R_away HO_11.out (fun _ hk => hk)) e_) hs_)); have n1_ := Aside0.mk (Kd.R_mono (ok' := fun k_ => k_ ≠ gb129) ho0 (fun k_ hk_ => Or.elim hk_ (fun hs_ => fun e_ => (Kd.R_away HO_11.out (fun _ hk => hk)) (by rw [← e_]; exact hs_)) (fun hn_ => (Kd.freshB (g := gb129) (o := .cells #[.int .i64 ((rd_T36 l0 x49_3).f0), .int .i64 ((rd_T36 l0 x49_3).f1)] 36 (0, 0)) (by (with_reducible repeat (first | refine blk_drewN ?_ _ | refine blk_drew ?_ | refine blk_alloc ?_ _)); exact BK129.out) k_ hn_)))); have n2_ := Aside0.mk (hb); clear BK129; clear HB; clear HO_11; have BK129 := n0_; have HO132 := n1_; have HB := n2_; clear n0_ n1_ n2_; (try clear hb); (try clear hkp); (try clear ho0); have hcz32_0 : w31.cell? ⟨gb129, 0, none⟩ = some (.int .i64 ((rd_T36 l0 x49_3).f0)) := (blk_cell BK129.out 0).trans rfl; have hcz32_1 : w31.cell? ⟨gb129, 1, none⟩ = some (.int .i64 ((rd_T36 l0 x49_3).f1)) := (blk_cell BK129.out 1).trans rfl; have hfz32_0 := blk_frozen BK129.out 0; have hfz32_1 := blk_frozen BK129.out 1; obtain ⟨Ao33, co33, eo33⟩ := Kd.R_slice HO132.out; subst eo33) | ((with_reducible refine gate_callee (f := 49) rfl ?_); refine goesL_ (some 72) rfl rfl Try.func49 (by kernel_rfl) rfl #[.slice Ao33 t130.length co33, .int .i64 (wrap64 ((ji24) + a2)), .int .i64 (wrap64 (((rd_T36 l0 x49_3).f1) + a2))] rfl (by (try simp only [List.map_toArray, List.map_cons, List.map_nil]); first | done | (simp only [hji24]; rfl) | rfl | (simp only [List.length_drop, List.length_take]; rfl)) ?_; (with_reducible refine (span_add.calls (fun k_ => some k_ = (.slice Ao33 t130.length co33 : Value).ownBlock) (.slice Ao33 t130.length co33) t130 (wrap64 ((ji24) + a2)) (wrap64 (((rd_T36 l0 x49_3).f1) + a2)) t133 w _ ?side1 ?side2 A25.out).mono ?_); (case side1 => repeat (first | (with_reducible first | exact HB.out | apply below_alloc | apply pw_below_drewN | apply below_drew1 | refine below_set ?_ GE129.out) | exact HB.out)); (case side2 => exact Kd.R_tight rfl HO132.out); rintro e w34 ⟨v134, rfl, ho0, hb, hkp⟩; refine ⟨_, rfl, ?_⟩; have n0_ := Aside0.mk (blk_kept (by (with_reducible repeat (first | refine blk_drewN ?_ _ | refine blk_drew ?_ | refine blk_alloc ?_ _)); exact BK129.out) hkp (fun hs_ => (fun e_ => (Kd.R_away HO132.out (fun _ hk => hk)) e_) hs_)); have n1_ := Aside0.mk (Kd.R_mono (ok' := fun k_ => k_ ≠ gb129) ho0 (fun k_ hk_ => Or.elim hk_ (fun hs_ => fun e_ => (Kd.R_away HO132.out (fun _ hk => hk)) (by rw [← e_]; exact hs_)) (fun hn_ => (Kd.freshB (g := gb129) (o := .cells #[.int .i64 ((rd_T36 l0 x49_3).f0), .int .i64 ((rd_T36 l0 x49_3).f1)] 36 (0, 0)) (by (with_reducible repeat (first | refine blk_drewN ?_ _ | refine blk_drew ?_ | refine blk_alloc ?_ _)); exact BK129.out) k_ hn_)))); have n2_ := Aside0.mk (hb); clear BK129; clear HB; clear HO132; have BK129 := n0_; have HO135 := n1_; have HB := n2_; clear n0_ n1_ n2_; (try clear hb); (try clear hkp); (try clear ho0)))
            go_roundg k3
            case measure => have := HJ5.out; have := HJ11.out; have := HK3.out; omega
            case rel => exact ⟨(t133), (wrap64 (x49_3 + 1)), (by first | rfl | (simp; done) | (simp [*]; done)), H', ⟨by have := HJ5.out; have := HJ11.out; have := HK3.out; omega⟩, ⟨by (with_reducible repeat (first | apply Kd.R_alloc | apply Kd.R_drewN | apply Kd.R_drew)); exact Kd.R_mono HO135.out (fun _ hk => trivial)⟩, ⟨by repeat (first | (with_reducible first | exact HB.out | apply below_alloc | apply pw_below_drewN | apply below_drew1 | refine below_set ?_ GE129.out) | exact HB.out)⟩⟩
           ·rw [if_neg c21] at H
            exact absurd H (by simp)
          ·rw [if_neg c20] at H
           exact absurd H (by simp)
         ·rw [if_neg c19] at H
          have c19b0 : decide (x49_3 < (l0.length : Int)) = false := decide_eq_false c19
          clear c19
          replace H := Option.bind_eq_some_iff.mp H
          obtain ⟨⟨t136, t139⟩, A350, H⟩ := H
          replace H : (some (t136, t139)) = some (r1, r2) := H
          have A35 := Aside0.mk A350
          clear A350
          simp only [Option.some.injEq, Prod.mk.injEq] at H
          obtain ⟨rfl, rfl⟩ := H
          obtain ⟨Ao36, co36, eo36⟩ := Kd.R_slice HO_11.out
          subst eo36
          go_wp2_with (first | ((with_reducible refine gate_callee (f := 50) rfl ?_); refine goesL_ (some 75) rfl rfl Try.func50 (by kernel_rfl) rfl #[.slice Ao36 x11_3.length co36] rfl (by (try simp only [List.map_toArray, List.map_cons, List.map_nil]); first | done | rfl | (simp only [List.length_drop, List.length_take]; rfl)) ?_; (with_reducible refine (span_bounded.calls (fun k_ => some k_ = (.slice Ao36 x11_3.length co36 : Value).ownBlock) (.slice Ao36 x11_3.length co36) x11_3 t136 t139 w _ ?side1 ?side2 A35.out).mono ?_); (case side1 => repeat (first | (with_reducible first | exact HB.out | apply below_alloc | apply pw_below_drewN | apply below_drew1) | exact HB.out)); (case side2 => exact Kd.R_tight rfl HO_11.out); rintro e w37 ⟨v137, rfl, ho0, hb, hkp⟩; refine ⟨_, rfl, ?_⟩; have n0_ := Aside0.mk (Kd.R_mono (ok' := fun k_ => True) ho0 (fun k_ hk_ => trivial)); have n1_ := Aside0.mk (hb); clear HB; clear HO_11; have HO138 := n0_; have HB := n1_; clear n0_ n1_; (try clear hb); (try clear hkp); (try clear ho0)))
          go_ret2
          exact ⟨_, by first | rfl | (simp [errW_none, errW_some] <;> rfl) | (simp [*, errW_none, errW_some] <;> rfl), by (with_reducible repeat (first | apply Kd.R_alloc | apply Kd.R_drewN | apply Kd.R_drew)); exact HO138.out, by repeat (first | (with_reducible first | exact HB.out | apply below_alloc | apply pw_below_drewN | apply below_drew1) | exact HB.out)⟩
 ·rw [if_neg c5] at H
  have c5b0 : (t124 == 0) = false := beq_eq_false_iff_ne.mpr c5
  have c5b1 : (t124 != 0) = true := bne_iff_ne.mpr c5
  simp only [Option.some.injEq, Prod.mk.injEq] at H
  obtain ⟨rfl, rfl⟩ := H
  go_enter Try.func23, Try.ntmps23
  go_wp2_with (first | ((with_reducible refine gate_callee (f := 51) rfl ?_); refine goesL_ (some 16) rfl rfl Try.func51 (by kernel_rfl) rfl #[.slice A0 l0.length c0] rfl (by (try simp only [List.map_toArray, List.map_cons, List.map_nil]); first | done | rfl | (simp only [List.length_drop, List.length_take]; rfl)) ?_; (with_reducible refine (span_Check.calls k _ _ l0 t123 t124 _ ?side1 ?side2 A4.out).mono ?_); (case side1 => repeat (first | exact HR0.out | (with_reducible refine Kd.C_alloc ?_ _) | (with_reducible refine Kd.C_drewN ?_ _) | (with_reducible refine Kd.C_drew ?_))); (case side2 => exact HC0.out); rintro e w38 ⟨rfl, hb⟩; refine ⟨_, rfl, ?_⟩; have n0_ := Aside0.mk (below_step (by repeat (first | (with_reducible first | exact HB.out | apply below_alloc | apply pw_below_drewN | apply below_drew1) | exact HB.out)) hb); clear HB; have HB := n0_; clear n0_; (try clear hb); (try clear hb2); (try clear hk); (try clear hi)))
  go_ret2
  exact ⟨_, by first | rfl | (simp [errW_none, errW_some] <;> rfl) | (simp [*, errW_none, errW_some] <;> rfl), by first | exact Kd.R_nil _ _ _ _ _ | exact Kd.N_nil _ _ _ _ _ | exact Kd.V_nil _ _ _ _ _ | exact Kd.Q_nil _ _ _ _ _ | exact Kd.S_nil _ _ _ _ _, by repeat (first | (with_reducible first | exact HB.out | apply below_alloc | apply pw_below_drewN | apply below_drew1) | exact HB.out)⟩
end Go.Proofs.Ytmidiifgdloojaa.Pr
end
