/- SpanGives, for every input: the law answers true and its argument reads as before; no condition. -/
import Derived.Test.YtmidiifgdloojaaProg
import Derived.Below
import Derived.Deep.Draws
import Derived.Deep.AppendLies
import Derived.Maps.AppendAt
import Derived.OwnWalk
import Derived.Laws.BytesArg
import Derived.Laws.MakeOwn
import Derived.Laws.OwnMore
import Derived.Deep.OwnRows
import Derived.Tactics
import Derived.Lib.ConvBytes
import Derived.Laws.Slices
import Derived.WalkKit
import Derived.KernelRfl
import Derived.RowKit3
import Derived.Deep.LoopGhost
import Derived.Deep.QuietTactic
import Derived.BigQuiet
import Derived.WideLaws
import Derived.Deep.DeepCutAuto
import Derived.Deep.CutBlock
import Derived.Deep.RegionHeld3
import Derived.Laws.Rows
import Derived.Lib.AppendStr
import Derived.ArgAppend
import Derived.Laws.IdiomCopy
import Derived.OrdersHeld
import Derived.Laws.BitsLemmas
import Derived.RowKit
import Derived.IntWalk
import Derived.SizedLaws
import Derived.Deep.Slices
import Derived.ChangeArms
import Derived.DataReads
import Derived.Sort.Grow
import Derived.RangeFuncNested
import Derived.RangeFuncBound
import Derived.RangeFuncCalls
import Derived.RangeFuncLeaves
import Derived.Shelf.Abstract
import Derived.Shelf.RegionOpen
import Derived.OwnWalkIn
import Derived.TacticsInMore
import Derived.LoopNIn
import Derived.LoopIn
import Derived.RangeFuncBox
import Derived.Test.YtmidiifgdloojaaClaimGivesW0
section
namespace Go.Proofs.Ytmidiifgdloojaa.Pr
open Go.RowKit Go.Proofs.YtmidiifgdloojaaW.PrintWords Go.Proofs.YtmidiifgdloojaaW.PrintLast Go.Proofs.YtmidiifgdloojaaW.PrintMore
attribute [local go_sem] max2_int min2_int max_two min_two max_three min_three max_four min_four
set_option linter.unusedVariables false
set_option linter.unusedSimpArgs false
def errW : Option Int → Value
 | none => .nilIface
 | some c => .iface 0 (.int .i64 c)
theorem errW_none : errW none = .nilIface := rfl
theorem errW_some (c : Int) : errW (some c) = .iface 0 (.int .i64 c) := rfl
theorem info3 : (Try.prog.info? 3).map (fun i => (i.zero, i.size, i.bytes)) = some (some (.int .i64 0), 1, 8) := by kernel_rfl
theorem info4 : (Try.prog.info? 4).map (fun i => (i.zero, i.size, i.bytes)) = some (some (.bool false), 1, 1) := by kernel_rfl
theorem info22 : (Try.prog.info? 22).map (fun i => (i.zero, i.size, i.bytes)) = some (some (.slice none 0 0), 1, 24) := by kernel_rfl
theorem info36 : (Try.prog.info? 36).map (fun i => (i.zero, i.size, i.bytes)) = some (some (.agg #[(.int .i64 0), (.int .i64 0)]), 2, 16) := by kernel_rfl
structure S36 where
 f0 : Int
 f1 : Int
def z36 : S36 := ⟨(0 : Int), (0 : Int)⟩
def k36 : Kd S36 := Kd.iso (Kd.pair (Kd.int .i64) (Kd.int .i64)) (fun x : S36 => (x.f0, x.f1))
theorem k36_heap : Kd.Heap k36 := Kd.heap_iso _ (Kd.heap_pair (Kd.heap_int .i64) (Kd.heap_int .i64))
theorem k36_open {w : World} {x : S36} {cs : List Value} (h : k36.K w x cs) : cs = [.int .i64 x.f0, .int .i64 x.f1] := by
 obtain ⟨_, _, rfl, rfl, rfl⟩ := h
 exact rfl
theorem k36_openM {w : World} {base : Nat} {ok : Nat → Prop} {x : S36} {cs : List Value} (h : k36.M w base ok x cs) : cs = [.int .i64 x.f0, .int .i64 x.f1] := by
 obtain ⟨_, _, rfl, rfl, rfl⟩ := h
 exact rfl
theorem k36_mk (w : World) (x : S36)  : k36.K w x [.int .i64 x.f0, .int .i64 x.f1] := ⟨[.int .i64 x.f0], [.int .i64 x.f1], rfl, rfl, rfl⟩
theorem k36_mkM (w : World) (base : Nat) (ok : Nat → Prop) (x : S36)  : k36.M w base ok x [.int .i64 x.f0, .int .i64 x.f1] := ⟨[.int .i64 x.f0], [.int .i64 x.f1], rfl, rfl, rfl⟩
theorem k36_mkF (W : World) (ok : Nat → Prop) (x : S36) : Kd.FK k36 W ok x [.int .i64 x.f0, .int .i64 x.f1] := fun W2 _ => k36_mk W2 x
def rd_T36 (xs : List S36) (i : Int) : S36 := xs.getD i.toNat z36
theorem at_T36 {w : World} {A : Option Addr} {n : Nat} {xs : List S36} (h : Kd.C k36 w A n xs) (i : Int) (h0 : 0 ≤ i) (h1 : i < n) : ∃ ad , A = some ad ∧ w.cell? (ad.add (i.toNat * 2)) = some (.int .i64 (rd_T36 xs i).f0) ∧ w.cell? ⟨(ad.add (i.toNat * 2)).block, (ad.add (i.toNat * 2)).off + 1, none⟩ = some (.int .i64 (rd_T36 xs i).f1) := by
 obtain ⟨ad, c, e, _, hK, hc0⟩ := Kd.C_get h z36 i h0 h1
 have hc : ∀ j u, c[j]? = some u → w.cell? (ad.add (i.toNat * 2 + j)) = some u := hc0
 obtain rfl := k36_open hK
 exact ⟨ad, e, hc 0 _ rfl, by rw [← add_field _ _ 1 (by omega)]; exact hc 1 _ rfl⟩
def rd_L3 (xs : List (List S36)) (i : Int) : (List S36) := xs.getD i.toNat ([] : List S36)
theorem at_L3 {w : World} {A : Option Addr} {n : Nat} {xs : List (List S36)} (h : Kd.C (Kd.slice 36 k36) w A n xs) (i : Int) (h0 : 0 ≤ i) (h1 : i < n) : ∃ ad A0 c0, A = some ad ∧ w.cell? (ad.add i.toNat) = some (.slice A0 (rd_L3 xs i).length c0) ∧ (rd_L3 xs i).length ≤ c0 ∧ k36.C w A0 (rd_L3 xs i).length (rd_L3 xs i) := by
 obtain ⟨ad, c, e, _, hK, hc0⟩ := Kd.C_get h ([] : List S36) i h0 h1
 have hc : ∀ j u, c[j]? = some u → w.cell? (ad.add (i.toNat * 1 + j)) = some u := hc0
 obtain ⟨A0, c0, rfl, l0, g0⟩ := hK
 exact ⟨ad, A0, c0, e, by have hq := hc 0 _ rfl; rwa [Nat.mul_one, Nat.add_zero] at hq, l0, g0⟩
structure S76 where
 f0 : Int
 f1 : (List S36)
 f2 : (List S36)
 f3 : Int
 f4 : Int
def z76 : S76 := ⟨(0 : Int), ([] : List S36), ([] : List S36), (0 : Int), (0 : Int)⟩
def k76 : Kd S76 := Kd.iso (Kd.pair (Kd.int .i64) (Kd.pair (Kd.slice 36 k36) (Kd.pair (Kd.slice 36 k36) (Kd.pair (Kd.int .i64) (Kd.int .i64))))) (fun x : S76 => (x.f0, x.f1, x.f2, x.f3, x.f4))
theorem k76_heap : Kd.Heap k76 := Kd.heap_iso _ (Kd.heap_pair (Kd.heap_int .i64) (Kd.heap_pair (Kd.heap_slice 36 k36_heap) (Kd.heap_pair (Kd.heap_slice 36 k36_heap) (Kd.heap_pair (Kd.heap_int .i64) (Kd.heap_int .i64)))))
theorem k76_open {w : World} {x : S76} {cs : List Value} (h : k76.K w x cs) : ∃ A1 c1 A2 c2, cs = [.int .i64 x.f0, .slice A1 x.f1.length c1, .slice A2 x.f2.length c2, .int .i64 x.f3, .int .i64 x.f4] ∧ x.f1.length ≤ c1 ∧ k36.C w A1 x.f1.length x.f1 ∧ x.f2.length ≤ c2 ∧ k36.C w A2 x.f2.length x.f2 := by
 obtain ⟨_, _, rfl, rfl, ⟨_, _, rfl, ⟨A1, c1, rfl, l1, g1⟩, ⟨_, _, rfl, ⟨A2, c2, rfl, l2, g2⟩, ⟨_, _, rfl, rfl, rfl⟩⟩⟩⟩ := h
 exact ⟨A1, c1, A2, c2, rfl, l1, g1, l2, g2⟩
theorem k76_openM {w : World} {base : Nat} {ok : Nat → Prop} {x : S76} {cs : List Value} (h : k76.M w base ok x cs) : ∃ v1 v2, cs = [.int .i64 x.f0, v1, v2, .int .i64 x.f3, .int .i64 x.f4] ∧ k36.R 36 w base ok v1 x.f1 ∧ k36.R 36 w base ok v2 x.f2 := by
 obtain ⟨_, _, rfl, rfl, ⟨_, _, rfl, ⟨v1, rfl, g1⟩, ⟨_, _, rfl, ⟨v2, rfl, g2⟩, ⟨_, _, rfl, rfl, rfl⟩⟩⟩⟩ := h
 exact ⟨v1, v2, rfl, g1, g2⟩
theorem k76_mk (w : World) (x : S76) {A1 : Option Addr} {c1 : Nat} (l1 : x.f1.length ≤ c1) (g1 : k36.C w A1 x.f1.length x.f1) {A2 : Option Addr} {c2 : Nat} (l2 : x.f2.length ≤ c2) (g2 : k36.C w A2 x.f2.length x.f2) : k76.K w x [.int .i64 x.f0, .slice A1 x.f1.length c1, .slice A2 x.f2.length c2, .int .i64 x.f3, .int .i64 x.f4] := ⟨[.int .i64 x.f0], [.slice A1 x.f1.length c1, .slice A2 x.f2.length c2, .int .i64 x.f3, .int .i64 x.f4], rfl, rfl, ⟨[.slice A1 x.f1.length c1], [.slice A2 x.f2.length c2, .int .i64 x.f3, .int .i64 x.f4], rfl, ⟨A1, c1, rfl, l1, g1⟩, ⟨[.slice A2 x.f2.length c2], [.int .i64 x.f3, .int .i64 x.f4], rfl, ⟨A2, c2, rfl, l2, g2⟩, ⟨[.int .i64 x.f3], [.int .i64 x.f4], rfl, rfl, rfl⟩⟩⟩⟩
theorem k76_mkM (w : World) (base : Nat) (ok : Nat → Prop) (x : S76) {v1 : Value} (g1 : k36.R 36 w base ok v1 x.f1) {v2 : Value} (g2 : k36.R 36 w base ok v2 x.f2) : k76.M w base ok x [.int .i64 x.f0, v1, v2, .int .i64 x.f3, .int .i64 x.f4] := ⟨[.int .i64 x.f0], [v1, v2, .int .i64 x.f3, .int .i64 x.f4], rfl, rfl, ⟨[v1], [v2, .int .i64 x.f3, .int .i64 x.f4], rfl, ⟨v1, rfl, g1⟩, ⟨[v2], [.int .i64 x.f3, .int .i64 x.f4], rfl, ⟨v2, rfl, g2⟩, ⟨[.int .i64 x.f3], [.int .i64 x.f4], rfl, rfl, rfl⟩⟩⟩⟩
theorem k76_openF {W : World} {ok : Nat → Prop} {x : S76} {cs : List Value} (h : Kd.FK k76 W ok x cs) : ∃ A1 c1 A2 c2, cs = [.int .i64 x.f0, .slice A1 x.f1.length c1, .slice A2 x.f2.length c2, .int .i64 x.f3, .int .i64 x.f4] ∧ x.f1.length ≤ c1 ∧ Kd.F k36 W ok A1 x.f1.length x.f1 ∧ x.f2.length ≤ c2 ∧ Kd.F k36 W ok A2 x.f2.length x.f2 := by
 obtain ⟨A1, c1, A2, c2, rfl, l1, _, l2, _⟩ := k76_open (Kd.FK_now h)
 exact ⟨A1, c1, A2, c2, rfl, l1, (fun W' hW => by obtain ⟨A1_, c1_, A2_, c2_, he, l1_, g1_, l2_, g2_⟩ := k76_open (h W' hW); injection (Option.some.inj (show some (Value.slice A1 x.f1.length c1) = some (Value.slice A1_ x.f1.length c1_) from congrArg (fun l => l[1]?) he)) with ha_ _ _; rw [ha_]; exact g1_), l2, (fun W' hW => by obtain ⟨A1_, c1_, A2_, c2_, he, l1_, g1_, l2_, g2_⟩ := k76_open (h W' hW); injection (Option.some.inj (show some (Value.slice A2 x.f2.length c2) = some (Value.slice A2_ x.f2.length c2_) from congrArg (fun l => l[2]?) he)) with ha_ _ _; rw [ha_]; exact g2_)⟩
theorem k76_mkF (W : World) (ok : Nat → Prop) (x : S76) {A1 : Option Addr} {c1 : Nat} (l1 : x.f1.length ≤ c1) (g1 : Kd.F k36 W ok A1 x.f1.length x.f1) {A2 : Option Addr} {c2 : Nat} (l2 : x.f2.length ≤ c2) (g2 : Kd.F k36 W ok A2 x.f2.length x.f2) : Kd.FK k76 W ok x [.int .i64 x.f0, .slice A1 x.f1.length c1, .slice A2 x.f2.length c2, .int .i64 x.f3, .int .i64 x.f4] := fun W2 hW => k76_mk W2 x l1 (g1 W2 hW) l2 (g2 W2 hW)
def rd_T76 (xs : List S76) (i : Int) : S76 := xs.getD i.toNat z76
theorem at_T76 {w : World} {A : Option Addr} {n : Nat} {xs : List S76} (h : Kd.C k76 w A n xs) (i : Int) (h0 : 0 ≤ i) (h1 : i < n) : ∃ ad A1 c1 A2 c2, A = some ad ∧ w.cell? (ad.add (i.toNat * 5)) = some (.int .i64 (rd_T76 xs i).f0) ∧ w.cell? ⟨(ad.add (i.toNat * 5)).block, (ad.add (i.toNat * 5)).off + 1, none⟩ = some (.slice A1 (rd_T76 xs i).f1.length c1) ∧ w.cell? ⟨(ad.add (i.toNat * 5)).block, (ad.add (i.toNat * 5)).off + 2, none⟩ = some (.slice A2 (rd_T76 xs i).f2.length c2) ∧ w.cell? ⟨(ad.add (i.toNat * 5)).block, (ad.add (i.toNat * 5)).off + 3, none⟩ = some (.int .i64 (rd_T76 xs i).f3) ∧ w.cell? ⟨(ad.add (i.toNat * 5)).block, (ad.add (i.toNat * 5)).off + 4, none⟩ = some (.int .i64 (rd_T76 xs i).f4) ∧ (rd_T76 xs i).f1.length ≤ c1 ∧ k36.C w A1 (rd_T76 xs i).f1.length (rd_T76 xs i).f1 ∧ (rd_T76 xs i).f2.length ≤ c2 ∧ k36.C w A2 (rd_T76 xs i).f2.length (rd_T76 xs i).f2 := by
 obtain ⟨ad, c, e, _, hK, hc0⟩ := Kd.C_get h z76 i h0 h1
 have hc : ∀ j u, c[j]? = some u → w.cell? (ad.add (i.toNat * 5 + j)) = some u := hc0
 obtain ⟨A1, c1, A2, c2, rfl, l1, g1, l2, g2⟩ := k76_open hK
 exact ⟨ad, A1, c1, A2, c2, e, hc 0 _ rfl, by rw [← add_field _ _ 1 (by omega)]; exact hc 1 _ rfl, by rw [← add_field _ _ 2 (by omega)]; exact hc 2 _ rfl, by rw [← add_field _ _ 3 (by omega)]; exact hc 3 _ rfl, by rw [← add_field _ _ 4 (by omega)]; exact hc 4 _ rfl, l1, g1, l2, g2⟩
end Go.Proofs.Ytmidiifgdloojaa.Pr
end
section
namespace Go.Proofs.Ytmidiifgdloojaa.SpanMath
open Go.Proofs.Ytmidiifgdloojaa.Pr
def mem (l : List S36) (q : Int) : Prop := ∃ r ∈ l, r.f0 ≤ q ∧ q < r.f1
theorem mem_cons (r : S36) (l : List S36) (q : Int) : mem (r :: l) q ↔ (r.f0 ≤ q ∧ q < r.f1) ∨ mem l q := by simp [mem]
theorem mem_append (a b : List S36) (q : Int) : mem (a ++ b) q ↔ mem a q ∨ mem b q := by
  induction a with
  | nil => simp [mem]
  | cons r a ih => rw [List.cons_append, mem_cons, mem_cons, ih, or_assoc]
def Nrm (l : List S36) : Prop := l.Pairwise (fun r s => r.f1 < s.f0) ∧ ∀ r ∈ l, r.f0 < r.f1
theorem nrm_nil : Nrm [] := ⟨List.Pairwise.nil, by simp⟩
theorem nrm_cons {r : S36} {l : List S36} : Nrm (r :: l) ↔ r.f0 < r.f1 ∧ (∀ s ∈ l, r.f1 < s.f0) ∧ Nrm l := by
  unfold Nrm
  rw [List.pairwise_cons]
  constructor
  · rintro ⟨⟨h1, h2⟩, h3⟩
    exact ⟨h3 r List.mem_cons_self, h1, h2, fun s hs => h3 s (List.mem_cons_of_mem _ hs)⟩
  · rintro ⟨h1, h2, h3, h4⟩
    refine ⟨⟨h2, h3⟩, fun s hs => ?_⟩
    rcases List.mem_cons.1 hs with rfl | hs
    · exact h1
    · exact h4 s hs
theorem s_ext {r s : S36} (h0 : r.f0 = s.f0) (h1 : r.f1 = s.f1) : r = s := by
  cases r; cases s; simp_all
theorem concat_cases (l : List S36) : l = [] ∨ ∃ i r, l = i ++ [r] := by
  rcases List.eq_nil_or_concat l with h | ⟨i, r, h⟩
  · exact .inl h
  · exact .inr ⟨i, r, by simpa using h⟩
end Go.Proofs.Ytmidiifgdloojaa.SpanMath
end
section
namespace Go.Proofs.Ytmidiifgdloojaa.Pr
open Go.RowKit Go.Proofs.YtmidiifgdloojaaW.PrintWords Go.Proofs.YtmidiifgdloojaaW.PrintLast Go.Proofs.YtmidiifgdloojaaW.PrintMore
attribute [local go_sem] max2_int min2_int max_two min_two max_three min_three max_four min_four
set_option linter.unusedVariables false
set_option linter.unusedSimpArgs false
def redraftlaw02_copied.f (l0 : List (S36)) : Option ((List (S36))) := if ([] : List (S36)).length + l0.length < 8796093022208 then (some (([] : List (S36)) ++ l0)) else (none)
set_option maxHeartbeats 8000000 in
set_option maxRecDepth 100000 in
theorem redraftlaw02_copied.calls (A0 : Option Addr) (c0 : Nat) (l0 : List (S36)) (r : List (S36)) (w : World) (hr0 : Kd.C k36 w A0 l0.length l0) (hc0 : l0.length ≤ c0) (h : redraftlaw02_copied.f l0 = some r) :
  Calls Try.prog 17 #[.slice A0 l0.length c0] w fun e w' => ∃ v0_ : Value, e = .returned (v0_) ∧ Kd.R k36 36 w' w.heap.size (fun _ => True) v0_ r ∧ Below w.heap.size w w' := by
 have HR0 := Aside0.mk hr0
 have HC0 := Aside0.mk hc0
 clear hr0 hc0
 have HB := Aside0.mk (Below.refl w.heap.size w)
 have H : (if ([] : List (S36)).length + l0.length < 8796093022208 then (some (([] : List (S36)) ++ l0)) else (none)) = some r := h
 clear h
 by_cases c2 : ([] : List (S36)).length + l0.length < 8796093022208
 ·rw [if_pos c2] at H
  have LMc2 := Aside0.mk c2
  clear c2
  obtain ⟨y112, hy112⟩ : ∃ y_ : List (S36), y_ = (([] : List (S36)) ++ l0) := ⟨_, rfl⟩
  replace H : (some y112) = some r := by first | (rw [hy112]; with_reducible exact H) | (have H2_ := (Option.bind_some _ _).symm.trans H; rw [hy112]; with_reducible exact H2_) | (have H2_ := (Option.bind_some _ _).symm.trans H; with_reducible exact H2_) | with_reducible exact H | (rw [hy112]; exact H) | exact H
  have Ny112 := Aside0.mk hy112
  clear hy112
  obtain rfl := Option.some.inj H
  go_enter Try.func17, Try.ntmps17
  go_wp2_with (first | ((with_reducible refine gate_builtin (b := .append) (xs := #[.const (.slice none 0 0), .tmp 3]) rfl ?_); at_builtin; refine Kd.R_append_rows k36 (w0 := w) w.heap.size rfl (.const (.slice none 0 0)) (.tmp 3) 22 36 (.agg #[(.int .i64 0), (.int .i64 0)]) 16 rfl Try.underlying22 info36 rfl (by decide) (by omega) (.slice none 0 0) ([] : List (S36)) l0 _ _ _ (fun _ => True) (fun _ => False) rfl rfl ?aO ?aR (fun _ _ h => h) (fun _ h => h.elim) ?aF ?aB ?aS ?aL ?_; (case aR => repeat (first | exact HR0.out | (with_reducible refine Kd.C_alloc ?_ _) | (with_reducible refine Kd.C_drewN ?_ _) | (with_reducible refine Kd.C_drew ?_))); (case aB => exact (by repeat (first | (with_reducible first | exact HB.out | apply below_alloc | apply pw_below_drewN | apply below_drew1) | exact HB.out))); (case aF => exact (fun _ _ => trivial)); (case aO => exact ((Kd.R_nil _ _ _ _ (fun _ => True)))); (case aS => exact (below_size (by repeat (first | (with_reducible first | exact HB.out | apply below_alloc | apply pw_below_drewN | apply below_drew1) | exact HB.out)))); (case aL => have := LMc2.out; omega); intro v113 w3 ho hb hg hat; rw [← Ny112.out] at ho; have n0_ := Aside0.mk (hb); have n1_ := Aside0.mk (ho); clear HB; have HB := n0_; have HO114 := n1_; clear n0_ n1_; clear ho hb hg hat))
  go_ret
  exact ⟨_, by first | rfl | (simp [errW_none, errW_some] <;> rfl) | (simp [*, errW_none, errW_some] <;> rfl), by (with_reducible repeat (first | apply Kd.R_alloc | apply Kd.R_drewN | apply Kd.R_drew)); exact HO114.out, by repeat (first | (with_reducible first | exact HB.out | apply below_alloc | apply pw_below_drewN | apply below_drew1) | exact HB.out)⟩
 ·rw [if_neg c2] at H
  exact absurd H (by simp)
end Go.Proofs.Ytmidiifgdloojaa.Pr
end
section
namespace Go.Proofs.Ytmidiifgdloojaa.Pr
open Go.RowKit Go.Proofs.YtmidiifgdloojaaW.PrintWords Go.Proofs.YtmidiifgdloojaaW.PrintLast Go.Proofs.YtmidiifgdloojaaW.PrintMore
attribute [local go_sem] max2_int min2_int max_two min_two max_three min_three max_four min_four
set_option linter.unusedVariables false
set_option linter.unusedSimpArgs false
def redraftlaw02_num.f (a0 : Int) : Option (Int) := some a0
set_option maxHeartbeats 8000000 in
set_option maxRecDepth 100000 in
theorem redraftlaw02_num.calls (a0 : Int) (r : Int) (w : World) (h : redraftlaw02_num.f a0 = some r) :
  Calls Try.prog 19 #[.int .i64 a0] w fun e w' => e = .returned (.int .i64 r) ∧ Drawn0 w w' := by
 have H : (some a0) = some r := h
 clear h
 obtain rfl := Option.some.inj H
 go_enter Try.func19, Try.ntmps19
 go_wp2
 go_ret
 exact ⟨by first | rfl | (simp; done) | (simp [*]; done), by repeat (first | exact Drawn0.refl _ | apply Drawn0.step)⟩
end Go.Proofs.Ytmidiifgdloojaa.Pr
end
section
namespace Go.Proofs.Ytmidiifgdloojaa.Pr
open Go.RowKit Go.Proofs.YtmidiifgdloojaaW.PrintWords Go.Proofs.YtmidiifgdloojaaW.PrintLast Go.Proofs.YtmidiifgdloojaaW.PrintMore
attribute [local go_sem] max2_int min2_int max_two min_two max_three min_three max_four min_four
set_option linter.unusedVariables false
set_option linter.unusedSimpArgs false
mutual
def span_Check.l0 : Nat → List (S36) → List (S36) → Int → Int → Option (Int × Int)
 | 0, _, _, _, _ => none
 | k + 1, x0, x9, x10, x11 => if x11 < x10 then (if 0 ≤ x11 then (if x11 < (x9.length : Int) then (if ((rd_T36 x9 x11).f0) < 0 then (span_Check.j1 k x0 x11 x9 x10 x11 true ((rd_T36 x9 x11).f0) ((rd_T36 x9 x11).f1)) else (if ((rd_T36 x9 x11).f1) > 1048576 then (span_Check.j1 k x0 x11 x9 x10 x11 true ((rd_T36 x9 x11).f0) ((rd_T36 x9 x11).f1)) else (span_Check.j1 k x0 x11 x9 x10 x11 (decide (((rd_T36 x9 x11).f0) ≥ ((rd_T36 x9 x11).f1))) ((rd_T36 x9 x11).f0) ((rd_T36 x9 x11).f1)))) else (none)) else (none)) else (some (0, 0))
def span_Check.j1 : Nat → List (S36) → Int → List (S36) → Int → Int → Bool → Int → Int → Option (Int × Int)
 | 0, _, _, _, _, _, _, _, _ => none
 | k + 1, x0, x4, x9, x10, x11, x30, x122000, x122001 => if x30 = true then (some (x4, 20)) else (if x4 > 0 then (if 0 ≤ (wrap64 (x4 - 1)) then (if (wrap64 (x4 - 1)) < (x0.length : Int) then (if x122000 ≤ ((rd_T36 x0 (wrap64 (x4 - 1))).f1) then (some (x4, 22)) else (span_Check.l0 k x0 x9 x10 (wrap64 (x11 + 1)))) else (none)) else (none)) else (span_Check.l0 k x0 x9 x10 (wrap64 (x11 + 1))))
end
def span_Check.f (k : Nat) (l0 : List (S36)) : Option (Int × Int) := if (l0.length : Int) > 32768 then (some (32768, 21)) else (span_Check.l0 k l0 l0 (l0.length : Int) 0)
theorem span_Check.mono_l : ∀ k, (∀ y0 y1 y2 y3, LeO (span_Check.l0 k y0 y1 y2 y3) (span_Check.l0 (k + 1) y0 y1 y2 y3)) ∧ (∀ y0 y1 y2 y3 y4 y5 y6 y7, LeO (span_Check.j1 k y0 y1 y2 y3 y4 y5 y6 y7) (span_Check.j1 (k + 1) y0 y1 y2 y3 y4 y5 y6 y7))
 | 0 => ⟨fun _ _ _ _ r h => by simp [span_Check.l0] at h, fun _ _ _ _ _ _ _ _ r h => by simp [span_Check.j1] at h⟩
 | k + 1 => by
  obtain ⟨ih0, ih1⟩ := span_Check.mono_l k
  refine ⟨?_, ?_⟩
  ·intro y0 y1 y2 y3
   unfold span_Check.l0
   repeat' first
   | (with_reducible exact ih0 _ _ _ _)
   | (with_reducible exact ih1 _ _ _ _ _ _ _ _)
   | (with_reducible exact LeO.refl _)
   | (with_reducible exact LeO.none _)
   | (with_reducible refine LeO.ite ?_ ?_)
   | (with_reducible refine LeO.bind ?_ (fun _ => ?_))
   | exact ih0 _ _ _ _
   | exact ih1 _ _ _ _ _ _ _ _
   | exact LeO.none _
   | refine LeO.ite ?_ ?_
   | refine LeO.bind ?_ (fun _ => ?_)
  ·intro y0 y1 y2 y3 y4 y5 y6 y7
   unfold span_Check.j1
   repeat' first
   | (with_reducible exact ih0 _ _ _ _)
   | (with_reducible exact ih1 _ _ _ _ _ _ _ _)
   | (with_reducible exact LeO.refl _)
   | (with_reducible exact LeO.none _)
   | (with_reducible refine LeO.ite ?_ ?_)
   | (with_reducible refine LeO.bind ?_ (fun _ => ?_))
   | exact ih0 _ _ _ _
   | exact ih1 _ _ _ _ _ _ _ _
   | exact LeO.none _
   | refine LeO.ite ?_ ?_
   | refine LeO.bind ?_ (fun _ => ?_)
theorem span_Check.mono : ∀ a0 k, LeO (span_Check.f k a0) (span_Check.f (k + 1) a0) := by
 intro a0 k
 obtain ⟨ih0, ih1⟩ := span_Check.mono_l k
 unfold span_Check.f
 repeat' first
   | (with_reducible exact ih0 _ _ _ _)
   | (with_reducible exact ih1 _ _ _ _ _ _ _ _)
   | (with_reducible exact LeO.refl _)
   | (with_reducible exact LeO.none _)
   | (with_reducible refine LeO.ite ?_ ?_)
   | (with_reducible refine LeO.bind ?_ (fun _ => ?_))
   | exact ih0 _ _ _ _
   | exact ih1 _ _ _ _ _ _ _ _
   | exact LeO.none _
   | refine LeO.ite ?_ ?_
   | refine LeO.bind ?_ (fun _ => ?_)
set_option maxHeartbeats 8000000 in
set_option maxRecDepth 100000 in
theorem span_Check.calls (k : Nat) (A0 : Option Addr) (c0 : Nat) (l0 : List (S36)) (r1 : Int) (r2 : Int) (w : World) (hr0 : Kd.C k36 w A0 l0.length l0) (hc0 : l0.length ≤ c0) (h : span_Check.f k l0 = some (r1, r2)) :
  Calls Try.prog 51 #[.slice A0 l0.length c0] w fun e w' => e = .returned (.tuple #[.int .i64 r1, .int .i64 r2]) ∧ Below w.heap.size w w' := by
 have hu36 := Try.underlying36
 have HR0 := Aside0.mk hr0
 have HC0 := Aside0.mk hc0
 clear hr0 hc0
 have HB := Aside0.mk (Below.refl w.heap.size w)
 have H : (if (l0.length : Int) > 32768 then (some (32768, 21)) else (span_Check.l0 k l0 l0 (l0.length : Int) 0)) = some (r1, r2) := h
 clear h
 by_cases c2 : (l0.length : Int) > 32768
 ·rw [if_pos c2] at H
  have c2b0 : decide (32768 < (l0.length : Int)) = true := decide_eq_true c2
  have c2b1 : decide (32768 < l0.length) = true := decide_eq_true (by omega)
  clear c2
  simp only [Option.some.injEq, Prod.mk.injEq] at H
  obtain ⟨rfl, rfl⟩ := H
  go_enter Try.func51, Try.ntmps51
  go_wp2
  repeat (go_quiet (fail); try go_wp2)
  go_ret2
  exact ⟨by first | rfl | (simp [errW_none, errW_some] <;> rfl) | (simp [*, errW_none, errW_some] <;> rfl), by repeat (first | (with_reducible first | exact HB.out | apply below_alloc | apply pw_below_drewN | apply below_drew1) | exact HB.out)⟩
 ·rw [if_neg c2] at H
  have c2b0 : decide (32768 < (l0.length : Int)) = false := decide_eq_false c2
  have c2b1 : decide (32768 < l0.length) = false := decide_eq_false (by omega)
  clear c2
  have H' := Aside0.mk H
  clear H
  go_enter Try.func51, Try.ntmps51
  go_wp2
  repeat (go_quiet (fail); try go_wp2)
  go_loopg [11] k (fun kq v11 w' => ∃ (x11_1 : Int), v11 = .int .i64 x11_1 ∧ Aside0 (span_Check.l0 kq l0 l0 (l0.length : Int) x11_1 = some (r1, r2)) ∧ Aside0 (kq ≤ k) ∧ Aside0 (Below w.heap.size w w'))
  case atStart => exact ⟨(0), (by first | rfl | (simp; done) | (simp [*]; done)), H', ⟨Nat.le_refl _⟩, ⟨by repeat (first | (with_reducible first | exact HB.out | apply below_alloc | apply pw_below_drewN | apply below_drew1) | exact HB.out)⟩⟩
  case round =>
   clear H'
   try clear c2
   try clear c2b0
   try clear c2b1
   try clear p2
   obtain ⟨x11_1, rfl, HA, HK1, HB⟩ := hrel
   cases gk with
   | zero => exact absurd HA.out (by simp [span_Check.l0])
   | succ k1 =>
    have H := HA.out
    clear HA
    simp only [span_Check.l0] at H
    by_cases c3 : x11_1 < (l0.length : Int)
    ·rw [if_pos c3] at H
     have c3b0 : decide (x11_1 < (l0.length : Int)) = true := decide_eq_true c3
     clear c3
     by_cases c4 : 0 ≤ x11_1
     ·rw [if_pos c4] at H
      have c4b0 : decide (0 ≤ x11_1) = true := decide_eq_true c4
      clear c4
      by_cases c5 : x11_1 < (l0.length : Int)
      ·rw [if_pos c5] at H
       have c5b0 : decide (x11_1 < (l0.length : Int)) = true := decide_eq_true c5
       clear c5
       have HC6 := Aside0.mk H
       clear H
       have p120 : 0 ≤ (x11_1 : Int) := of_decide_eq_true (by first | (with_reducible assumption) | assumption)
       have q120 : x11_1 < (l0.length : Int) := of_decide_eq_true (by first | (with_reducible assumption) | assumption)
       obtain ⟨ad120, e120, hx120_0, hx120_1⟩ := at_T36 HR0.out x11_1 p120 q120
       cases e120
       replace hx120_0 := (HB.out.cell (World.block_lt_of_cell? w _ hx120_0)).trans hx120_0
       replace hx120_1 := (HB.out.cell (World.block_lt_of_cell? w _ hx120_1)).trans hx120_1
       replace p120 := eq_true p120
       replace q120 := eq_true q120
       go_upto_region 6 with (first | ((with_reducible refine gate_dst (N := 5) rfl ?_); refine box_event ?hg (N := 5) ?hd (cs := #[.int .i64 0, .int .i64 0]) (t := 36) ?hr ?_; (case hd => rfl); (case hg => rfl); (case hr => first | (go_simp; done) | (go_simp; rfl)); intro gb121 hg w7 hbox hb; have n0_ := Aside0.mk (below_step (by repeat (first | (with_reducible first | exact HB.out | apply below_alloc | apply pw_below_drewN | apply below_drew1) | exact HB.out)) hb); have n1_ := Aside0.mk (hbox); have n2_ := Aside0.mk ((by rw [hg]; exact (below_size (by repeat (first | (with_reducible first | exact HB.out | apply below_alloc | apply pw_below_drewN | apply below_drew1) | exact HB.out))) : w.heap.size ≤ gb121)); have n3_ := Aside0.mk ((by rw [hg]; exact (below_size (by repeat (first | (with_reducible first | exact HB.out | apply below_alloc | apply pw_below_drewN | apply below_drew1) | exact HB.out))) : w.heap.size ≤ gb121)); clear HB; have HB := n0_; have BK121 := n1_; have GW121 := n2_; have GE121 := n3_; clear n0_ n1_ n2_ n3_; clear hb hbox hg; have hcz8_0 : w7.cell? ⟨gb121, 0, none⟩ = some (.int .i64 0) := (blk_cell BK121.out 0).trans rfl; have hcz8_1 : w7.cell? ⟨gb121, 1, none⟩ = some (.int .i64 0) := (blk_cell BK121.out 1).trans rfl; have hfz8_0 := blk_frozen BK121.out 0; have hfz8_1 := blk_frozen BK121.out 1))
       repeat (go_quiet (first | ((with_reducible refine gate_dst (N := 5) rfl ?_); refine box_event ?hg (N := 5) ?hd (cs := #[.int .i64 0, .int .i64 0]) (t := 36) ?hr ?_; (case hd => rfl); (case hg => rfl); (case hr => first | (go_simp; done) | (go_simp; rfl)); intro gb121 hg w7 hbox hb; have n0_ := Aside0.mk (below_step (by repeat (first | (with_reducible first | exact HB.out | apply below_alloc | apply pw_below_drewN | apply below_drew1) | exact HB.out)) hb); have n1_ := Aside0.mk (hbox); have n2_ := Aside0.mk ((by rw [hg]; exact (below_size (by repeat (first | (with_reducible first | exact HB.out | apply below_alloc | apply pw_below_drewN | apply below_drew1) | exact HB.out))) : w.heap.size ≤ gb121)); have n3_ := Aside0.mk ((by rw [hg]; exact (below_size (by repeat (first | (with_reducible first | exact HB.out | apply below_alloc | apply pw_below_drewN | apply below_drew1) | exact HB.out))) : w.heap.size ≤ gb121)); clear HB; have HB := n0_; have BK121 := n1_; have GW121 := n2_; have GE121 := n3_; clear n0_ n1_ n2_ n3_; clear hb hbox hg; have hcz8_0 : w7.cell? ⟨gb121, 0, none⟩ = some (.int .i64 0) := (blk_cell BK121.out 0).trans rfl; have hcz8_1 : w7.cell? ⟨gb121, 1, none⟩ = some (.int .i64 0) := (blk_cell BK121.out 1).trans rfl; have hfz8_0 := blk_frozen BK121.out 0; have hfz8_1 := blk_frozen BK121.out 1)); go_upto_region 6 with (first | ((with_reducible refine gate_dst (N := 5) rfl ?_); refine box_event ?hg (N := 5) ?hd (cs := #[.int .i64 0, .int .i64 0]) (t := 36) ?hr ?_; (case hd => rfl); (case hg => rfl); (case hr => first | (go_simp; done) | (go_simp; rfl)); intro gb121 hg w7 hbox hb; have n0_ := Aside0.mk (below_step (by repeat (first | (with_reducible first | exact HB.out | apply below_alloc | apply pw_below_drewN | apply below_drew1) | exact HB.out)) hb); have n1_ := Aside0.mk (hbox); have n2_ := Aside0.mk ((by rw [hg]; exact (below_size (by repeat (first | (with_reducible first | exact HB.out | apply below_alloc | apply pw_below_drewN | apply below_drew1) | exact HB.out))) : w.heap.size ≤ gb121)); have n3_ := Aside0.mk ((by rw [hg]; exact (below_size (by repeat (first | (with_reducible first | exact HB.out | apply below_alloc | apply pw_below_drewN | apply below_drew1) | exact HB.out))) : w.heap.size ≤ gb121)); clear HB; have HB := n0_; have BK121 := n1_; have GW121 := n2_; have GE121 := n3_; clear n0_ n1_ n2_ n3_; clear hb hbox hg; have hcz8_0 : w7.cell? ⟨gb121, 0, none⟩ = some (.int .i64 0) := (blk_cell BK121.out 0).trans rfl; have hcz8_1 : w7.cell? ⟨gb121, 1, none⟩ = some (.int .i64 0) := (blk_cell BK121.out 1).trans rfl; have hfz8_0 := blk_frozen BK121.out 0; have hfz8_1 := blk_frozen BK121.out 1)))
       (try simp only [Act.put, List.setIfInBounds_toArray, List.set_cons_zero, List.set_cons_succ])
       go_cut [30] (fun v30 wc => ∃ (kq : Nat) (x30_5 : Bool), v30 = .bool x30_5 ∧ Aside0 (span_Check.j1 kq l0 x11_1 l0 (l0.length : Int) x11_1 x30_5 ((rd_T36 l0 x11_1).f0) ((rd_T36 l0 x11_1).f1) = some (r1, r2)) ∧ Aside0 (kq ≤ k1) ∧ Aside0 (wc.heap[gb121]? = some (.cells #[.int .i64 ((rd_T36 l0 x11_1).f0), .int .i64 ((rd_T36 l0 x11_1).f1)] 36 (0, 0))) ∧ Aside0 (Below w.heap.size w wc))
       case first =>
        have H := HC6.out
        clear HC6
        by_cases c9 : ((rd_T36 l0 x11_1).f0) < 0
        ·rw [if_pos c9] at H
         have c9b0 : decide (((rd_T36 l0 x11_1).f0) < 0) = true := decide_eq_true c9
         clear c9
         (first | rw [c9b0] | (simp only [i64_w, i32_w]; rw [c9b0]) | skip)
         have H' := Aside0.mk H
         clear H
         have hcz10_0 : w7.cell? ⟨gb121, 0, none⟩ = some (.int .i64 0) := (blk_cell BK121.out 0).trans rfl
         have hcz10_1 : w7.cell? ⟨gb121, 1, none⟩ = some (.int .i64 0) := (blk_cell BK121.out 1).trans rfl
         have hfz10_0 := blk_frozen BK121.out 0
         have hfz10_1 := blk_frozen BK121.out 1
         go_wp2
         repeat (go_quiet (fail); try go_wp2)
         go_meet
         case rel => exact ⟨_, (true), (by first | rfl | (simp; done) | (simp [*]; done)), H', ⟨by have := HK1.out; first | omega | exact Nat.le_refl _⟩, ⟨by (with_reducible repeat (first | refine blk_drewN ?_ _ | refine blk_drew ?_ | refine blk_alloc ?_ _)); refine blk_put (cs := #[.int .i64 ((rd_T36 l0 x11_1).f0), .int .i64 0]) ?_ 1 _ rfl; (with_reducible repeat (first | refine blk_drewN ?_ _ | refine blk_drew ?_ | refine blk_alloc ?_ _)); refine blk_put (cs := #[.int .i64 0, .int .i64 0]) ?_ 0 _ rfl; (with_reducible repeat (first | refine blk_drewN ?_ _ | refine blk_drew ?_ | refine blk_alloc ?_ _)); exact BK121.out⟩, ⟨by repeat (first | (with_reducible first | exact HB.out | apply below_alloc | apply pw_below_drewN | apply below_drew1 | refine below_set ?_ GE121.out) | exact HB.out)⟩⟩
        ·rw [if_neg c9] at H
         have c9b0 : decide (((rd_T36 l0 x11_1).f0) < 0) = false := decide_eq_false c9
         clear c9
         (first | rw [c9b0] | (simp only [i64_w, i32_w]; rw [c9b0]) | skip)
         by_cases c11 : ((rd_T36 l0 x11_1).f1) > 1048576
         ·rw [if_pos c11] at H
          have c11b0 : decide (1048576 < ((rd_T36 l0 x11_1).f1)) = true := decide_eq_true c11
          clear c11
          have H' := Aside0.mk H
          clear H
          have hcz12_0 : w7.cell? ⟨gb121, 0, none⟩ = some (.int .i64 0) := (blk_cell BK121.out 0).trans rfl
          have hcz12_1 : w7.cell? ⟨gb121, 1, none⟩ = some (.int .i64 0) := (blk_cell BK121.out 1).trans rfl
          have hfz12_0 := blk_frozen BK121.out 0
          have hfz12_1 := blk_frozen BK121.out 1
          go_wp2
          repeat (go_quiet (fail); try go_wp2)
          go_meet
          case rel => exact ⟨_, (true), (by first | rfl | (simp; done) | (simp [*]; done)), H', ⟨by have := HK1.out; first | omega | exact Nat.le_refl _⟩, ⟨by (with_reducible repeat (first | refine blk_drewN ?_ _ | refine blk_drew ?_ | refine blk_alloc ?_ _)); refine blk_put (cs := #[.int .i64 ((rd_T36 l0 x11_1).f0), .int .i64 0]) ?_ 1 _ rfl; (with_reducible repeat (first | refine blk_drewN ?_ _ | refine blk_drew ?_ | refine blk_alloc ?_ _)); refine blk_put (cs := #[.int .i64 0, .int .i64 0]) ?_ 0 _ rfl; (with_reducible repeat (first | refine blk_drewN ?_ _ | refine blk_drew ?_ | refine blk_alloc ?_ _)); exact BK121.out⟩, ⟨by repeat (first | (with_reducible first | exact HB.out | apply below_alloc | apply pw_below_drewN | apply below_drew1 | refine below_set ?_ GE121.out) | exact HB.out)⟩⟩
         ·rw [if_neg c11] at H
          have c11b0 : decide (1048576 < ((rd_T36 l0 x11_1).f1)) = false := decide_eq_false c11
          clear c11
          have H' := Aside0.mk H
          clear H
          have hcz13_0 : w7.cell? ⟨gb121, 0, none⟩ = some (.int .i64 0) := (blk_cell BK121.out 0).trans rfl
          have hcz13_1 : w7.cell? ⟨gb121, 1, none⟩ = some (.int .i64 0) := (blk_cell BK121.out 1).trans rfl
          have hfz13_0 := blk_frozen BK121.out 0
          have hfz13_1 := blk_frozen BK121.out 1
          go_wp2
          repeat (go_quiet (fail); try go_wp2)
          go_meet
          case rel => exact ⟨_, (decide (((rd_T36 l0 x11_1).f0) ≥ ((rd_T36 l0 x11_1).f1))), (by first | rfl | (simp; done) | (simp [*]; done)), H', ⟨by have := HK1.out; first | omega | exact Nat.le_refl _⟩, ⟨by (with_reducible repeat (first | refine blk_drewN ?_ _ | refine blk_drew ?_ | refine blk_alloc ?_ _)); refine blk_put (cs := #[.int .i64 ((rd_T36 l0 x11_1).f0), .int .i64 0]) ?_ 1 _ rfl; (with_reducible repeat (first | refine blk_drewN ?_ _ | refine blk_drew ?_ | refine blk_alloc ?_ _)); refine blk_put (cs := #[.int .i64 0, .int .i64 0]) ?_ 0 _ rfl; (with_reducible repeat (first | refine blk_drewN ?_ _ | refine blk_drew ?_ | refine blk_alloc ?_ _)); exact BK121.out⟩, ⟨by repeat (first | (with_reducible first | exact HB.out | apply below_alloc | apply pw_below_drewN | apply below_drew1 | refine below_set ?_ GE121.out) | exact HB.out)⟩⟩
       case rest =>
        clear HC6
        try clear c1
        try clear p1
        try clear q1
        try clear hx1
        try clear c2
        try clear c2b0
        try clear c2b1
        try clear p2
        try clear c3
        try clear c3b0
        try clear c4
        try clear c4b0
        try clear c5
        try clear c5b0
        try clear c9
        try clear c9b0
        try clear c11
        try clear c11b0
        try clear p12
        try clear q12
        try clear hx12
        try clear hcz10_0
        try clear hcz10_1
        try clear hcz12_0
        try clear hcz12_1
        try clear hcz13_0
        try clear hcz13_1
        try clear hcz8_0
        try clear hcz8_1
        try clear hfz10_0
        try clear hfz10_1
        try clear hfz12_0
        try clear hfz12_1
        try clear hfz13_0
        try clear hfz13_1
        try clear hfz8_0
        try clear hfz8_1
        try clear hx120_0
        try clear hx120_1
        try clear p120
        try clear p2
        try clear q120
        obtain ⟨kq, x30_5, rfl, HA, HJ5, BK121, HB⟩ := hcut
        cases kq with
        | zero => exact absurd HA.out (by simp [span_Check.j1])
        | succ kj5 =>
         have H := HA.out
         clear HA
         simp only [span_Check.j1] at H
         by_cases c14 : x30_5 = true
         ·subst c14
          have H1 : (some (x11_1, 20)) = some (r1, r2) := by rw [if_pos rfl] at H; exact H
          clear H
          have H := H1
          clear H1
          simp only [Option.some.injEq, Prod.mk.injEq] at H
          obtain ⟨rfl, rfl⟩ := H
          go_wp2
          repeat (go_quiet (fail); try go_wp2)
          go_ret2
          exact ⟨by first | rfl | (simp [errW_none, errW_some] <;> rfl) | (simp [*, errW_none, errW_some] <;> rfl), by repeat (first | (with_reducible first | exact HB.out | apply below_alloc | apply pw_below_drewN | apply below_drew1 | refine below_set ?_ GE121.out) | exact HB.out)⟩
         ·replace c14 := Bool.eq_false_iff.mpr c14
          subst c14
          have H1 : (if x11_1 > 0 then (if 0 ≤ (wrap64 (x11_1 - 1)) then (if (wrap64 (x11_1 - 1)) < (l0.length : Int) then (if ((rd_T36 l0 x11_1).f0) ≤ ((rd_T36 l0 (wrap64 (x11_1 - 1))).f1) then (some (x11_1, 22)) else (span_Check.l0 kj5 l0 l0 (l0.length : Int) (wrap64 (x11_1 + 1)))) else (none)) else (none)) else (span_Check.l0 kj5 l0 l0 (l0.length : Int) (wrap64 (x11_1 + 1)))) = some (r1, r2) := by rw [if_neg (show ¬ (false = true) by decide)] at H; exact H
          clear H
          have H := H1
          clear H1
          by_cases c15 : x11_1 > 0
          ·rw [if_pos c15] at H
           have c15b0 : decide (0 < x11_1) = true := decide_eq_true c15
           clear c15
           obtain ⟨ji16, hji16⟩ : ∃ j_ : Int, (wrap64 (x11_1 - 1)) = j_ := ⟨_, rfl⟩
           replace H : (if 0 ≤ (ji16) then (if (ji16) < (l0.length : Int) then (if ((rd_T36 l0 x11_1).f0) ≤ ((rd_T36 l0 (ji16)).f1) then (some (x11_1, 22)) else (span_Check.l0 kj5 l0 l0 (l0.length : Int) (wrap64 (x11_1 + 1)))) else (none)) else (none)) = some (r1, r2) := by first | (rw [hji16] at H; exact H) | (simp only [hji16] at H ⊢; exact H)
           have hji16w : (IntKind.i64.wrap (x11_1 - 1)) = ji16 := (i64_w _).trans hji16
           by_cases c17 : 0 ≤ (ji16)
           ·rw [if_pos c17] at H
            have c17b0 : decide (0 ≤ (ji16)) = true := decide_eq_true c17
            clear c17
            by_cases c18 : (ji16) < (l0.length : Int)
            ·rw [if_pos c18] at H
             have c18b0 : decide ((ji16) < (l0.length : Int)) = true := decide_eq_true c18
             clear c18
             by_cases c19 : ((rd_T36 l0 x11_1).f0) ≤ ((rd_T36 l0 (ji16)).f1)
             ·rw [if_pos c19] at H
              have c19b0 : decide (((rd_T36 l0 x11_1).f0) ≤ ((rd_T36 l0 (ji16)).f1)) = true := decide_eq_true c19
              clear c19
              simp only [Option.some.injEq, Prod.mk.injEq] at H
              obtain ⟨rfl, rfl⟩ := H
              have hcz20_0 : wc.cell? ⟨gb121, 0, none⟩ = some (.int .i64 ((rd_T36 l0 x11_1).f0)) := (blk_cell BK121.out 0).trans rfl
              have hcz20_1 : wc.cell? ⟨gb121, 1, none⟩ = some (.int .i64 ((rd_T36 l0 x11_1).f1)) := (blk_cell BK121.out 1).trans rfl
              have hfz20_0 := blk_frozen BK121.out 0
              have hfz20_1 := blk_frozen BK121.out 1
              have p122 : 0 ≤ ((ji16) : Int) := of_decide_eq_true (by first | (with_reducible assumption) | assumption)
              have q122 : (ji16) < (l0.length : Int) := of_decide_eq_true (by first | (with_reducible assumption) | assumption)
              obtain ⟨ad122, e122, hx122_0, hx122_1⟩ := at_T36 HR0.out (ji16) p122 q122
              obtain rfl : ad120 = ad122 := (by injection e122)
              replace hx122_0 := (HB.out.cell (World.block_lt_of_cell? w _ hx122_0)).trans hx122_0
              replace hx122_1 := (HB.out.cell (World.block_lt_of_cell? w _ hx122_1)).trans hx122_1
              replace p122 := eq_true p122
              replace q122 := eq_true q122
              go_wp2
              repeat (go_quiet (fail); try go_wp2)
              go_ret2
              exact ⟨by first | rfl | (simp [errW_none, errW_some] <;> rfl) | (simp only [← hji16]; first | rfl | (simp [errW_none, errW_some] <;> rfl)) | (simp [*, errW_none, errW_some] <;> rfl), by repeat (first | (with_reducible first | exact HB.out | apply below_alloc | apply pw_below_drewN | apply below_drew1 | refine below_set ?_ GE121.out) | exact HB.out)⟩
             ·rw [if_neg c19] at H
              have c19b0 : decide (((rd_T36 l0 x11_1).f0) ≤ ((rd_T36 l0 (ji16)).f1)) = false := decide_eq_false c19
              clear c19
              have H' := Aside0.mk H
              clear H
              have hcz21_0 : wc.cell? ⟨gb121, 0, none⟩ = some (.int .i64 ((rd_T36 l0 x11_1).f0)) := (blk_cell BK121.out 0).trans rfl
              have hcz21_1 : wc.cell? ⟨gb121, 1, none⟩ = some (.int .i64 ((rd_T36 l0 x11_1).f1)) := (blk_cell BK121.out 1).trans rfl
              have hfz21_0 := blk_frozen BK121.out 0
              have hfz21_1 := blk_frozen BK121.out 1
              have p122 : 0 ≤ ((ji16) : Int) := of_decide_eq_true (by first | (with_reducible assumption) | assumption)
              have q122 : (ji16) < (l0.length : Int) := of_decide_eq_true (by first | (with_reducible assumption) | assumption)
              obtain ⟨ad122, e122, hx122_0, hx122_1⟩ := at_T36 HR0.out (ji16) p122 q122
              obtain rfl : ad120 = ad122 := (by injection e122)
              replace hx122_0 := (HB.out.cell (World.block_lt_of_cell? w _ hx122_0)).trans hx122_0
              replace hx122_1 := (HB.out.cell (World.block_lt_of_cell? w _ hx122_1)).trans hx122_1
              replace p122 := eq_true p122
              replace q122 := eq_true q122
              go_wp2
              repeat (go_quiet (fail); try go_wp2)
              go_roundg kj5
              case measure => have := HK1.out; have := HJ5.out; omega
              case rel => exact ⟨(wrap64 (x11_1 + 1)), (by first | rfl | (simp; done) | (simp [*]; done)), H', ⟨by have := HK1.out; have := HJ5.out; omega⟩, ⟨by repeat (first | (with_reducible first | exact HB.out | apply below_alloc | apply pw_below_drewN | apply below_drew1 | refine below_set ?_ GE121.out) | exact HB.out)⟩⟩
            ·rw [if_neg c18] at H
             exact absurd H (by simp)
           ·rw [if_neg c17] at H
            exact absurd H (by simp)
          ·rw [if_neg c15] at H
           have c15b0 : decide (0 < x11_1) = false := decide_eq_false c15
           clear c15
           have H' := Aside0.mk H
           clear H
           go_wp2
           repeat (go_quiet (fail); try go_wp2)
           go_roundg kj5
           case measure => have := HK1.out; have := HJ5.out; omega
           case rel => exact ⟨(wrap64 (x11_1 + 1)), (by first | rfl | (simp; done) | (simp [*]; done)), H', ⟨by have := HK1.out; have := HJ5.out; omega⟩, ⟨by repeat (first | (with_reducible first | exact HB.out | apply below_alloc | apply pw_below_drewN | apply below_drew1 | refine below_set ?_ GE121.out) | exact HB.out)⟩⟩
      ·rw [if_neg c5] at H
       exact absurd H (by simp)
     ·rw [if_neg c4] at H
      exact absurd H (by simp)
    ·rw [if_neg c3] at H
     have c3b0 : decide (x11_1 < (l0.length : Int)) = false := decide_eq_false c3
     clear c3
     simp only [Option.some.injEq, Prod.mk.injEq] at H
     obtain ⟨rfl, rfl⟩ := H
     go_wp2
     repeat (go_quiet (fail); try go_wp2)
     go_ret2
     exact ⟨by first | rfl | (simp [errW_none, errW_some] <;> rfl) | (simp [*, errW_none, errW_some] <;> rfl), by repeat (first | (with_reducible first | exact HB.out | apply below_alloc | apply pw_below_drewN | apply below_drew1) | exact HB.out)⟩
end Go.Proofs.Ytmidiifgdloojaa.Pr
end
section
namespace Go.Proofs.Ytmidiifgdloojaa.Pr
open Go.RowKit Go.Proofs.YtmidiifgdloojaaW.PrintWords Go.Proofs.YtmidiifgdloojaaW.PrintLast Go.Proofs.YtmidiifgdloojaaW.PrintMore
attribute [local go_sem] max2_int min2_int max_two min_two max_three min_three max_four min_four
set_option linter.unusedVariables false
set_option linter.unusedSimpArgs false
mutual
def redraftref02_Check.l0 : Nat → List (S36) → Int → Option (Int × Int)
 | 0, _, _ => none
 | k + 1, x0, x4 => if x4 < (x0.length : Int) then (if 0 ≤ x4 then (if ((rd_T36 x0 x4).f0) < 0 then (redraftref02_Check.j1 k x0 x4 true) else (if ((rd_T36 x0 x4).f1) > 1048576 then (redraftref02_Check.j1 k x0 x4 true) else (redraftref02_Check.j1 k x0 x4 (decide (((rd_T36 x0 x4).f0) ≥ ((rd_T36 x0 x4).f1)))))) else (none)) else (some (0, 0))
def redraftref02_Check.j1 : Nat → List (S36) → Int → Bool → Option (Int × Int)
 | 0, _, _, _ => none
 | k + 1, x0, x4, x40 => if x40 = true then (some (x4, 20)) else (if x4 > 0 then (if 0 ≤ x4 then (if x4 < (x0.length : Int) then (if 0 ≤ (wrap64 (x4 - 1)) then (if (wrap64 (x4 - 1)) < (x0.length : Int) then (if ((rd_T36 x0 x4).f0) ≤ ((rd_T36 x0 (wrap64 (x4 - 1))).f1) then (some (x4, 22)) else (redraftref02_Check.l0 k x0 (wrap64 (x4 + 1)))) else (none)) else (none)) else (none)) else (none)) else (redraftref02_Check.l0 k x0 (wrap64 (x4 + 1))))
end
def redraftref02_Check.f (k : Nat) (l0 : List (S36)) : Option (Int × Int) := if (l0.length : Int) > 32768 then (some (32768, 21)) else (redraftref02_Check.l0 k l0 0)
theorem redraftref02_Check.mono_l : ∀ k, (∀ y0 y1, LeO (redraftref02_Check.l0 k y0 y1) (redraftref02_Check.l0 (k + 1) y0 y1)) ∧ (∀ y0 y1 y2, LeO (redraftref02_Check.j1 k y0 y1 y2) (redraftref02_Check.j1 (k + 1) y0 y1 y2))
 | 0 => ⟨fun _ _ r h => by simp [redraftref02_Check.l0] at h, fun _ _ _ r h => by simp [redraftref02_Check.j1] at h⟩
 | k + 1 => by
  obtain ⟨ih0, ih1⟩ := redraftref02_Check.mono_l k
  refine ⟨?_, ?_⟩
  ·intro y0 y1
   unfold redraftref02_Check.l0
   repeat' first
   | (with_reducible exact ih0 _ _)
   | (with_reducible exact ih1 _ _ _)
   | (with_reducible exact LeO.refl _)
   | (with_reducible exact LeO.none _)
   | (with_reducible refine LeO.ite ?_ ?_)
   | (with_reducible refine LeO.bind ?_ (fun _ => ?_))
   | exact ih0 _ _
   | exact ih1 _ _ _
   | exact LeO.none _
   | refine LeO.ite ?_ ?_
   | refine LeO.bind ?_ (fun _ => ?_)
  ·intro y0 y1 y2
   unfold redraftref02_Check.j1
   repeat' first
   | (with_reducible exact ih0 _ _)
   | (with_reducible exact ih1 _ _ _)
   | (with_reducible exact LeO.refl _)
   | (with_reducible exact LeO.none _)
   | (with_reducible refine LeO.ite ?_ ?_)
   | (with_reducible refine LeO.bind ?_ (fun _ => ?_))
   | exact ih0 _ _
   | exact ih1 _ _ _
   | exact LeO.none _
   | refine LeO.ite ?_ ?_
   | refine LeO.bind ?_ (fun _ => ?_)
theorem redraftref02_Check.mono : ∀ a0 k, LeO (redraftref02_Check.f k a0) (redraftref02_Check.f (k + 1) a0) := by
 intro a0 k
 obtain ⟨ih0, ih1⟩ := redraftref02_Check.mono_l k
 unfold redraftref02_Check.f
 repeat' first
   | (with_reducible exact ih0 _ _)
   | (with_reducible exact ih1 _ _ _)
   | (with_reducible exact LeO.refl _)
   | (with_reducible exact LeO.none _)
   | (with_reducible refine LeO.ite ?_ ?_)
   | (with_reducible refine LeO.bind ?_ (fun _ => ?_))
   | exact ih0 _ _
   | exact ih1 _ _ _
   | exact LeO.none _
   | refine LeO.ite ?_ ?_
   | refine LeO.bind ?_ (fun _ => ?_)
set_option maxHeartbeats 8000000 in
set_option maxRecDepth 100000 in
theorem redraftref02_Check.calls (k : Nat) (A0 : Option Addr) (c0 : Nat) (l0 : List (S36)) (r1 : Int) (r2 : Int) (w : World) (hr0 : Kd.C k36 w A0 l0.length l0) (hc0 : l0.length ≤ c0) (h : redraftref02_Check.f k l0 = some (r1, r2)) :
  Calls Try.prog 54 #[.slice A0 l0.length c0] w fun e w' => e = .returned (.tuple #[.int .i64 r1, .int .i64 r2]) ∧ Drawn0 w w' := by
 have HR0 := Aside0.mk hr0
 have HC0 := Aside0.mk hc0
 clear hr0 hc0
 have H : (if (l0.length : Int) > 32768 then (some (32768, 21)) else (redraftref02_Check.l0 k l0 0)) = some (r1, r2) := h
 clear h
 by_cases c2 : (l0.length : Int) > 32768
 ·rw [if_pos c2] at H
  have c2b0 : decide (32768 < (l0.length : Int)) = true := decide_eq_true c2
  have c2b1 : decide (32768 < l0.length) = true := decide_eq_true (by omega)
  clear c2
  simp only [Option.some.injEq, Prod.mk.injEq] at H
  obtain ⟨rfl, rfl⟩ := H
  go_enter Try.func54, Try.ntmps54
  go_wp2
  repeat (go_quiet (fail); try go_wp2)
  go_ret2
  exact ⟨by first | rfl | (simp; done) | (simp [*]; done), by repeat (first | exact Drawn0.refl _ | apply Drawn0.step)⟩
 ·rw [if_neg c2] at H
  have c2b0 : decide (32768 < (l0.length : Int)) = false := decide_eq_false c2
  have c2b1 : decide (32768 < l0.length) = false := decide_eq_false (by omega)
  clear c2
  have H' := Aside0.mk H
  clear H
  go_enter Try.func54, Try.ntmps54
  go_wp2
  repeat (go_quiet (fail); try go_wp2)
  go_loopg [4] k (fun kq v4 w' => ∃ (x4_1 : Int), v4 = .int .i64 x4_1 ∧ Aside0 (redraftref02_Check.l0 kq l0 x4_1 = some (r1, r2)) ∧ Aside0 (kq ≤ k) ∧ Drawn0 w w')
  case atStart => exact ⟨(0), (by first | rfl | (simp; done) | (simp [*]; done)), H', ⟨Nat.le_refl _⟩, by repeat (first | exact Drawn0.refl _ | apply Drawn0.step)⟩
  case round =>
   clear H'
   try clear c2
   try clear c2b0
   try clear c2b1
   try clear p2
   obtain ⟨x4_1, rfl, HA, HK1, ⟨m1, rfl⟩⟩ := hrel
   cases gk with
   | zero => exact absurd HA.out (by simp [redraftref02_Check.l0])
   | succ k1 =>
    have H := HA.out
    clear HA
    simp only [redraftref02_Check.l0] at H
    by_cases c3 : x4_1 < (l0.length : Int)
    ·rw [if_pos c3] at H
     have c3b0 : decide (x4_1 < (l0.length : Int)) = true := decide_eq_true c3
     clear c3
     have HC4 := Aside0.mk H
     clear H
     go_upto_region 6 with (fail)
     repeat (go_quiet (fail); go_upto_region 6 with (fail))
     go_cut [40] (fun v40 wc => ∃ (kq : Nat) (x40_3 : Bool), v40 = .bool x40_3 ∧ Aside0 (redraftref02_Check.j1 kq l0 x4_1 x40_3 = some (r1, r2)) ∧ Aside0 (kq ≤ k1) ∧ Drawn0 w wc)
     case first =>
      have H := HC4.out
      clear HC4
      by_cases c5 : 0 ≤ x4_1
      ·rw [if_pos c5] at H
       have c5b0 : decide (0 ≤ x4_1) = true := decide_eq_true c5
       clear c5
       (first | rw [c5b0] | (simp only [i64_w, i32_w]; rw [c5b0]) | skip)
       by_cases c6 : ((rd_T36 l0 x4_1).f0) < 0
       ·rw [if_pos c6] at H
        have c6b0 : decide (((rd_T36 l0 x4_1).f0) < 0) = true := decide_eq_true c6
        clear c6
        have H' := Aside0.mk H
        clear H
        have p278 : 0 ≤ (x4_1 : Int) := of_decide_eq_true (by first | (with_reducible assumption) | assumption)
        have q278 : x4_1 < (l0.length : Int) := of_decide_eq_true (by first | (with_reducible assumption) | assumption)
        obtain ⟨ad278, e278, hx278_0, hx278_1⟩ := at_T36 HR0.out x4_1 p278 q278
        cases e278
        replace p278 := eq_true p278
        replace q278 := eq_true q278
        go_wp2
        repeat (go_quiet (fail); try go_wp2)
        go_meet
        case rel => exact ⟨_, (true), (by first | rfl | (simp; done) | (simp [*]; done)), H', ⟨by have := HK1.out; first | omega | exact Nat.le_refl _⟩, by repeat (first | exact Drawn0.refl _ | apply Drawn0.step)⟩
       ·rw [if_neg c6] at H
        have c6b0 : decide (((rd_T36 l0 x4_1).f0) < 0) = false := decide_eq_false c6
        clear c6
        by_cases c7 : ((rd_T36 l0 x4_1).f1) > 1048576
        ·rw [if_pos c7] at H
         have c7b0 : decide (1048576 < ((rd_T36 l0 x4_1).f1)) = true := decide_eq_true c7
         clear c7
         have H' := Aside0.mk H
         clear H
         have p278 : 0 ≤ (x4_1 : Int) := of_decide_eq_true (by first | (with_reducible assumption) | assumption)
         have q278 : x4_1 < (l0.length : Int) := of_decide_eq_true (by first | (with_reducible assumption) | assumption)
         obtain ⟨ad278, e278, hx278_0, hx278_1⟩ := at_T36 HR0.out x4_1 p278 q278
         cases e278
         replace p278 := eq_true p278
         replace q278 := eq_true q278
         have p279 : 0 ≤ (x4_1 : Int) := of_decide_eq_true (by first | (with_reducible assumption) | assumption)
         have q279 : x4_1 < (l0.length : Int) := of_decide_eq_true (by first | (with_reducible assumption) | assumption)
         obtain ⟨ad279, e279, hx279_0, hx279_1⟩ := at_T36 HR0.out x4_1 p279 q279
         obtain rfl : ad278 = ad279 := (by injection e279)
         replace p279 := eq_true p279
         replace q279 := eq_true q279
         go_wp2
         repeat (go_quiet (fail); try go_wp2)
         go_meet
         case rel => exact ⟨_, (true), (by first | rfl | (simp; done) | (simp [*]; done)), H', ⟨by have := HK1.out; first | omega | exact Nat.le_refl _⟩, by repeat (first | exact Drawn0.refl _ | apply Drawn0.step)⟩
        ·rw [if_neg c7] at H
         have c7b0 : decide (1048576 < ((rd_T36 l0 x4_1).f1)) = false := decide_eq_false c7
         clear c7
         have H' := Aside0.mk H
         clear H
         have p278 : 0 ≤ (x4_1 : Int) := of_decide_eq_true (by first | (with_reducible assumption) | assumption)
         have q278 : x4_1 < (l0.length : Int) := of_decide_eq_true (by first | (with_reducible assumption) | assumption)
         obtain ⟨ad278, e278, hx278_0, hx278_1⟩ := at_T36 HR0.out x4_1 p278 q278
         cases e278
         replace p278 := eq_true p278
         replace q278 := eq_true q278
         have p279 : 0 ≤ (x4_1 : Int) := of_decide_eq_true (by first | (with_reducible assumption) | assumption)
         have q279 : x4_1 < (l0.length : Int) := of_decide_eq_true (by first | (with_reducible assumption) | assumption)
         obtain ⟨ad279, e279, hx279_0, hx279_1⟩ := at_T36 HR0.out x4_1 p279 q279
         obtain rfl : ad278 = ad279 := (by injection e279)
         replace p279 := eq_true p279
         replace q279 := eq_true q279
         have p280 : 0 ≤ (x4_1 : Int) := of_decide_eq_true (by first | (with_reducible assumption) | assumption)
         have q280 : x4_1 < (l0.length : Int) := of_decide_eq_true (by first | (with_reducible assumption) | assumption)
         obtain ⟨ad280, e280, hx280_0, hx280_1⟩ := at_T36 HR0.out x4_1 p280 q280
         obtain rfl : ad278 = ad280 := (by injection e280)
         replace p280 := eq_true p280
         replace q280 := eq_true q280
         have p281 : 0 ≤ (x4_1 : Int) := of_decide_eq_true (by first | (with_reducible assumption) | assumption)
         have q281 : x4_1 < (l0.length : Int) := of_decide_eq_true (by first | (with_reducible assumption) | assumption)
         obtain ⟨ad281, e281, hx281_0, hx281_1⟩ := at_T36 HR0.out x4_1 p281 q281
         obtain rfl : ad278 = ad281 := (by injection e281)
         replace p281 := eq_true p281
         replace q281 := eq_true q281
         go_wp2
         repeat (go_quiet (fail); try go_wp2)
         go_meet
         case rel => exact ⟨_, (decide (((rd_T36 l0 x4_1).f0) ≥ ((rd_T36 l0 x4_1).f1))), (by first | rfl | (simp; done) | (simp [*]; done)), H', ⟨by have := HK1.out; first | omega | exact Nat.le_refl _⟩, by repeat (first | exact Drawn0.refl _ | apply Drawn0.step)⟩
      ·rw [if_neg c5] at H
       exact absurd H (by simp)
     case rest =>
      clear HC4
      try clear c2
      try clear c2b0
      try clear c2b1
      try clear p2
      try clear q2
      try clear hx2
      try clear c3
      try clear c3b0
      try clear c5
      try clear c5b0
      try clear c6
      try clear c6b0
      try clear c7
      try clear c7b0
      try clear hx278_0
      try clear hx278_1
      try clear hx279_0
      try clear hx279_1
      try clear hx280_0
      try clear hx280_1
      try clear hx281_0
      try clear hx281_1
      try clear p2
      try clear p278
      try clear p279
      try clear p280
      try clear p281
      try clear q278
      try clear q279
      try clear q280
      try clear q281
      obtain ⟨kq, x40_3, rfl, HA, HJ3, ⟨mc3, rfl⟩⟩ := hcut
      cases kq with
      | zero => exact absurd HA.out (by simp [redraftref02_Check.j1])
      | succ kj3 =>
       have H := HA.out
       clear HA
       simp only [redraftref02_Check.j1] at H
       by_cases c8 : x40_3 = true
       ·subst c8
        have H1 : (some (x4_1, 20)) = some (r1, r2) := by rw [if_pos rfl] at H; exact H
        clear H
        have H := H1
        clear H1
        simp only [Option.some.injEq, Prod.mk.injEq] at H
        obtain ⟨rfl, rfl⟩ := H
        go_wp2
        repeat (go_quiet (fail); try go_wp2)
        go_ret2
        exact ⟨by first | rfl | (simp; done) | (simp [*]; done), by repeat (first | exact Drawn0.refl _ | apply Drawn0.step)⟩
       ·replace c8 := Bool.eq_false_iff.mpr c8
        subst c8
        have H1 : (if x4_1 > 0 then (if 0 ≤ x4_1 then (if x4_1 < (l0.length : Int) then (if 0 ≤ (wrap64 (x4_1 - 1)) then (if (wrap64 (x4_1 - 1)) < (l0.length : Int) then (if ((rd_T36 l0 x4_1).f0) ≤ ((rd_T36 l0 (wrap64 (x4_1 - 1))).f1) then (some (x4_1, 22)) else (redraftref02_Check.l0 kj3 l0 (wrap64 (x4_1 + 1)))) else (none)) else (none)) else (none)) else (none)) else (redraftref02_Check.l0 kj3 l0 (wrap64 (x4_1 + 1)))) = some (r1, r2) := by rw [if_neg (show ¬ (false = true) by decide)] at H; exact H
        clear H
        have H := H1
        clear H1
        by_cases c9 : x4_1 > 0
        ·rw [if_pos c9] at H
         have c9b0 : decide (0 < x4_1) = true := decide_eq_true c9
         clear c9
         by_cases c10 : 0 ≤ x4_1
         ·rw [if_pos c10] at H
          have c10b0 : decide (0 ≤ x4_1) = true := decide_eq_true c10
          clear c10
          by_cases c11 : x4_1 < (l0.length : Int)
          ·rw [if_pos c11] at H
           have c11b0 : decide (x4_1 < (l0.length : Int)) = true := decide_eq_true c11
           clear c11
           obtain ⟨ji12, hji12⟩ : ∃ j_ : Int, (wrap64 (x4_1 - 1)) = j_ := ⟨_, rfl⟩
           replace H : (if 0 ≤ (ji12) then (if (ji12) < (l0.length : Int) then (if ((rd_T36 l0 x4_1).f0) ≤ ((rd_T36 l0 (ji12)).f1) then (some (x4_1, 22)) else (redraftref02_Check.l0 kj3 l0 (wrap64 (x4_1 + 1)))) else (none)) else (none)) = some (r1, r2) := by first | (rw [hji12] at H; exact H) | (simp only [hji12] at H ⊢; exact H)
           have hji12w : (IntKind.i64.wrap (x4_1 - 1)) = ji12 := (i64_w _).trans hji12
           by_cases c13 : 0 ≤ (ji12)
           ·rw [if_pos c13] at H
            have c13b0 : decide (0 ≤ (ji12)) = true := decide_eq_true c13
            clear c13
            by_cases c14 : (ji12) < (l0.length : Int)
            ·rw [if_pos c14] at H
             have c14b0 : decide ((ji12) < (l0.length : Int)) = true := decide_eq_true c14
             clear c14
             by_cases c15 : ((rd_T36 l0 x4_1).f0) ≤ ((rd_T36 l0 (ji12)).f1)
             ·rw [if_pos c15] at H
              have c15b0 : decide (((rd_T36 l0 x4_1).f0) ≤ ((rd_T36 l0 (ji12)).f1)) = true := decide_eq_true c15
              clear c15
              simp only [Option.some.injEq, Prod.mk.injEq] at H
              obtain ⟨rfl, rfl⟩ := H
              have p282 : 0 ≤ (x4_1 : Int) := of_decide_eq_true (by first | (with_reducible assumption) | assumption)
              have q282 : x4_1 < (l0.length : Int) := of_decide_eq_true (by first | (with_reducible assumption) | assumption)
              obtain ⟨ad282, e282, hx282_0, hx282_1⟩ := at_T36 HR0.out x4_1 p282 q282
              cases e282
              replace p282 := eq_true p282
              replace q282 := eq_true q282
              have p283 : 0 ≤ ((ji12) : Int) := of_decide_eq_true (by first | (with_reducible assumption) | assumption)
              have q283 : (ji12) < (l0.length : Int) := of_decide_eq_true (by first | (with_reducible assumption) | assumption)
              obtain ⟨ad283, e283, hx283_0, hx283_1⟩ := at_T36 HR0.out (ji12) p283 q283
              obtain rfl : ad282 = ad283 := (by injection e283)
              replace p283 := eq_true p283
              replace q283 := eq_true q283
              go_wp2
              repeat (go_quiet (fail); try go_wp2)
              go_ret2
              exact ⟨by first | rfl | (simp; done) | (simp only [← hji12] <;> (first | rfl | simp)) | (simp [*]; done), by repeat (first | exact Drawn0.refl _ | apply Drawn0.step)⟩
             ·rw [if_neg c15] at H
              have c15b0 : decide (((rd_T36 l0 x4_1).f0) ≤ ((rd_T36 l0 (ji12)).f1)) = false := decide_eq_false c15
              clear c15
              have H' := Aside0.mk H
              clear H
              have p282 : 0 ≤ (x4_1 : Int) := of_decide_eq_true (by first | (with_reducible assumption) | assumption)
              have q282 : x4_1 < (l0.length : Int) := of_decide_eq_true (by first | (with_reducible assumption) | assumption)
              obtain ⟨ad282, e282, hx282_0, hx282_1⟩ := at_T36 HR0.out x4_1 p282 q282
              cases e282
              replace p282 := eq_true p282
              replace q282 := eq_true q282
              have p283 : 0 ≤ ((ji12) : Int) := of_decide_eq_true (by first | (with_reducible assumption) | assumption)
              have q283 : (ji12) < (l0.length : Int) := of_decide_eq_true (by first | (with_reducible assumption) | assumption)
              obtain ⟨ad283, e283, hx283_0, hx283_1⟩ := at_T36 HR0.out (ji12) p283 q283
              obtain rfl : ad282 = ad283 := (by injection e283)
              replace p283 := eq_true p283
              replace q283 := eq_true q283
              go_wp2
              repeat (go_quiet (fail); try go_wp2)
              go_roundg kj3
              case measure => have := HK1.out; have := HJ3.out; omega
              case rel => exact ⟨(wrap64 (x4_1 + 1)), (by first | rfl | (simp; done) | (simp [*]; done)), H', ⟨by have := HK1.out; have := HJ3.out; omega⟩, by repeat (first | exact Drawn0.refl _ | apply Drawn0.step)⟩
            ·rw [if_neg c14] at H
             exact absurd H (by simp)
           ·rw [if_neg c13] at H
            exact absurd H (by simp)
          ·rw [if_neg c11] at H
           exact absurd H (by simp)
         ·rw [if_neg c10] at H
          exact absurd H (by simp)
        ·rw [if_neg c9] at H
         have c9b0 : decide (0 < x4_1) = false := decide_eq_false c9
         clear c9
         have H' := Aside0.mk H
         clear H
         go_wp2
         repeat (go_quiet (fail); try go_wp2)
         go_roundg kj3
         case measure => have := HK1.out; have := HJ3.out; omega
         case rel => exact ⟨(wrap64 (x4_1 + 1)), (by first | rfl | (simp; done) | (simp [*]; done)), H', ⟨by have := HK1.out; have := HJ3.out; omega⟩, by repeat (first | exact Drawn0.refl _ | apply Drawn0.step)⟩
    ·rw [if_neg c3] at H
     have c3b0 : decide (x4_1 < (l0.length : Int)) = false := decide_eq_false c3
     clear c3
     simp only [Option.some.injEq, Prod.mk.injEq] at H
     obtain ⟨rfl, rfl⟩ := H
     go_wp2
     repeat (go_quiet (fail); try go_wp2)
     go_ret2
     exact ⟨by first | rfl | (simp; done) | (simp [*]; done), by repeat (first | exact Drawn0.refl _ | apply Drawn0.step)⟩
end Go.Proofs.Ytmidiifgdloojaa.Pr
end
section
namespace Go.Proofs.Ytmidiifgdloojaa.Pr
open Go.RowKit Go.Proofs.YtmidiifgdloojaaW.PrintWords Go.Proofs.YtmidiifgdloojaaW.PrintLast Go.Proofs.YtmidiifgdloojaaW.PrintMore
attribute [local go_sem] max2_int min2_int max_two min_two max_three min_three max_four min_four
set_option linter.unusedVariables false
set_option linter.unusedSimpArgs false
theorem eqA36 (d : Nat) (w : World) (x0 y0 : Int) (x1 y1 : Int) :
  (Op.equalIn (d + 2) 36 (.agg #[.int .i64 x0, .int .i64 x1]) (.agg #[.int .i64 y0, .int .i64 y1])).run Try.prog w = .ok (x0 == y0 && (x1 == y1)) w := by
 refine eqA_of Try.underlying36 (by kernel_rfl) ?_
 refine eqf_cons (by rfl) (by go_simp; rfl) (by go_simp; rfl) (by go_simp) ?_
 exact eqf_last (by rfl) (by go_simp; rfl) (by go_simp; rfl) (by go_simp)
end Go.Proofs.Ytmidiifgdloojaa.Pr
end
section
namespace Go.Proofs.Ytmidiifgdloojaa.SpanFns
open Go.RowKit Go.Proofs.YtmidiifgdloojaaW.PrintWords Go.Proofs.YtmidiifgdloojaaW.PrintMore Go.Proofs.Ytmidiifgdloojaa.Pr Go.Proofs.Ytmidiifgdloojaa.SpanMath
theorem w64 {n : Int} (h0 : -9223372036854775808 ≤ n) (h1 : n ≤ 9223372036854775807) : wrap64 n = n := IntWalk.wrap64_in n ⟨h0, h1⟩
theorem rd_at (pre : List S36) (r : S36) (suf : List S36) : rd_T36 (pre ++ r :: suf) (pre.length : Int) = r := by simp [rd_T36]
theorem rd_last (i : List S36) (r : S36) (suf : List S36) : rd_T36 (i ++ [r] ++ suf) ((i ++ [r]).length - 1 : Int) = r := by
  have : (((i ++ [r]).length : Int) - 1).toNat = i.length := by simp only [List.length_append, List.length_singleton]; omega
  unfold rd_T36
  rw [this, List.append_assoc]
  simp
instance decS : DecidableEq S36 := fun r s => decidable_of_iff (r.f0 = s.f0 ∧ r.f1 = s.f1) ⟨fun h => s_ext h.1 h.2, fun h => by rw [h]; exact ⟨rfl, rfl⟩⟩
abbrev Short (l : List S36) : Prop := l.length < 8796093022208
theorem copied_f {l : List S36} (h : Short l) : redraftlaw02_copied.f l = some l := by
  unfold redraftlaw02_copied.f
  rw [if_pos (by simpa using h)]
  rfl
def chk (i : Int) (prev : Option S36) : List S36 → Int × Int
  | [] => (0, 0)
  | r :: l => if r.f0 < 0 ∨ r.f1 > 1048576 ∨ r.f0 ≥ r.f1 then (i, 20) else if prev.any (fun p => decide (r.f0 ≤ p.f1)) = true then (i, 22) else chk (i + 1) (some r) l
def checkS (l : List S36) : Int × Int := if l.length > 32768 then (32768, 21) else chk 0 none l
theorem getLast_snoc (pre : List S36) (r : S36) : (pre ++ [r]).getLast? = some r := by simp
theorem Check_l0 : ∀ (suf pre : List S36) (k : Nat), Short (pre ++ suf) → 2 * suf.length + 1 ≤ k →
    span_Check.l0 k (pre ++ suf) (pre ++ suf) ((pre ++ suf).length : Int) (pre.length : Int) = some (chk pre.length pre.getLast? suf)
  | [], pre, k, hs, hk => by
    obtain ⟨k, rfl⟩ : ∃ m, k = m + 1 := ⟨k - 1, by omega⟩
    simp only [span_Check.l0]
    rw [if_neg (by simp)]
    rfl
  | r :: suf, pre, k, hs, hk => by
    simp only [List.length_cons] at hk
    obtain ⟨k, rfl⟩ : ∃ m, k = m + 2 := ⟨k - 2, by omega⟩
    have hl : (pre ++ r :: suf).length = pre.length + 1 + suf.length := by simp; omega
    have hs' : (pre ++ r :: suf).length < 8796093022208 := hs
    simp only [span_Check.l0]
    rw [if_pos (by omega), if_pos (by omega), if_pos (by omega), rd_at]
    have ih := Check_l0 suf (pre ++ [r]) k (by rw [List.append_assoc]; exact hs) (by omega)
    rw [List.append_assoc, List.singleton_append] at ih
    have e1 : wrap64 ((pre.length : Int) + 1) = ((pre ++ [r]).length : Int) := by rw [w64 (by omega) (by omega)]; simp
    have key : ∀ b : Bool, (b = decide (r.f0 < 0 ∨ r.f1 > 1048576 ∨ r.f0 ≥ r.f1)) → span_Check.j1 (k + 1) (pre ++ r :: suf) (pre.length : Int) (pre ++ r :: suf) ((pre ++ r :: suf).length : Int) (pre.length : Int) b r.f0 r.f1 = some (chk pre.length pre.getLast? (r :: suf)) := by
      rintro b rfl
      simp only [span_Check.j1]
      rw [chk]
      by_cases c : r.f0 < 0 ∨ r.f1 > 1048576 ∨ r.f0 ≥ r.f1
      · rw [if_pos (by simpa using c), if_pos c]
      · rw [if_neg (by simpa using c), if_neg c]
        rcases concat_cases pre with rfl | ⟨i, p, rfl⟩
        · rw [if_neg (by simp), if_neg (by simp), e1, ih]
          simp
        · have e2 : wrap64 (((i ++ [p]).length : Int) - 1) = ((i ++ [p]).length : Int) - 1 := w64 (by omega) (by omega)
          have h1 : (i ++ [p]).length = i.length + 1 := by simp
          rw [if_pos (by omega), e2, if_pos (by omega), if_pos (by omega), rd_last i p (r :: suf), getLast_snoc]
          by_cases c2 : r.f0 ≤ p.f1
          · rw [if_pos c2, if_pos (by simpa using c2)]
          · rw [if_neg c2, if_neg (by simpa using c2), e1, ih, getLast_snoc, show ((i ++ [p] ++ [r]).length : Int) = ((i ++ [p]).length : Int) + 1 from by simp; omega]
    by_cases c1 : r.f0 < 0
    · rw [if_pos c1]
      exact key true (by simp [c1])
    · rw [if_neg c1]
      by_cases c2 : r.f1 > 1048576
      · rw [if_pos c2]
        exact key true (by simp [c2])
      · rw [if_neg c2]
        exact key _ (by simp [c1, c2])
theorem Check_f {l : List S36} (h : Short l) {k : Nat} (hk : 2 * l.length + 1 ≤ k) : span_Check.f k l = some (checkS l) := by
  unfold span_Check.f checkS
  by_cases c : l.length > 32768
  · rw [if_pos (by omega), if_pos c]
  · rw [if_neg (by omega), if_neg c]
    exact Check_l0 l [] k h hk
theorem refCheck_l0 : ∀ (suf pre : List S36) (k : Nat), Short (pre ++ suf) → 2 * suf.length + 1 ≤ k →
    redraftref02_Check.l0 k (pre ++ suf) (pre.length : Int) = some (chk pre.length pre.getLast? suf)
  | [], pre, k, hs, hk => by
    obtain ⟨k, rfl⟩ : ∃ m, k = m + 1 := ⟨k - 1, by omega⟩
    simp only [redraftref02_Check.l0]
    rw [if_neg (by simp)]
    rfl
  | r :: suf, pre, k, hs, hk => by
    simp only [List.length_cons] at hk
    obtain ⟨k, rfl⟩ : ∃ m, k = m + 2 := ⟨k - 2, by omega⟩
    have hl : (pre ++ r :: suf).length = pre.length + 1 + suf.length := by simp; omega
    have hs' : (pre ++ r :: suf).length < 8796093022208 := hs
    simp only [redraftref02_Check.l0]
    rw [if_pos (by omega), if_pos (by omega), rd_at]
    have ih := refCheck_l0 suf (pre ++ [r]) k (by rw [List.append_assoc]; exact hs) (by omega)
    rw [List.append_assoc, List.singleton_append] at ih
    have e1 : wrap64 ((pre.length : Int) + 1) = ((pre ++ [r]).length : Int) := by rw [w64 (by omega) (by omega)]; simp
    have key : ∀ b : Bool, (b = decide (r.f0 < 0 ∨ r.f1 > 1048576 ∨ r.f0 ≥ r.f1)) → redraftref02_Check.j1 (k + 1) (pre ++ r :: suf) (pre.length : Int) b = some (chk pre.length pre.getLast? (r :: suf)) := by
      rintro b rfl
      simp only [redraftref02_Check.j1]
      rw [chk]
      by_cases c : r.f0 < 0 ∨ r.f1 > 1048576 ∨ r.f0 ≥ r.f1
      · rw [if_pos (by simpa using c), if_pos c]
      · rw [if_neg (by simpa using c), if_neg c]
        rcases concat_cases pre with rfl | ⟨i, p, rfl⟩
        · rw [if_neg (by simp), if_neg (by simp), e1, ih]
          simp
        · have e2 : wrap64 (((i ++ [p]).length : Int) - 1) = ((i ++ [p]).length : Int) - 1 := w64 (by omega) (by omega)
          have h1 : (i ++ [p]).length = i.length + 1 := by simp
          rw [if_pos (by omega), if_pos (by omega), if_pos (by omega), e2, if_pos (by omega), if_pos (by omega), rd_at, rd_last i p (r :: suf), getLast_snoc]
          by_cases c2 : r.f0 ≤ p.f1
          · rw [if_pos c2, if_pos (by simpa using c2)]
          · rw [if_neg c2, if_neg (by simpa using c2), e1, ih, getLast_snoc, show ((i ++ [p] ++ [r]).length : Int) = ((i ++ [p]).length : Int) + 1 from by simp; omega]
    by_cases c1 : r.f0 < 0
    · rw [if_pos c1]
      exact key true (by simp [c1])
    · rw [if_neg c1]
      by_cases c2 : r.f1 > 1048576
      · rw [if_pos c2]
        exact key true (by simp [c2])
      · rw [if_neg c2]
        exact key _ (by simp [c1, c2])
theorem refCheck_f {l : List S36} (h : Short l) {k : Nat} (hk : 2 * l.length + 1 ≤ k) : redraftref02_Check.f k l = some (checkS l) := by
  unfold redraftref02_Check.f checkS
  by_cases c : l.length > 32768
  · rw [if_pos (by omega), if_pos c]
  · rw [if_neg (by omega), if_neg c]
    exact refCheck_l0 l [] k h hk
theorem refCheck_ev {l : List S36} (h : Short l) : Ev (fun k => redraftref02_Check.f k l) (checkS l) := ⟨_, fun _ hk => refCheck_f h hk⟩
def Good (l : List S36) : Prop := l.length ≤ 32768 ∧ Nrm l ∧ ∀ r ∈ l, 0 ≤ r.f0 ∧ r.f1 ≤ 1048576
theorem chk_ok : ∀ (l : List S36) (i : Int) (prev : Option S36), (chk i prev l).2 = 0 → chk i prev l = (0, 0) ∧ Nrm l ∧ (∀ r ∈ l, 0 ≤ r.f0 ∧ r.f1 ≤ 1048576) ∧ (∀ p, prev = some p → ∀ r ∈ l, p.f1 < r.f0)
  | [], i, prev, _ => ⟨rfl, nrm_nil, by simp, by simp⟩
  | r :: l, i, prev, h => by
    rw [chk] at h ⊢
    by_cases c : r.f0 < 0 ∨ r.f1 > 1048576 ∨ r.f0 ≥ r.f1
    · rw [if_pos c] at h; exact absurd h (by simp)
    · rw [if_neg c] at h ⊢
      by_cases c2 : prev.any (fun p => decide (r.f0 ≤ p.f1)) = true
      · rw [if_pos c2] at h; exact absurd h (by simp)
      · rw [if_neg c2] at h ⊢
        obtain ⟨h1, h2, h3, h4⟩ := chk_ok l (i + 1) (some r) h
        refine ⟨h1, nrm_cons.2 ⟨by omega, fun s hs => h4 r rfl s hs, h2⟩, fun s hs => ?_, fun p hp s hs => ?_⟩
        · rcases List.mem_cons.1 hs with rfl | hs
          · omega
          · exact h3 s hs
        · subst hp
          have hp' : ¬ r.f0 ≤ p.f1 := by simpa using c2
          rcases List.mem_cons.1 hs with rfl | hs
          · omega
          · have := h4 r rfl s hs
            omega
theorem chk_of : ∀ (l : List S36) (i : Int) (prev : Option S36), Nrm l → (∀ r ∈ l, 0 ≤ r.f0 ∧ r.f1 ≤ 1048576) → (∀ p, prev = some p → ∀ r ∈ l.head?, p.f1 < r.f0) → chk i prev l = (0, 0)
  | [], i, prev, _, _, _ => rfl
  | r :: l, i, prev, hn, hb, hp => by
    obtain ⟨h1, h2, h3⟩ := nrm_cons.1 hn
    have hr := hb r List.mem_cons_self
    rw [chk, if_neg (by omega), if_neg, chk_of l (i + 1) (some r) h3 (fun s hs => hb s (List.mem_cons_of_mem _ hs))]
    · intro p hp s hs
      injection hp with hp
      subst hp
      refine h2 s ?_
      cases l with
      | nil => simp at hs
      | cons y l => simp at hs; subst hs; exact List.mem_cons_self
    · cases prev with
      | none => simp
      | some p => have := hp p rfl r rfl; simpa using this
theorem checkS_good {l : List S36} : (checkS l).2 = 0 ↔ Good l := by
  unfold checkS Good
  by_cases c : l.length > 32768
  · rw [if_pos c]
    constructor
    · intro h; exact absurd h (by simp)
    · rintro ⟨h, _⟩; omega
  · rw [if_neg c]
    constructor
    · intro h
      obtain ⟨_, h2, h3, _⟩ := chk_ok l 0 none h
      exact ⟨by omega, h2, h3⟩
    · rintro ⟨_, h2, h3⟩
      rw [chk_of l 0 none h2 h3 (by simp)]
end Go.Proofs.Ytmidiifgdloojaa.SpanFns
end
section
namespace Go.Proofs.YtmidiifgdloojaaR
open Go.RowKit Go.Proofs.YtmidiifgdloojaaW.PrintWords
theorem list_of {α : Type} {p : Nat → α → Prop} : ∀ (n : Nat), (∀ i, i < n → ∃ y, p i y) → ∃ ys : List α, ys.length = n ∧ ∀ i y, ys[i]? = some y → p i y
  | 0, _ => ⟨[], rfl, fun i y h => by simp at h⟩
  | n + 1, h => by
    obtain ⟨ys, hl, hp⟩ := list_of n (fun i hi => h i (by omega))
    obtain ⟨y, hy⟩ := h n (by omega)
    refine ⟨ys ++ [y], by simp [hl], fun i z hz => ?_⟩
    by_cases hi : i < n
    · rw [List.getElem?_append_left (by omega)] at hz
      exact hp i z hz
    · have : i = n := by
        have := (List.getElem?_eq_some_iff.1 hz).1
        simp [hl] at this
        omega
      subst this
      rw [List.getElem?_append_right (by omega)] at hz
      simp [hl] at hz
      subst hz
      exact hy
theorem weightsAll_mem {H : Type} {P : Program} {e : TypeId} : ∀ {ds : List (DataW H)} {d : DataW H}, d ∈ ds → ∀ n ∈ d.weights P e, n ∈ DataW.weightsAll P e ds
  | d0 :: ds, d, hd, n, hn => by
    simp only [DataW.weightsAll, List.mem_append]
    rcases List.mem_cons.1 hd with rfl | hd
    · exact Or.inl hn
    · exact Or.inr (weightsAll_mem hd n hn)
  | [], d, hd, _, _ => by simp at hd
def Reads {α : Type} (P : Program) (t : TypeId) (d : Kd α) (Q : α → Prop) : Prop :=
  ∀ (H : Type) (enc : TypeId × Value → H) (w : World) (base : Nat) (spare : Nat → Bool) (held : Bool) (fuel : Nat) (cs : List Value) (x : DataW H × List MemPlace),
    DataW.trod enc P w base spare held fuel t cs = some x → (∀ n ∈ x.1.weights P t, n ≤ reachBytes) → ∃ y, d.K w y cs ∧ Q y
theorem reads_int {P : Program} {t : TypeId} {k : IntKind} (ht : P.underlying t = some (.int k)) : Reads P t (Kd.int k) (fun n => (Lit.int k n).wf = true) := by
  intro H enc w base spare held fuel cs x h _
  obtain ⟨n, rfl, _, hw⟩ := DataW.trod_int ht h
  exact ⟨n, rfl, hw⟩
theorem reads_slice {α : Type} {P : Program} {t e : TypeId} {d : Kd α} {Q : α → Prop} (ht : P.underlying t = some (.slice e)) (hc : P.cellsOf e = d.sz) {B : Nat} (hB : P.bytesOf e = B) (he : Reads P e d Q) :
    Reads P t (Kd.slice e d) (fun xs => xs.length * B ≤ 140737488351232 ∧ ∀ x ∈ xs, Q x) := by
  intro H enc w base spare held fuel cs x h hb
  rcases Deep.open_slice ht h with ⟨rfl, rfl⟩ | ⟨a, len, cap, m, n, D, Pl, rfl, _, hl, hm, hmm, rfl, hx⟩
  · exact ⟨[], ⟨none, 0, rfl, Nat.le_refl _, ⟨rfl, by simp, fun h0 => absurd h0 (by simp)⟩⟩, by simp, by simp⟩
  · have hlm : len ≤ m := by rw [hmm]; split <;> omega
    have hex : ∀ i, i < len → ∃ y, (∃ cs', w.cells? base (a.add (i * P.cellsOf e)) (P.cellsOf e) = some cs' ∧ d.K w y cs') ∧ Q y := by
      intro i hi
      obtain ⟨cs', h1, h2⟩ := hx i (by omega)
      obtain ⟨y, hy, hq⟩ := he H enc w base spare held n cs' _ h2 (fun k hk => hb k (by
        simp only [DataW.weights, ht, List.mem_cons, List.mem_append]
        refine Or.inr (Or.inl (weightsAll_mem (d := D i) ?_ k hk))
        exact List.mem_map.2 ⟨i, List.mem_range.2 hi, rfl⟩))
      exact ⟨y, ⟨cs', h1, hy⟩, hq⟩
    obtain ⟨ys, hlen, hp⟩ := list_of len hex
    subst hlen
    have hcap : ys.length ≤ 9223372036854775807 := by unfold maxLen at hm; omega
    refine ⟨ys, ⟨some a, cap, rfl, hl, rfl, hcap, fun _ => ⟨a, rfl, fun j p hj => ?_⟩⟩, ?_, fun x hx' => ?_⟩
    · obtain ⟨⟨cs', h1, hK⟩, _⟩ := hp j p hj
      obtain ⟨_, hl2, hcell⟩ := World.cells?_some h1
      rw [hc] at hl2
      refine ⟨cs', hl2, hK, fun i u hu => ?_⟩
      have hi : i < P.cellsOf e := by rw [hc, ← hl2]; exact (List.getElem?_eq_some_iff.1 hu).1
      rw [← add_add, ← hc]
      exact (hcell i hi).trans hu
    · have := hb _ (by simp only [DataW.weights, ht]; exact List.mem_cons_self)
      simp only [List.length_map, List.length_range] at this
      rw [hB] at this
      have e1 : reachBytes = 140737488351232 := rfl
      rw [e1] at this
      refine Nat.le_trans (Nat.mul_le_mul_right _ ?_) this
      omega
    · obtain ⟨i, hi⟩ := List.getElem?_of_mem hx'
      exact (hp i x hi).2
def ReadsL {α : Type} (P : Program) (o : Nat) (fs : List Field) (d : Kd α) (Q : α → Prop) : Prop :=
  ∀ (H : Type) (enc : TypeId × Value → H) (w : World) (base : Nat) (spare : Nat → Bool) (held : Bool) (fuel : Nat) (cs : List Value) (xs : List (DataW H × List MemPlace)),
    xs.length = fs.length → (∀ (i : Nat) (f : Field), fs[i]? = some f → DataW.trod enc P w base spare held fuel f.type ((cs.drop f.offset).take (P.cellsOf f.type)) = xs[i]?) →
    (∀ n ∈ DataW.weightsEach P (fs.map (·.type)) (xs.map (·.1)), n ≤ reachBytes) → o + d.sz ≤ cs.length → ∃ y, d.K w y ((cs.drop o).take d.sz) ∧ Q y
theorem readsL_one {α : Type} {P : Program} {o : Nat} {f : Field} {d : Kd α} {Q : α → Prop} (h : Reads P f.type d Q) (ho : f.offset = o) (hc : P.cellsOf f.type = d.sz) : ReadsL P o [f] d Q := by
  intro H enc w base spare held fuel cs xs hl hx hb _
  match xs, hl with
  | [x], _ =>
    have h0 := hx 0 f rfl
    rw [ho, hc] at h0
    exact h H enc w base spare held fuel _ x h0 (fun n hn => hb n (by simpa [DataW.weightsEach] using hn))
theorem readsL_cons {α β : Type} {P : Program} {o : Nat} {f : Field} {fs : List Field} {a : Kd α} {b : Kd β} {Qa : α → Prop} {Qb : β → Prop} (h : Reads P f.type a Qa) (ho : f.offset = o) (hc : P.cellsOf f.type = a.sz) (ht : ReadsL P (o + a.sz) fs b Qb) :
    ReadsL P o (f :: fs) (Kd.pair a b) (fun y => Qa y.1 ∧ Qb y.2) := by
  intro H enc w base spare held fuel cs xs hl hx hb hlen
  match xs, hl with
  | x :: xs, hl =>
    have h0 := hx 0 f rfl
    rw [ho, hc] at h0
    obtain ⟨y, hy, hq⟩ := h H enc w base spare held fuel _ x h0 (fun n hn => hb n (by simp only [List.map_cons, DataW.weightsEach, List.mem_append]; exact Or.inl hn))
    have hsz : (Kd.pair a b).sz = a.sz + b.sz := rfl
    obtain ⟨z, hz, hr⟩ := ht H enc w base spare held fuel cs xs (by simpa using hl) (fun i g hg => hx (i + 1) g hg) (fun n hn => hb n (by simp only [List.map_cons, DataW.weightsEach, List.mem_append]; exact Or.inr hn)) (by rw [hsz] at hlen; omega)
    refine ⟨(y, z), ⟨_, _, ?_, hy, hz⟩, hq, hr⟩
    rw [hsz, List.take_add, List.drop_drop]
theorem reads_struct {α β : Type} {P : Program} {t : TypeId} {fs : Array Field} {d : Kd α} {Q : α → Prop} {f : β → α} (g : α → β) (hg : ∀ y, f (g y) = y) (ht : P.underlying t = some (.struct fs)) (hc : P.cellsOf t = d.sz) (h : ReadsL P 0 fs.toList d Q) :
    Reads P t (Kd.iso d f) (fun x => Q (f x)) := by
  intro H enc w base spare held fuel cs x hx hb
  obtain ⟨xs, n, rfl, rfl, hl, hlen, hall⟩ := DataW.trod_struct ht hx
  obtain ⟨y, hy, hq⟩ := h H enc w base spare held n cs xs (by simpa using hlen) (fun i f hf => hall i f (by simpa using hf)) (fun k hk => hb k (by simp only [DataW.weights, ht]; exact hk)) (by omega)
  rw [List.drop_zero, List.take_of_length_le (by omega)] at hy
  refine ⟨g y, ?_, ?_⟩
  · show d.K w (f (g y)) cs
    rw [hg]; exact hy
  · show Q (f (g y))
    rw [hg]; exact hq
theorem slice_arg {α : Type} {H : Type} {enc : TypeId × Value → H} {P : Program} {W : World} {base : Nat} {spare : Nat → Bool} {held : Bool} {t e : TypeId} {d : Kd α} {Q : List α → Prop} {a : Option Addr} {len cap : Nat} {D : DataW H} {ps : List MemPlace}
    (h : DataW.Trod enc P W base spare held t (.slice a len cap) D ps) {ts : List TypeId} {ds : List (DataW H)} {j : Nat}
    (hsz : (DataW.weightsEach P ts ds).all (· ≤ reachBytes) = true) (ht : ts[j]? = some t) (hd : ds[j]? = some D) (hR : Reads P t (Kd.slice e d) Q) :
    ∃ xs : List α, len = xs.length ∧ xs.length ≤ cap ∧ d.C W a xs.length xs ∧ Q xs := by
  obtain ⟨fuel, hf⟩ := h
  obtain ⟨xs, ⟨A, c, hc, hl, hC⟩, hq⟩ := hR H enc W base spare held fuel _ _ hf (fun n hn => by
    have := List.all_eq_true.1 hsz n (DataW.weights_mem_each ht hd n hn)
    simpa using this)
  simp [Value.cells] at hc
  obtain ⟨rfl, rfl, rfl⟩ := hc
  exact ⟨xs, rfl, hl, hC, hq⟩
end Go.Proofs.YtmidiifgdloojaaR
end
section
namespace Go.Proofs.Ytmidiifgdloojaa.SpanReads
open Go.RowKit Go.Proofs.YtmidiifgdloojaaR Go.Proofs.YtmidiifgdloojaaW.PrintWords Go.Proofs.Ytmidiifgdloojaa.Pr
def WfR (r : S36) : Prop := (Lit.int .i64 r.f0).wf = true ∧ (Lit.int .i64 r.f1).wf = true
def WfL (l : List S36) : Prop := l.length * 16 ≤ 140737488351232 ∧ ∀ r ∈ l, WfR r
theorem reads36 : Reads Try.prog 36 k36 WfR :=
  reads_struct (fun y => ⟨y.1, y.2⟩) (fun _ => rfl) Try.underlying36 (by kernel_rfl)
    (readsL_cons (reads_int (by kernel_rfl)) rfl (by kernel_rfl) (readsL_one (reads_int (by kernel_rfl)) rfl (by kernel_rfl)))
theorem reads22 : Reads Try.prog 22 (Kd.slice 36 k36) WfL := reads_slice (by kernel_rfl) (by kernel_rfl) (by kernel_rfl) reads36
theorem reads3 : Reads Try.prog 3 (Kd.int .i64) (fun n => (Lit.int .i64 n).wf = true) := reads_int (by kernel_rfl)
def WfOp (o : S76) : Prop := (Lit.int .i64 o.f0).wf = true ∧ WfL o.f1 ∧ WfL o.f2 ∧ (Lit.int .i64 o.f3).wf = true ∧ (Lit.int .i64 o.f4).wf = true
theorem reads76 : Reads Try.prog 76 k76 WfOp :=
  reads_struct (fun y => ⟨y.1, y.2.1, y.2.2.1, y.2.2.2.1, y.2.2.2.2⟩) (fun _ => rfl) Try.underlying76 (by kernel_rfl)
    (readsL_cons reads3 rfl (by kernel_rfl) (readsL_cons reads22 rfl (by kernel_rfl) (readsL_cons reads22 rfl (by kernel_rfl) (readsL_cons reads3 rfl (by kernel_rfl) (readsL_one reads3 rfl (by kernel_rfl))))))
theorem reads56 : Reads Try.prog 56 (Kd.slice 76 k76) (fun ops => ops.length * 72 ≤ 140737488351232 ∧ ∀ o ∈ ops, WfOp o) := reads_slice (by kernel_rfl) (by kernel_rfl) (by kernel_rfl) reads76
end Go.Proofs.Ytmidiifgdloojaa.SpanReads
end
section
namespace Go.Proofs.Ytmidiifgdloojaa.Pr
open Go.RowKit Go.Proofs.YtmidiifgdloojaaW.PrintWords Go.Proofs.YtmidiifgdloojaaW.PrintLast Go.Proofs.YtmidiifgdloojaaW.PrintMore
attribute [local go_sem] max2_int min2_int max_two min_two max_three min_three max_four min_four
set_option linter.unusedVariables false
set_option linter.unusedSimpArgs false
def redraftlaw02_number.f (a0 : Int) (a1 : Int) (a2 : Int) (a3 : Int) : Option (Bool) := (redraftlaw02_num.f a1).bind fun t811 => (if t811 = a3 then (some (a0 == a2)) else (some false))
set_option maxHeartbeats 8000000 in
set_option maxRecDepth 100000 in
theorem redraftlaw02_number.calls (a0 : Int) (a1 : Int) (a2 : Int) (a3 : Int) (r : Bool) (w : World) (h : redraftlaw02_number.f a0 a1 a2 a3 = some r) :
  Calls Try.prog 60 #[.int .i64 a0, .int .i64 a1, .int .i64 a2, .int .i64 a3] w fun e w' => e = .returned (.bool r) ∧ Drawn0 w w' := by
 have H : ((redraftlaw02_num.f a1).bind fun t811 => (if t811 = a3 then (some (a0 == a2)) else (some false))) = some r := h
 clear h
 replace H := Option.bind_eq_some_iff.mp H
 obtain ⟨t811, A50, H⟩ := H
 replace H : (if t811 = a3 then (some (a0 == a2)) else (some false)) = some r := H
 have A5 := Aside0.mk A50
 clear A50
 by_cases c6 : t811 = a3
 ·rw [if_pos c6] at H
  have c6b0 : (t811 == a3) = true := beq_iff_eq.mpr c6
  have c6b1 : (t811 != a3) = false := bne_eq_false_iff_eq.mpr c6
  clear c6
  obtain rfl := Option.some.inj H
  go_enter Try.func60, Try.ntmps60
  go_wp2_with (first | ((with_reducible refine gate_callee (f := 19) rfl ?_); refine goesL_ (some 10) rfl rfl Try.func19 (by kernel_rfl) rfl #[.int .i64 a1] rfl (by (try simp only [List.map_toArray, List.map_cons, List.map_nil]); first | done | rfl | (simp only [List.length_drop, List.length_take]; rfl)) ?_; (with_reducible refine (redraftlaw02_num.calls a1 t811 _ A5.out).mono ?_); rintro e w' ⟨rfl, ⟨nd, rfl⟩⟩; refine ⟨_, rfl, ?_⟩))
  go_ret
  exact ⟨by first | rfl | (simp; done) | (simp [*]; done), by repeat (first | exact Drawn0.refl _ | apply Drawn0.step)⟩
 ·rw [if_neg c6] at H
  have c6b0 : (t811 == a3) = false := beq_eq_false_iff_ne.mpr c6
  have c6b1 : (t811 != a3) = true := bne_iff_ne.mpr c6
  obtain rfl := Option.some.inj H
  go_enter Try.func60, Try.ntmps60
  go_wp2_with (first | ((with_reducible refine gate_callee (f := 19) rfl ?_); refine goesL_ (some 10) rfl rfl Try.func19 (by kernel_rfl) rfl #[.int .i64 a1] rfl (by (try simp only [List.map_toArray, List.map_cons, List.map_nil]); first | done | rfl | (simp only [List.length_drop, List.length_take]; rfl)) ?_; (with_reducible refine (redraftlaw02_num.calls a1 t811 _ A5.out).mono ?_); rintro e w' ⟨rfl, ⟨nd, rfl⟩⟩; refine ⟨_, rfl, ?_⟩))
  go_ret
  exact ⟨by first | rfl | (simp; done) | (simp [*]; done), by repeat (first | exact Drawn0.refl _ | apply Drawn0.step)⟩
end Go.Proofs.Ytmidiifgdloojaa.Pr
end
section
namespace Go.Proofs.Ytmidiifgdloojaa.SpanFns
open Go.RowKit Go.Proofs.YtmidiifgdloojaaW.PrintWords Go.Proofs.YtmidiifgdloojaaW.PrintMore Go.Proofs.Ytmidiifgdloojaa.Pr Go.Proofs.Ytmidiifgdloojaa.SpanMath Go.Proofs.Ytmidiifgdloojaa.SpanReads
theorem wfl_short {l : List S36} (h : WfL l) : Short l := by have := h.1; show l.length < _; omega
theorem rd76_at (pre : List S76) (o : S76) (suf : List S76) : rd_T76 (pre ++ o :: suf) (pre.length : Int) = o := by simp [rd_T76]
end Go.Proofs.Ytmidiifgdloojaa.SpanFns
end
section
namespace Go.Proofs.Ytmidiifgdloojaa.Pr
open Go.RowKit Go.Proofs.YtmidiifgdloojaaW.PrintWords Go.Proofs.YtmidiifgdloojaaW.PrintLast Go.Proofs.YtmidiifgdloojaaW.PrintMore
attribute [local go_sem] max2_int min2_int max_two min_two max_three min_three max_four min_four
set_option linter.unusedVariables false
set_option linter.unusedSimpArgs false
mutual
def redraftref02_First.l0 : Nat → List (S36) → Int → List Int → Int → Option (List Int)
 | 0, _, _, _, _ => none
 | k + 1, x0, x1, x5, x8 => if x8 < (x0.length : Int) then (if 0 ≤ x8 then (redraftref02_First.l1 k x0 x1 x5 x8 ((rd_T36 x0 x8).f0)) else (none)) else (some x5)
def redraftref02_First.l1 : Nat → List (S36) → Int → List Int → Int → Int → Option (List Int)
 | 0, _, _, _, _, _ => none
 | k + 1, x0, x1, x5, x8, x9 => if 0 ≤ x8 then (if x8 < (x0.length : Int) then (if x9 < ((rd_T36 x0 x8).f1) then (if (x5.length : Int) ≥ x1 then (some x5) else (if x5.length < 17592186044416 then (redraftref02_First.l1 k x0 x1 (x5 ++ [x9]) x8 (wrap64 (x9 + 1))) else (none))) else (redraftref02_First.l0 k x0 x1 x5 (wrap64 (x8 + 1)))) else (none)) else (none)
end
def redraftref02_First.f (k : Nat) (l0 : List (S36)) (a1 : Int) : Option (List Int) := (redraftref02_Check.f k l0).bind fun bt284 => (if bt284.2 = 0 then (redraftref02_First.l0 k l0 a1 ([] : List Int) 0) else (some ([] : List Int)))
theorem redraftref02_First.mono_l : ∀ k, (∀ y0 y1 y2 y3, LeO (redraftref02_First.l0 k y0 y1 y2 y3) (redraftref02_First.l0 (k + 1) y0 y1 y2 y3)) ∧ (∀ y0 y1 y2 y3 y4, LeO (redraftref02_First.l1 k y0 y1 y2 y3 y4) (redraftref02_First.l1 (k + 1) y0 y1 y2 y3 y4))
 | 0 => ⟨fun _ _ _ _ r h => by simp [redraftref02_First.l0] at h, fun _ _ _ _ _ r h => by simp [redraftref02_First.l1] at h⟩
 | k + 1 => by
  obtain ⟨ih0, ih1⟩ := redraftref02_First.mono_l k
  refine ⟨?_, ?_⟩
  ·intro y0 y1 y2 y3
   unfold redraftref02_First.l0
   repeat' first
   | (with_reducible exact ih0 _ _ _ _)
   | (with_reducible exact ih1 _ _ _ _ _)
   | (with_reducible exact redraftref02_Check.mono _ _)
   | (with_reducible exact LeO.refl _)
   | (with_reducible exact LeO.none _)
   | (with_reducible refine LeO.ite ?_ ?_)
   | (with_reducible refine LeO.bind ?_ (fun _ => ?_))
   | exact ih0 _ _ _ _
   | exact ih1 _ _ _ _ _
   | exact redraftref02_Check.mono _ _
   | exact LeO.none _
   | refine LeO.ite ?_ ?_
   | refine LeO.bind ?_ (fun _ => ?_)
  ·intro y0 y1 y2 y3 y4
   unfold redraftref02_First.l1
   repeat' first
   | (with_reducible exact ih0 _ _ _ _)
   | (with_reducible exact ih1 _ _ _ _ _)
   | (with_reducible exact redraftref02_Check.mono _ _)
   | (with_reducible exact LeO.refl _)
   | (with_reducible exact LeO.none _)
   | (with_reducible refine LeO.ite ?_ ?_)
   | (with_reducible refine LeO.bind ?_ (fun _ => ?_))
   | exact ih0 _ _ _ _
   | exact ih1 _ _ _ _ _
   | exact redraftref02_Check.mono _ _
   | exact LeO.none _
   | refine LeO.ite ?_ ?_
   | refine LeO.bind ?_ (fun _ => ?_)
theorem redraftref02_First.mono : ∀ a0 a1 k, LeO (redraftref02_First.f k a0 a1) (redraftref02_First.f (k + 1) a0 a1) := by
 intro a0 a1 k
 obtain ⟨ih0, ih1⟩ := redraftref02_First.mono_l k
 unfold redraftref02_First.f
 repeat' first
   | (with_reducible exact ih0 _ _ _ _)
   | (with_reducible exact ih1 _ _ _ _ _)
   | (with_reducible exact redraftref02_Check.mono _ _)
   | (with_reducible exact LeO.refl _)
   | (with_reducible exact LeO.none _)
   | (with_reducible refine LeO.ite ?_ ?_)
   | (with_reducible refine LeO.bind ?_ (fun _ => ?_))
   | exact ih0 _ _ _ _
   | exact ih1 _ _ _ _ _
   | exact redraftref02_Check.mono _ _
   | exact LeO.none _
   | refine LeO.ite ?_ ?_
   | refine LeO.bind ?_ (fun _ => ?_)
set_option maxHeartbeats 8000000 in
set_option maxRecDepth 100000 in
theorem redraftref02_First.calls (k : Nat) (A0 : Option Addr) (c0 : Nat) (l0 : List (S36)) (a1 : Int) (r : List Int) (w : World) (hr0 : Kd.C k36 w A0 l0.length l0) (hc0 : l0.length ≤ c0) (h : redraftref02_First.f k l0 a1 = some r) :
  Calls Try.prog 26 #[.slice A0 l0.length c0, .int .i64 a1] w fun e w' => ∃ v0_ : Value, e = .returned (v0_) ∧ Kd.R (Kd.int .i64) 3 w' w.heap.size (fun _ => True) v0_ r ∧ Below w.heap.size w w' := by
 have HR0 := Aside0.mk hr0
 have HC0 := Aside0.mk hc0
 clear hr0 hc0
 have HB := Aside0.mk (Below.refl w.heap.size w)
 have H : ((redraftref02_Check.f k l0).bind fun bt284 => (if bt284.2 = 0 then (redraftref02_First.l0 k l0 a1 ([] : List Int) 0) else (some ([] : List Int)))) = some r := h
 clear h
 replace H := Option.bind_eq_some_iff.mp H
 obtain ⟨⟨t284, t285⟩, A30, H⟩ := H
 replace H : (if t285 = 0 then (redraftref02_First.l0 k l0 a1 ([] : List Int) 0) else (some ([] : List Int))) = some r := H
 have A3 := Aside0.mk A30
 clear A30
 by_cases c4 : t285 = 0
 ·rw [if_pos c4] at H
  have c4b0 : (t285 == 0) = true := beq_iff_eq.mpr c4
  have c4b1 : (t285 != 0) = false := bne_eq_false_iff_eq.mpr c4
  clear c4
  have H' := Aside0.mk H
  clear H
  go_enter Try.func26, Try.ntmps26
  go_wp2_with (first | ((with_reducible refine gate_callee (f := 54) rfl ?_); refine goesL_ (some 12) rfl rfl Try.func54 (by kernel_rfl) rfl #[.slice A0 l0.length c0] rfl (by (try simp only [List.map_toArray, List.map_cons, List.map_nil]); first | done | rfl | (simp only [List.length_drop, List.length_take]; rfl)) ?_; (with_reducible refine (redraftref02_Check.calls k _ _ l0 t284 t285 _ ?side1 ?side2 A3.out).mono ?_); (case side1 => repeat (first | exact HR0.out | (with_reducible refine Kd.C_alloc ?_ _) | (with_reducible refine Kd.C_drewN ?_ _) | (with_reducible refine Kd.C_drew ?_))); (case side2 => exact HC0.out); rintro e w' ⟨rfl, ⟨nd, rfl⟩⟩; refine ⟨_, rfl, ?_⟩))
  go_loopg [5, 8] k (fun kq v5 v8 w' => ∃ (x5_1 : List Int) (x8_1 : Int), v8 = .int .i64 x8_1 ∧ Aside0 (redraftref02_First.l0 kq l0 a1 x5_1 x8_1 = some r) ∧ Aside0 (kq ≤ k) ∧ Aside0 (Kd.R (Kd.int .i64) 3 w' w.heap.size (fun _ => True) v5 x5_1) ∧ Aside0 (Below w.heap.size w w'))
  case atStart => exact ⟨(([] : List Int)), (0), (by first | rfl | (simp; done) | (simp [*]; done)), H', ⟨Nat.le_refl _⟩, ⟨by first | exact Kd.R_nil _ _ _ _ _ | exact Kd.N_nil _ _ _ _ _ | exact Kd.V_nil _ _ _ _ _ | exact Kd.Q_nil _ _ _ _ _ | exact Kd.S_nil _ _ _ _ _⟩, ⟨by repeat (first | (with_reducible first | exact HB.out | apply below_alloc | apply pw_below_drewN | apply below_drew1) | exact HB.out)⟩⟩
  case round =>
   clear H'
   try clear c2
   try clear p2
   try clear c4
   try clear c4b0
   try clear c4b1
   obtain ⟨x5_1, x8_1, rfl, HA, HK1, HO_5, HB⟩ := hrel
   cases gk with
   | zero => exact absurd HA.out (by simp [redraftref02_First.l0])
   | succ k1 =>
    have H := HA.out
    clear HA
    simp only [redraftref02_First.l0] at H
    by_cases c5 : x8_1 < (l0.length : Int)
    ·rw [if_pos c5] at H
     have c5b0 : decide (x8_1 < (l0.length : Int)) = true := decide_eq_true c5
     clear c5
     by_cases c6 : 0 ≤ x8_1
     ·rw [if_pos c6] at H
      have c6b0 : decide (0 ≤ x8_1) = true := decide_eq_true c6
      clear c6
      have H' := Aside0.mk H
      clear H
      have p286 : 0 ≤ (x8_1 : Int) := of_decide_eq_true (by first | (with_reducible assumption) | assumption)
      have q286 : x8_1 < (l0.length : Int) := of_decide_eq_true (by first | (with_reducible assumption) | assumption)
      obtain ⟨ad286, e286, hx286_0, hx286_1⟩ := at_T36 HR0.out x8_1 p286 q286
      cases e286
      replace hx286_0 := (HB.out.cell (World.block_lt_of_cell? w _ hx286_0)).trans hx286_0
      replace hx286_1 := (HB.out.cell (World.block_lt_of_cell? w _ hx286_1)).trans hx286_1
      replace p286 := eq_true p286
      replace q286 := eq_true q286
      go_wp2
      go_loopg [5, 9] k1 (fun kq v5 v9 w' => ∃ (x5_2 : List Int) (x9_2 : Int), v9 = .int .i64 x9_2 ∧ Aside0 (redraftref02_First.l1 kq l0 a1 x5_2 x8_1 x9_2 = some r) ∧ Aside0 (kq ≤ k1) ∧ Aside0 (Kd.R (Kd.int .i64) 3 w' w.heap.size (fun _ => True) v5 x5_2) ∧ Aside0 (Below w.heap.size w w'))
      case atStart => exact ⟨(x5_1), ((rd_T36 l0 x8_1).f0), (by first | rfl | (simp; done) | (simp [*]; done)), H', ⟨Nat.le_refl _⟩, ⟨by (with_reducible repeat (first | apply Kd.R_alloc | apply Kd.R_drewN | apply Kd.R_drew)); exact HO_5.out⟩, ⟨by repeat (first | (with_reducible first | exact HB.out | apply below_alloc | apply pw_below_drewN | apply below_drew1) | exact HB.out)⟩⟩
      case round =>
       clear H'
       try clear c2
       try clear p2
       try clear q2
       try clear hx2
       try clear c4
       try clear c4b0
       try clear c4b1
       try clear c5
       try clear c5b0
       try clear c6
       try clear c6b0
       try clear hx286_0
       try clear hx286_1
       try clear p2
       try clear p286
       try clear q286
       obtain ⟨x5_2, x9_2, rfl, HA, HK2, HO_5, HB⟩ := hrel
       cases gk with
       | zero => exact absurd HA.out (by simp [redraftref02_First.l1])
       | succ k2 =>
        have H := HA.out
        clear HA
        simp only [redraftref02_First.l1] at H
        by_cases c7 : 0 ≤ x8_1
        ·rw [if_pos c7] at H
         have c7b0 : decide (0 ≤ x8_1) = true := decide_eq_true c7
         clear c7
         by_cases c8 : x8_1 < (l0.length : Int)
         ·rw [if_pos c8] at H
          have c8b0 : decide (x8_1 < (l0.length : Int)) = true := decide_eq_true c8
          clear c8
          by_cases c9 : x9_2 < ((rd_T36 l0 x8_1).f1)
          ·rw [if_pos c9] at H
           have c9b0 : decide (x9_2 < ((rd_T36 l0 x8_1).f1)) = true := decide_eq_true c9
           clear c9
           by_cases c10 : (x5_2.length : Int) ≥ a1
           ·rw [if_pos c10] at H
            have c10b0 : decide (a1 ≤ (x5_2.length : Int)) = true := decide_eq_true c10
            clear c10
            obtain rfl := Option.some.inj H
            have p287 : 0 ≤ (x8_1 : Int) := of_decide_eq_true (by first | (with_reducible assumption) | assumption)
            have q287 : x8_1 < (l0.length : Int) := of_decide_eq_true (by first | (with_reducible assumption) | assumption)
            obtain ⟨ad287, e287, hx287_0, hx287_1⟩ := at_T36 HR0.out x8_1 p287 q287
            obtain rfl : ad286 = ad287 := (by injection e287)
            replace hx287_0 := (HB.out.cell (World.block_lt_of_cell? w _ hx287_0)).trans hx287_0
            replace hx287_1 := (HB.out.cell (World.block_lt_of_cell? w _ hx287_1)).trans hx287_1
            replace p287 := eq_true p287
            replace q287 := eq_true q287
            obtain ⟨Ao11, co11, eo11⟩ := Kd.R_slice HO_5.out
            subst eo11
            go_wp2
            go_ret
            exact ⟨_, by first | rfl | (simp [errW_none, errW_some] <;> rfl) | (simp [*, errW_none, errW_some] <;> rfl), by (with_reducible repeat (first | apply Kd.R_alloc | apply Kd.R_drewN | apply Kd.R_drew)); exact HO_5.out, by repeat (first | (with_reducible first | exact HB.out | apply below_alloc | apply pw_below_drewN | apply below_drew1) | exact HB.out)⟩
           ·rw [if_neg c10] at H
            have c10b0 : decide (a1 ≤ (x5_2.length : Int)) = false := decide_eq_false c10
            clear c10
            by_cases c12 : x5_2.length < 17592186044416
            ·rw [if_pos c12] at H
             have LMc12 := Aside0.mk c12
             clear c12
             obtain ⟨y288, hy288⟩ : ∃ y_ : List Int, y_ = (x5_2 ++ [x9_2]) := ⟨_, rfl⟩
             replace H : (redraftref02_First.l1 k2 l0 a1 y288 x8_1 (wrap64 (x9_2 + 1))) = some r := by first | (rw [hy288]; with_reducible exact H) | (have H2_ := (Option.bind_some _ _).symm.trans H; rw [hy288]; with_reducible exact H2_) | (have H2_ := (Option.bind_some _ _).symm.trans H; with_reducible exact H2_) | with_reducible exact H | (rw [hy288]; exact H) | exact H
             have Ny288 := Aside0.mk hy288
             clear hy288
             have H' := Aside0.mk H
             clear H
             have p287 : 0 ≤ (x8_1 : Int) := of_decide_eq_true (by first | (with_reducible assumption) | assumption)
             have q287 : x8_1 < (l0.length : Int) := of_decide_eq_true (by first | (with_reducible assumption) | assumption)
             obtain ⟨ad287, e287, hx287_0, hx287_1⟩ := at_T36 HR0.out x8_1 p287 q287
             obtain rfl : ad286 = ad287 := (by injection e287)
             replace hx287_0 := (HB.out.cell (World.block_lt_of_cell? w _ hx287_0)).trans hx287_0
             replace hx287_1 := (HB.out.cell (World.block_lt_of_cell? w _ hx287_1)).trans hx287_1
             replace p287 := eq_true p287
             replace q287 := eq_true q287
             obtain ⟨Ao13, co13, eo13⟩ := Kd.R_slice HO_5.out
             subst eo13
             go_wp2_with (first | ((with_reducible refine gate_builtin (b := .append) (xs := #[.tmp 43, .tmp 45]) rfl ?_); at_builtin; refine Kd.R_append (Kd.int .i64) (w0 := w) w.heap.size rfl (.tmp 43) (.tmp 45) 23 3 (.int .i64 0) 8 rfl Try.underlying23 info3 rfl (by decide) (by omega) (.slice Ao13 x5_2.length co13) x5_2 x9_2 [.int .i64 x9_2] (fun _ => True) (fun _ => False) rfl rfl ?aP (fun _ hk => hk.elim) ?aF ?aO ?aB ?aS ?aL ?_; (case aP => exact rfl); (case aB => exact (by repeat (first | (with_reducible first | exact HB.out | apply below_alloc | apply pw_below_drewN | apply below_drew1) | exact HB.out))); (case aF => exact (fun _ _ => trivial)); (case aO => exact (by (with_reducible repeat (first | apply Kd.R_alloc | apply Kd.R_drewN | apply Kd.R_drew)); exact HO_5.out)); (case aS => exact (below_size (by repeat (first | (with_reducible first | exact HB.out | apply below_alloc | apply pw_below_drewN | apply below_drew1) | exact HB.out)))); (case aL => have := LMc12.out; omega); intro v289 w14 ho hb hg hat; rw [← Ny288.out] at ho; have n0_ := Aside0.mk (hb); have n1_ := Aside0.mk (ho); clear HB; clear HO_5; have HB := n0_; have HO290 := n1_; clear n0_ n1_; clear ho hb hg hat))
             go_roundg k2
             case measure => have := HK1.out; have := HK2.out; omega
             case rel => exact ⟨(y288), (wrap64 (x9_2 + 1)), (by first | rfl | (simp; done) | (simp [*]; done)), H', ⟨by have := HK1.out; have := HK2.out; omega⟩, ⟨by (with_reducible repeat (first | apply Kd.R_alloc | apply Kd.R_drewN | apply Kd.R_drew)); exact HO290.out⟩, ⟨by repeat (first | (with_reducible first | exact HB.out | apply below_alloc | apply pw_below_drewN | apply below_drew1) | exact HB.out)⟩⟩
            ·rw [if_neg c12] at H
             exact absurd H (by simp)
          ·rw [if_neg c9] at H
           have c9b0 : decide (x9_2 < ((rd_T36 l0 x8_1).f1)) = false := decide_eq_false c9
           clear c9
           have H' := Aside0.mk H
           clear H
           have p287 : 0 ≤ (x8_1 : Int) := of_decide_eq_true (by first | (with_reducible assumption) | assumption)
           have q287 : x8_1 < (l0.length : Int) := of_decide_eq_true (by first | (with_reducible assumption) | assumption)
           obtain ⟨ad287, e287, hx287_0, hx287_1⟩ := at_T36 HR0.out x8_1 p287 q287
           obtain rfl : ad286 = ad287 := (by injection e287)
           replace hx287_0 := (HB.out.cell (World.block_lt_of_cell? w _ hx287_0)).trans hx287_0
           replace hx287_1 := (HB.out.cell (World.block_lt_of_cell? w _ hx287_1)).trans hx287_1
           replace p287 := eq_true p287
           replace q287 := eq_true q287
           go_wp2
           go_roundg k2
           case measure => have := HK1.out; have := HK2.out; omega
           case rel => exact ⟨(x5_2), (wrap64 (x8_1 + 1)), (by first | rfl | (simp; done) | (simp [*]; done)), H', ⟨by have := HK1.out; have := HK2.out; omega⟩, ⟨by (with_reducible repeat (first | apply Kd.R_alloc | apply Kd.R_drewN | apply Kd.R_drew)); exact HO_5.out⟩, ⟨by repeat (first | (with_reducible first | exact HB.out | apply below_alloc | apply pw_below_drewN | apply below_drew1) | exact HB.out)⟩⟩
         ·rw [if_neg c8] at H
          exact absurd H (by simp)
        ·rw [if_neg c7] at H
         exact absurd H (by simp)
     ·rw [if_neg c6] at H
      exact absurd H (by simp)
    ·rw [if_neg c5] at H
     have c5b0 : decide (x8_1 < (l0.length : Int)) = false := decide_eq_false c5
     clear c5
     obtain rfl := Option.some.inj H
     go_wp2
     go_ret
     exact ⟨_, by first | rfl | (simp [errW_none, errW_some] <;> rfl) | (simp [*, errW_none, errW_some] <;> rfl), by (with_reducible repeat (first | apply Kd.R_alloc | apply Kd.R_drewN | apply Kd.R_drew)); exact HO_5.out, by repeat (first | (with_reducible first | exact HB.out | apply below_alloc | apply pw_below_drewN | apply below_drew1) | exact HB.out)⟩
 ·rw [if_neg c4] at H
  have c4b0 : (t285 == 0) = false := beq_eq_false_iff_ne.mpr c4
  have c4b1 : (t285 != 0) = true := bne_iff_ne.mpr c4
  obtain rfl := Option.some.inj H
  go_enter Try.func26, Try.ntmps26
  go_wp2_with (first | ((with_reducible refine gate_callee (f := 54) rfl ?_); refine goesL_ (some 12) rfl rfl Try.func54 (by kernel_rfl) rfl #[.slice A0 l0.length c0] rfl (by (try simp only [List.map_toArray, List.map_cons, List.map_nil]); first | done | rfl | (simp only [List.length_drop, List.length_take]; rfl)) ?_; (with_reducible refine (redraftref02_Check.calls k _ _ l0 t284 t285 _ ?side1 ?side2 A3.out).mono ?_); (case side1 => repeat (first | exact HR0.out | (with_reducible refine Kd.C_alloc ?_ _) | (with_reducible refine Kd.C_drewN ?_ _) | (with_reducible refine Kd.C_drew ?_))); (case side2 => exact HC0.out); rintro e w' ⟨rfl, ⟨nd, rfl⟩⟩; refine ⟨_, rfl, ?_⟩))
  go_ret
  exact ⟨_, by first | rfl | (simp [errW_none, errW_some] <;> rfl) | (simp [*, errW_none, errW_some] <;> rfl), by first | exact Kd.R_nil _ _ _ _ _ | exact Kd.N_nil _ _ _ _ _ | exact Kd.V_nil _ _ _ _ _ | exact Kd.Q_nil _ _ _ _ _ | exact Kd.S_nil _ _ _ _ _, by repeat (first | (with_reducible first | exact HB.out | apply below_alloc | apply pw_below_drewN | apply below_drew1) | exact HB.out)⟩
end Go.Proofs.Ytmidiifgdloojaa.Pr
end
section
namespace Go.Proofs.Ytmidiifgdloojaa.SpanSort
open Go.RowKit Go.Proofs.YtmidiifgdloojaaW.PrintWords Go.Proofs.YtmidiifgdloojaaW.PrintLast Go.Proofs.YtmidiifgdloojaaW.PrintMore Go.Proofs.Ytmidiifgdloojaa.Pr
def enc36 (r : S36) : List Value := [.int .i64 r.f0, .int .i64 r.f1]
def flat36 (l : List S36) : List Value := l.flatMap enc36
theorem flat36_len (l : List S36) : (flat36 l).length = l.length * 2 := by
  induction l with
  | nil => rfl
  | cons r l ih => simp only [flat36, List.flatMap_cons, List.length_append, List.length_cons] at ih ⊢; rw [ih]; simp [enc36]; omega
theorem flat36_cons (r : S36) (l : List S36) : flat36 (r :: l) = enc36 r ++ flat36 l := rfl
theorem flat36_one : ∀ (l : List S36), ∀ u ∈ flat36 l, u.oneCell' = true
  | [], u, h => by simp [flat36] at h
  | r :: l, u, h => by
    rw [flat36_cons] at h
    rcases List.mem_append.1 h with h | h
    · simp [enc36] at h
      rcases h with rfl | rfl <;> rfl
    · exact flat36_one l u h
theorem flat36_get (l : List S36) (j : Nat) (hj : j < l.length) : (flat36 l)[j * 2]? = some (.int .i64 (l[j]).f0) ∧ (flat36 l)[j * 2 + 1]? = some (.int .i64 (l[j]).f1) := by
  induction l generalizing j with
  | nil => simp at hj
  | cons r l ih =>
    cases j with
    | zero => exact ⟨rfl, rfl⟩
    | succ j =>
      have h := ih j (by simpa using hj)
      rw [flat36_cons]
      have e : (j + 1) * 2 = j * 2 + 2 := by omega
      rw [e]
      exact h
theorem reps_flat {R : S36 → List Value → Prop} (hR : ∀ r, R r (enc36 r)) : ∀ l : List S36, Reps R 2 l (flat36 l)
  | [] => Reps.none R 2
  | r :: l => by
    have h1 : Reps R 2 [r] (enc36 r) := by
      have := (Reps.none R 2).snoc (hR r) rfl
      simpa using this
    exact Kd.reps_append (ps := [r]) h1 (reps_flat hR l)
theorem flat_reps {R : S36 → List Value → Prop} (hR : ∀ r cs, R r cs → cs = enc36 r) : ∀ (l : List S36) (inner : List Value), Reps R 2 l inner → inner = flat36 l
  | [], inner, h => by
    have := h.1
    simp at this
    rw [this]; rfl
  | r :: l, inner, h => by
    have h0 := hR _ _ (h.2 0 r rfl)
    have h1 : Reps R 2 l (inner.drop 2) := Kd.reps_drop (m := 1) h
    rw [flat36_cons, ← flat_reps hR l _ h1, ← h0]
    simp
theorem row_of_R {W : World} {base : Nat} {ok : Nat → Prop} {v : Value} {xs : List S36} (h : Kd.R k36 36 W base ok v xs) : (∀ k, v.ownBlock = some k → ok k) ∧ W.ownsRow base 36 2 v xs.length (flat36 xs) := by
  obtain ⟨h0, inner, ho, hr⟩ := h
  refine ⟨h0, ?_⟩
  rw [← flat_reps (fun r cs h => k36_openM h) xs inner hr]
  exact ho
theorem R_of_row {W : World} {base : Nat} {ok : Nat → Prop} {v : Value} {xs : List S36} (h0 : ∀ k, v.ownBlock = some k → ok k) (h : W.ownsRow base 36 2 v xs.length (flat36 xs)) : Kd.R k36 36 W base ok v xs :=
  ⟨h0, flat36 xs, h, reps_flat (fun r => k36_mkM _ _ _ r) xs⟩
theorem run_copy_cells2 {P : Program} (w : World) (dT sT ty elem : TypeId) (b o n dCap : Nat) (a : Addr) (sCap : Nat) (cs : List Value)
    (hu : P.underlying dT = some (.slice elem)) (hs : (P.info? elem).map (·.size) = some 2) (hn : cs.length = n * 2)
    (hsrc : ∀ j v, cs[j]? = some v → w.cell? (a.add j) = some v) (hc : ∀ j, j < cs.length → (w.cell? ⟨b, o + j, none⟩).isSome = true) (hf : ∀ j, j < cs.length → w.frozen? ⟨b, o + j, none⟩ = false) (h1 : ∀ v ∈ cs, v.oneCell' = true) :
    (Builtin.copy_ #[dT, sT] ty #[.slice (some ⟨b, o, none⟩) n dCap, .slice (some a) n sCap]).run P w = .ok (goInt n) (w.setCells b o cs) := by
  have hl := run_loadCells_list (P := P) w a cs hsrc
  have hst := run_storeCells_cells (P := P) b o cs 0 w (by simpa using hc) (by simpa using hf) h1
  cases hq : P.info? elem with
  | none => simp [hq] at hs
  | some i =>
    have hi : i.size = 2 := by simpa [hq] using hs
    simp [Builtin.copy_, run_underlying hu, Builtin.lenOf, Builtin.firstCells, sizeOf, typeInfo, hq, hi, ← hn, hl, hst]
theorem run_copy_zero {P : Program} (w : World) (dT sT ty elem : TypeId) (b : Addr) (a : Option Addr) (dCap sCap : Nat) (hu : P.underlying dT = some (.slice elem)) (hs : (P.info? elem).map (·.size) = some 2) :
    (Builtin.copy_ #[dT, sT] ty #[.slice (some b) 0 dCap, .slice a 0 sCap]).run P w = .ok (goInt 0) w := by
  have hl : ∀ (x : Addr), (loadCells x 0).run P w = .ok #[] w := fun x => by simpa using run_loadCells_list (P := P) w x [] (by simp)
  cases hq : P.info? elem with
  | none => simp [hq] at hs
  | some i =>
    cases a <;> simp [Builtin.copy_, run_underlying hu, Builtin.lenOf, Builtin.firstCells, sizeOf, typeInfo, hq, storeCells, hl]
section
variable {P : Program} {ops : Array Oper} {rest : List Oper} {o : Oper} {a : Act} {Q : Exit → Act → World → Prop}
theorem R_copy36 {w0 W : World} (base : Nat) (hgd : o.guard = none) (s x : Operand) (t t' : TypeId)
    (ho : o.op = .call { callee := .builtin .copy, args := #[s, x], argTypes := #[t, t'] }) (ht : P.underlying t = some (.slice 36)) (hinfo : (P.info? 36).map (·.size) = some 2)
    (v : Value) (xs ys : List S36) (A : Option Addr) (c : Nat) (ok : Nat → Prop) (hs : a.eval s = v) (hx : a.eval x = .slice A ys.length c) (hlen : xs.length = ys.length) (hb : ∃ b, v.ownBlock = some b)
    (HO : Kd.R k36 36 W base ok v xs) (HR : Kd.C k36 W A ys.length ys) (HB : Below base w0 W) (hbase : base ≤ W.heap.size)
    (h : ∀ w1, Kd.R k36 36 w1 base ok v ys → Below base w0 w1 → wpList P ops Q rest (a.put o.dst (.int .i64 (ys.length : Int))) w1) : wpList P ops Q (o :: rest) a W := by
  obtain ⟨h0, hown⟩ := row_of_R HO
  have fin : ∀ w1, (Builtin.copy_ #[t, t'] o.type #[v, .slice A ys.length c]).run P W = .ok (goInt (ys.length : Int)) w1 → Kd.R k36 36 w1 base ok v ys → W.grownBy w1 v.ownBlock → wpList P ops Q (o :: rest) a W := by
    intro w1 hr hrow hg
    refine wpList_plain hgd fun K hK => ?_
    unfold Oper.wp execOp
    simp only [ho, resolve, invoke, builtin, Sem.run_bind, Sem.run_pure, Result.andThen_ok, List.map_toArray, List.map_cons, List.map_nil, hs, hx, hr]
    exact hK _ _ (h w1 hrow (HB.grown hg hbase (own_base hown)))
  rcases hown.2 with ⟨hv, _⟩ | ⟨g, cap, cur, hv, hbg, hh, hnc, hcm, hcs, htake⟩
  · obtain ⟨b, hb⟩ := hb
    rw [hv] at hb
    simp [Value.ownBlock] at hb
  rcases Nat.eq_zero_or_pos ys.length with hz | hp
  · have hy : ys = [] := List.eq_nil_of_length_eq_zero hz
    have hxz : xs = [] := List.eq_nil_of_length_eq_zero (by omega)
    refine fin W ?_ (by rw [hy, ← hxz]; exact HO) (World.grownBy.refl W _)
    have := run_copy_zero (P := P) W t t' o.type 36 ⟨g, 0, none⟩ A cap c ht hinfo
    rw [hv, hz, show xs.length = 0 from by omega]
    exact this
  · obtain ⟨ad, hA, _⟩ := HR.2.2 hp
    rw [hA] at HR
    obtain ⟨inner, hnr, hnc2⟩ := ReadsRow.inner_ HR
    rw [flat_reps (fun r cs h => k36_open h) ys inner hnr] at hnc2
    have hle : ys.length * 2 ≤ cur.size := by rw [hcs]; omega
    have hr := run_copy_cells2 (P := P) W t t' o.type 36 g 0 ys.length cap ad c (flat36 ys) ht hinfo (flat36_len ys) hnc2
      (fun j hj => by rw [flat36_len] at hj; simp [World.cell?, hh]; omega) (fun j _ => blk_frozen hh _) (flat36_one ys)
    obtain ⟨cur', h3, h4, h5⟩ := setCells_row (flat36 ys) 0 W cur hh (by rw [flat36_len]; omega)
    obtain ⟨s1, s2, s3, s4⟩ := setCells_same g (flat36 ys) 0 W
    refine fin _ (by rw [hv, hA, hlen]; exact hr) (R_of_row h0 ?_) ⟨s1, s2, s3, by rw [s4]; exact Nat.le_refl _, fun k _ hk => setCells_far _ _ k (fun he => hk (by rw [hv, he]; simp [Value.ownBlock]))⟩
    refine ⟨flat36_len ys, .inr ⟨g, cap, cur', by rw [hv, hlen], hbg, h3, by omega, hcm, by rw [h4, hcs], ?_⟩⟩
    rw [h5, List.take_zero, List.nil_append, ← flat36_len ys]
    simp
end
theorem info36s : (Try.prog.info? 36).map (·.size) = some 2 := by kernel_rfl
end Go.Proofs.Ytmidiifgdloojaa.SpanSort
end
section
namespace Go.Proofs.Ytmidiifgdloojaa.SpanEach
open Go.RowKit Go.Shelf
attribute [local go_sem] Oper.semAt_some
def width (r : Int × Int) : Nat := (r.2 - r.1).toNat
def span1 (r : Int × Int) : List Int := (List.range (width r)).map (fun j : Nat => r.1 + (j : Int))
def spans (l : List (Int × Int)) : List Int := l.flatMap span1
theorem span1_len (r : Int × Int) : (span1 r).length = width r := by simp [span1]
theorem spans_succ (l : List (Int × Int)) {k : Nat} (h : k < l.length) : spans (l.take (k + 1)) = spans (l.take k) ++ span1 (l[k]?.getD (0, 0)) := by
  rw [List.take_add_one]
  simp only [spans, List.getElem?_eq_getElem h, Option.toList_some, Option.getD_some, List.flatMap_append, List.flatMap_cons, List.flatMap_nil, List.append_nil]
theorem span1_succ (r : Int × Int) {m : Nat} (h : m < width r) : (span1 r).take (m + 1) = (span1 r).take m ++ [r.1 + (m : Int)] := by
  rw [List.take_add_one]
  simp [span1, h]
theorem spans_split (l : List (Int × Int)) {k : Nat} (h : k < l.length) : spans l = spans (l.take k) ++ (span1 (l[k]?.getD (0, 0)) ++ spans (l.drop (k + 1))) := by
  have : l = l.take k ++ l[k] :: l.drop (k + 1) := by simp
  conv => lhs; rw [this]
  simp only [spans, List.getElem?_eq_getElem h, Option.getD_some, List.flatMap_append, List.flatMap_cons]
theorem come_prefix (l : List (Int × Int)) {k : Nat} (h : k < l.length) (m : Nat) : spans (l.take k) ++ (span1 (l[k]?.getD (0, 0))).take m <+: spans l := by
  rw [spans_split l h]
  exact (List.prefix_append_right_inj _).2 ((List.take_prefix _ _).trans (List.prefix_append _ _))
theorem come_lt (l : List (Int × Int)) {k : Nat} (h : k < l.length) {m : Nat} (hm : m < width (l[k]?.getD (0, 0))) : (spans (l.take k) ++ (span1 (l[k]?.getD (0, 0))).take m).length < (spans l).length := by
  rw [spans_split l h]
  simp only [List.length_append, List.length_take, span1_len]
  omega
def Keeps36 (W W' : World) : Prop := ∀ (k : Nat) (c : Array Value), W.heap[k]? = some (.cells c 36 (0, 0)) → W'.heap[k]? = some (.cells c 36 (0, 0))
theorem Keeps36.refl (W : World) : Keeps36 W W := fun _ _ h => h
theorem Keeps36.trans {A B C : World} (h : Keeps36 A B) (k : Keeps36 B C) : Keeps36 A C := fun i c hi => k i c (h i c hi)
theorem Keeps36.grown {A B : World} {row : Option Nat} (h : A.grownBy B row) (hr : ∀ r, row = some r → ∀ c, A.heap[r]? ≠ some (.cells c 36 (0, 0))) : Keeps36 A B := fun i c hi =>
  (h.block i (Array.getElem?_eq_some_iff.1 hi).1 (fun e => hr i e.symm c hi)).trans hi
theorem keeps36_b (W : World) (l : Nat) (o o' : Obj) (h : W.heap[l]? = some o) (hc : o.isCells = false) : Keeps36 W (W.putObj l o') :=
  Keeps36.grown (grownBy_putObj' W l o') (fun r e c hh => by cases e; rw [h] at hh; cases hh; cases hc)
set_option maxRecDepth 100000 in
set_option maxHeartbeats 4000000 in
theorem each1_in (F : Fence) (n : Nat) (h55 : F.fn 55) (hro : F.round = none) (hn : 1 ≤ n) (l Bs b cap : Nat) (zs : List (Int × Int)) (hreach : zs.length ≤ 32768) (hz : ∀ k, k < zs.length → 0 ≤ (zs[k]?.getD (0, 0)).1 ∧ (zs[k]?.getD (0, 0)).1 < (zs[k]?.getD (0, 0)).2 ∧ (zs[k]?.getD (0, 0)).2 ≤ 1048576) (J Jx : List Int → World → Prop)
    (hY : ∀ pre x W, J pre W → pre.length < (spans zs).length → YieldAt F (n - 1) Try.prog l #[.int .i64 x] W fun e W' =>
      (e = .returned (.bool true) ∧ J (pre ++ [x]) W' ∧ Keeps36 W W') ∨ (e = .returned (.bool false) ∧ Jx (pre ++ [x]) W'))
    (W : World) (hJ : AbidesFrom W.heap.size J) (hBs : W.cell? ⟨Bs, 0, none⟩ = some (.slice (some ⟨b, 0, none⟩) zs.length cap)) (cs : Array Value) (hb : W.heap[b]? = some (.cells cs 36 (0, 0)))
    (hc : ∀ j, j < zs.length → cs[j * 2]? = some (.int .i64 (zs[j]?.getD (0, 0)).1) ∧ cs[j * 2 + 1]? = some (.int .i64 (zs[j]?.getD (0, 0)).2)) (h0 : J [] W) :
    CallsIn F n Try.prog 55 #[.func (.yield l) #[] #[], .pointer (some ⟨Bs, 0, none⟩)] W fun e W' => (∃ v, e = .returned v) ∧
      ((∃ ys, ys = spans zs ∧ J ys W') ∨ (∃ pre, pre <+: spans zs ∧ Jx pre W')) := by
  refine callsIn_of_wp Try.func55 rfl h55 ?_ hro
  simp only [Try.ntmps55, List.size_toArray, List.length_cons, List.length_nil, Nat.reduceAdd, Nat.reduceSub, Array.replicate_succ, Array.replicate_zero, List.push_toArray, List.append_toArray, List.nil_append, List.cons_append]
  gi_wp2
  gi_loopw [8] (fun i wr => ∃ k : Nat, k ≤ zs.length ∧ i = .int .i64 k ∧ J (spans (zs.take k)) wr ∧ Keeps36 W wr)
    (fun i _ => zs.length - (intOf i).toNat)
  case atStart => exact ⟨0, Nat.zero_le _, rfl, h0, Keeps36.refl _⟩
  case round =>
    obtain ⟨k, hk, rfl, hJs, hnx⟩ := hrel
    obtain ⟨w1, rfl⟩ : ∃ w1, w1 = wr := ⟨wr, rfl⟩
    by_cases hlt : k < zs.length
    · obtain ⟨c0, c1⟩ := hc k hlt
      obtain ⟨z0, z1, z2⟩ := hz k hlt
      have e1 := spans_succ zs hlt
      have e2 := come_prefix zs hlt
      have e3 : ∀ {m : Nat}, m < width (zs[k]?.getD (0, 0)) → _ := fun {m} => come_lt zs hlt (m := m)
      have d0 : w1.cell? ⟨b, k * 2, none⟩ = some (.int .i64 (zs[k]?.getD (0, 0)).1) := by simp only [World.cell?, hnx b cs hb]; exact c0
      have d1 : w1.cell? ⟨b, k * 2 + 1, none⟩ = some (.int .i64 (zs[k]?.getD (0, 0)).2) := by simp only [World.cell?, hnx b cs hb]; exact c1
      generalize zs[k]?.getD (0, 0) = r at c0 c1 z0 z1 z2 e1 e2 e3 d0 d1
      clear hc hz
      gi_wp2
      have hjs := hJ _ _ _ none hJs (World.grownBy_alloc w1 (.cells #[.int .i64 r.1, .int .i64 r.2] 36) none) (by intro r e; cases e)
      have hks : Keeps36 W (w1.alloc (.cells #[.int .i64 r.1, .int .i64 r.2] 36)) := hnx.trans (Keeps36.grown (World.grownBy_alloc w1 _ none) (by intro r e; cases e))
      gi_loopw [5] (fun p wq => ∃ m : Nat, m ≤ width r ∧ p = .int .i64 (r.1 + (m : Int)) ∧ J (spans (zs.take k) ++ (span1 r).take m) wq ∧ Keeps36 W wq ∧ wq.heap[w1.heap.size]? = some (.cells #[.int .i64 r.1, .int .i64 r.2] 36 (0, 0)))
        (fun p _ => (r.2 - intOf p).toNat)
      case atStart => exact ⟨0, Nat.zero_le _, by simp, by simpa using hjs, hks, World.alloc_heap_new w1 _⟩
      case round =>
        obtain ⟨m, hm, rfl, hJm, hkm, hbx⟩ := hrel
        have b1 : wr.cell? ⟨w1.heap.size, 1, none⟩ = some (.int .i64 r.2) := by simp [World.cell?, hbx]
        by_cases hl2 : m < width r
        · obtain ⟨fn, tmps, assign, body, hy, hR⟩ := hY _ (r.1 + (m : Int)) wr hJm (e3 hl2)
          have g1 : r.1 + (m : Int) < r.2 := by simp only [width] at hl2; omega
          gi_wp2
          refine hR.mono ?_
          rintro e W3 (⟨rfl, hJ3, hk3⟩ | ⟨rfl, hJx3⟩)
          · gi_wp2
            refine ⟨⟨m + 1, hl2, by rw [Int.add_assoc]; rfl, by rw [span1_succ r hl2, ← List.append_assoc]; exact hJ3, hkm.trans hk3, hk3 _ _ hbx⟩, ?_⟩
            simp only [intOf]
            omega
          · gi_wp2
            refine bodyPost_ret (results_none rfl _ _ _) rfl ?_
            exact ⟨⟨_, rfl⟩, .inr ⟨_, by have := e2 (m + 1); rw [span1_succ r hl2, ← List.append_assoc] at this; exact this, hJx3⟩⟩
        · obtain rfl : m = width r := by omega
          have g1 : ¬ r.1 + (width r : Int) < r.2 := by simp only [width]; omega
          have hf : List.take (width r) (span1 r) = span1 r := List.take_of_length_le (by rw [span1_len]; exact Nat.le_refl _)
          gi_wp2
          refine ⟨⟨k + 1, hlt, rfl, by rw [e1]; rw [hf] at hJm; exact hJm, hkm⟩, ?_⟩
          simp only [intOf]
          omega
    · obtain rfl : k = zs.length := by omega
      gi_wp2
      go_end0
      exact ⟨⟨_, rfl⟩, .inl ⟨_, rfl, by rw [List.take_length] at hJs; exact hJs⟩⟩
set_option maxRecDepth 100000 in
set_option maxHeartbeats 1000000 in
theorem each1_nil_in (F : Fence) (n : Nat) (h55 : F.fn 55) (hro : F.round = none) (l Bs : Nat) (J : List Int → World → Prop) (W : World) (hBs : W.cell? ⟨Bs, 0, none⟩ = some (.slice none 0 0)) (h0 : J [] W) :
    CallsIn F n Try.prog 55 #[.func (.yield l) #[] #[], .pointer (some ⟨Bs, 0, none⟩)] W fun e W' => (∃ v, e = .returned v) ∧ J [] W' := by
  refine callsIn_of_wp Try.func55 rfl h55 ?_ hro
  simp only [Try.ntmps55, List.size_toArray, List.length_cons, List.length_nil, Nat.reduceAdd, Nat.reduceSub, Array.replicate_succ, Array.replicate_zero, List.push_toArray, List.append_toArray, List.nil_append, List.cons_append]
  gi_wp2
  gi_loopw [8] (fun i wr => i = .int .i64 0 ∧ J [] wr) (fun _ _ => 0)
  case atStart => exact ⟨rfl, h0⟩
  case round =>
    obtain ⟨rfl, hJs⟩ := hrel
    gi_wp2
    go_end0
    exact ⟨⟨_, rfl⟩, hJs⟩
def Ranges (W : World) (sv : Value) (zs : List (Int × Int)) : Prop :=
  (sv = .slice none 0 0 ∧ zs = []) ∨ ∃ b cap cs, sv = .slice (some ⟨b, 0, none⟩) zs.length cap ∧ W.heap[b]? = some (.cells cs 36 (0, 0)) ∧ ∀ j, j < zs.length → cs[j * 2]? = some (.int .i64 (zs[j]?.getD (0, 0)).1) ∧ cs[j * 2 + 1]? = some (.int .i64 (zs[j]?.getD (0, 0)).2)
theorem Ranges.below {n₀ : Nat} {A B : World} {sv : Value} {zs : List (Int × Int)} (h : Below n₀ A B) (hn : n₀ = A.heap.size) : Ranges A sv zs → Ranges B sv zs
  | .inl e => .inl e
  | .inr ⟨b, cap, cs, e, hb, hc⟩ => .inr ⟨b, cap, cs, e, (h.block b (by rw [hn]; exact (Array.getElem?_eq_some_iff.1 hb).1)).trans hb, hc⟩
abbrev Fine (zs : List (Int × Int)) : Prop := zs.length ≤ 32768 ∧ ∀ k, k < zs.length → 0 ≤ (zs[k]?.getD (0, 0)).1 ∧ (zs[k]?.getD (0, 0)).1 < (zs[k]?.getD (0, 0)).2 ∧ (zs[k]?.getD (0, 0)).2 ≤ 1048576
theorem each_stops (F : Fence) (n : Nat) (h55 : F.fn 55) (hro : F.round = none) (hn : 1 ≤ n) (Bs : Nat) (sv : Value) (zs : List (Int × Int)) (hz : Fine zs) (w : World) (hBs : Bs < w.heap.size)
    (hc : w.cell? ⟨Bs, 0, none⟩ = some sv) (hI : Ranges w sv zs) :
    SeqStopsK F n Try.prog 55 #[.pointer (some ⟨Bs, 0, none⟩)] (fun x : Int => #[Value.int .i64 x]) Keeps36 (fun ys => ys = spans zs) (fun pre => pre <+: spans zs) (spans zs).length w := fun l J Jx W hW hJ _ hY h0 => by
  have hc' := (hW.cell (p := ⟨Bs, 0, none⟩) hBs).trans hc
  rcases hI.below hW rfl with ⟨rfl, rfl⟩ | ⟨b, cap, cs, rfl, hb, hcs⟩
  · exact (each1_nil_in F n h55 hro l Bs J W hc' h0).mono fun e W' ⟨he, hj⟩ => ⟨he, .inl ⟨_, rfl, hj⟩⟩
  · exact each1_in F n h55 hro hn l Bs b cap zs hz.1 hz.2 J Jx hY W hJ hc' cs hb hcs h0
end Go.Proofs.Ytmidiifgdloojaa.SpanEach
end
section
namespace Go.Proofs.Ytmidiifgdloojaa.SpanEach
open Go.RowKit Go.Proofs.YtmidiifgdloojaaW.PrintWords Go.Proofs.YtmidiifgdloojaaW.PrintLast Go.Proofs.YtmidiifgdloojaaW.PrintMore Go.Proofs.Ytmidiifgdloojaa.Pr Go.Proofs.Ytmidiifgdloojaa.SpanSort
def prs (l : List S36) : List (Int × Int) := l.map (fun r => (r.f0, r.f1))
theorem ranges_of_R {W : World} {base : Nat} {ok : Nat → Prop} {v : Value} {l : List S36} (h : Kd.R k36 36 W base ok v l) : Ranges W v (prs l) := by
  obtain ⟨_, hown⟩ := row_of_R h
  rcases hown.2 with ⟨hv, hx⟩ | ⟨g, cap, cur, hv, hbg, hh, hnc, hcm, hcs, htake⟩
  · have : l = [] := List.eq_nil_of_length_eq_zero (by omega)
    subst this
    exact .inl ⟨hv, rfl⟩
  · refine .inr ⟨g, cap, cur, by rw [hv]; simp [prs], hh, fun j hj => ?_⟩
    have hj' : j < l.length := by simpa [prs] using hj
    have e1 : ∀ i, i < l.length * 2 → cur[i]? = (flat36 l)[i]? := fun i hi => by
      rw [← htake, List.getElem?_take, if_pos (by omega), Array.getElem?_toList]
    obtain ⟨h0, h1⟩ := flat36_get l j hj'
    rw [e1 _ (by omega), e1 _ (by omega), h0, h1]
    simp [prs, List.getElem?_eq_getElem hj']
set_option maxRecDepth 100000 in
set_option maxHeartbeats 4000000 in
theorem Each_calls (k : Nat) (A0 : Option Addr) (c0 : Nat) (l0 : List S36) (r1 r2 : Int) (w : World) (hr0 : Kd.C k36 w A0 l0.length l0) (hc0 : l0.length ≤ c0) (hlen : r2 = 0 → l0.length ≤ 32768) (hC : span_Check.f k l0 = some (r1, r2)) :
    Calls Try.prog 27 #[.slice A0 l0.length c0] w fun e w' => ∃ sv, e = .returned (.func (.func 55) #[] #[.pointer (some ⟨w.heap.size, 0, none⟩)]) ∧ w.heap.size < w'.heap.size ∧
      w'.cell? ⟨w.heap.size, 0, none⟩ = some sv ∧ Ranges w' sv (if r2 = 0 then prs l0 else []) ∧ Below w.heap.size w w' := by
  have HR0 := Aside0.mk hr0
  have HC0 := Aside0.mk hc0
  have A2 := Aside0.mk hC
  clear hr0 hc0 hC
  have HB := Aside0.mk (Below.refl w.heap.size w)
  by_cases c3 : r2 = 0
  · have hl := hlen c3
    subst c3
    have g1 : (0 : Int) ≤ (l0.length : Int) := by omega
    have g2 : ((l0.length : Int)).toNat ≤ 17592186044416 := by omega
    go_enter Try.func27, Try.ntmps27
    go_wp2_with (first | ((with_reducible refine gate_callee (f := 51) rfl ?_); refine goesL_ (some 8) rfl rfl Try.func51 (by kernel_rfl) rfl #[.slice A0 l0.length c0] rfl (by (try simp only [List.map_toArray, List.map_cons, List.map_nil]); first | done | rfl | (simp only [List.length_drop, List.length_take]; rfl)) ?_; (with_reducible refine (span_Check.calls k _ _ l0 r1 0 _ ?side1 ?side2 A2.out).mono ?_); (case side1 => repeat (first | exact HR0.out | (with_reducible refine Kd.C_alloc ?_ _) | (with_reducible refine Kd.C_drewN ?_ _) | (with_reducible refine Kd.C_drew ?_))); (case side2 => exact HC0.out); rintro e w4 ⟨rfl, hb⟩; refine ⟨_, rfl, ?_⟩; have b4 : Boxed w4 w.heap.size 22 (.slice none 0 0) := (hb.block _ (by simp)).trans (World.alloc_heap_new w _); have HB4 := Aside0.mk (Below.trans ((Below.refl w.heap.size w).alloc (Nat.le_refl _) _) (hb.mono (by simp))); have hs4 := Aside0.mk b4.lt; clear hb) | ((with_reducible refine gate_dst (N := 15) rfl ?_); refine Kd.R_make k36 _ 36 rfl (N := 15) rfl 22 _ _ rfl (l0.length : Int) rfl rfl Try.underlying22 (.agg #[(.int .i64 0), (.int .i64 0)]) 16 info36 rfl (by decide) (by omega) z36 (ok := fun _ => True) (okp := fun _ => True) (k36_mkM _ _ _ z36) (fun _ hk => hk) trivial g1 (by omega) (Below.refl _ _) (Nat.le_refl _) ?_; intro v15 w19 ho hb hg_ hnew_; have hnew0 : ∃ b, (v15 : Value).ownBlock = some b := Exists.elim hnew_ (fun b h_ => ⟨b, h_.1⟩); clear hg_ hnew_; obtain ⟨A5, c5, hv5⟩ := Kd.R_slice ho; rw [show (List.replicate (l0.length : Int).toNat z36).length = l0.length from by simp] at hv5; subst hv5; have b5 : Boxed w19 w.heap.size 22 (.slice none 0 0) := (hb.block _ hs4.out).trans b4; have b6 := b5.set (.slice A5 l0.length c5); have HO5 := Aside0.mk (Kd.R_set ho b5 (by decide) 0 (.slice A5 l0.length c5)); have HB5 := Aside0.mk ((HB4.out.trans (hb.mono (Nat.le_of_lt hs4.out))).setCell (p := ⟨w.heap.size, 0, none⟩) (Nat.le_refl _) (.slice A5 l0.length c5)); have c5b := b5.cell; have f5b := b5.frozen; have c6b := b6.cell; have hs5 := Aside0.mk hb.size; clear hb ho) | ((with_reducible refine gate_builtin (b := .copy) (xs := #[.tmp 16, .tmp 17]) rfl ?_); refine R_copy36 (w0 := _) w4.heap.size rfl (.tmp 16) (.tmp 17) 22 22 rfl Try.underlying22 info36s _ (List.replicate ((l0.length : Int) : Int).toNat z36) l0 A0 c0 (fun _ => True) rfl rfl (by simp) hnew0 HO5.out ?aR (Below.refl _ _) ?aS ?_; (case aR => exact Kd.C_below HR0.out HB5.out); (case aS => simpa using hs5.out); intro wcp hcp hbcp))
    go_ret
    refine ⟨rfl, Nat.lt_of_lt_of_le b6.lt hbcp.size, _, (hbcp.cell hs4.out).trans c6b, ?_, HB5.out.trans (hbcp.mono (Nat.le_of_lt hs4.out))⟩
    exact ranges_of_R hcp
  · go_enter Try.func27, Try.ntmps27
    go_wp2_with (first | ((with_reducible refine gate_callee (f := 51) rfl ?_); refine goesL_ (some 8) rfl rfl Try.func51 (by kernel_rfl) rfl #[.slice A0 l0.length c0] rfl (by (try simp only [List.map_toArray, List.map_cons, List.map_nil]); first | done | rfl | (simp only [List.length_drop, List.length_take]; rfl)) ?_; (with_reducible refine (span_Check.calls k _ _ l0 r1 r2 _ ?side1 ?side2 A2.out).mono ?_); (case side1 => repeat (first | exact HR0.out | (with_reducible refine Kd.C_alloc ?_ _) | (with_reducible refine Kd.C_drewN ?_ _) | (with_reducible refine Kd.C_drew ?_))); (case side2 => exact HC0.out); rintro e w4 ⟨rfl, hb⟩; refine ⟨_, rfl, ?_⟩; have b4 : Boxed w4 w.heap.size 22 (.slice none 0 0) := (hb.block _ (by simp)).trans (World.alloc_heap_new w _); have HB4 := Aside0.mk (Below.trans ((Below.refl w.heap.size w).alloc (Nat.le_refl _) _) (hb.mono (by simp))); have hs4 := Aside0.mk b4.lt; clear hb))
    go_ret
    refine ⟨rfl, hs4.out, _, b4.cell, ?_, HB4.out⟩
    try rw [if_neg c3]
    exact .inl ⟨rfl, rfl⟩
end Go.Proofs.Ytmidiifgdloojaa.SpanEach
end
section
namespace Go.Proofs.Ytmidiifgdloojaa.Pr
open Go.RowKit Go.Proofs.YtmidiifgdloojaaW.PrintWords Go.Proofs.YtmidiifgdloojaaW.PrintLast Go.Proofs.YtmidiifgdloojaaW.PrintMore
attribute [local go_sem] max2_int min2_int max_two min_two max_three min_three max_four min_four
set_option linter.unusedVariables false
set_option linter.unusedSimpArgs false
def redraftlaw02_taken.f (l0 : List (S36)) (a1 : Int) : Option (List Int × Bool) := if a1 ≤ 300 then (span_Check.f (2 * l0.length + 1) l0).bind fun b => (if b.2 = 0 then (if l0.length ≤ 32768 ∧ (∀ r ∈ l0, 0 ≤ r.f0 ∧ r.f0 < r.f1 ∧ r.f1 ≤ 1048576) then some ((SpanEach.spans (SpanEach.prs l0)).take a1.toNat, true) else none) else some ([], true)) else none
theorem redraftlaw02_taken.info3 : (Try.prog.info? 3).map (fun i => (i.zero, i.size, i.bytes)) = some (some (.int .i64 0), 1, 8) := by kernel_rfl
theorem redraftlaw02_taken.eqlF (W : World) (f : Nat) (bl : Array Value) : (binOp .eql 43 (.func (.func f) #[] bl) .nilFunc).run Try.prog W = .ok (.bool false) W := by
 unfold binOp Op.equal
 obtain ⟨d, hd⟩ : ∃ d, Op.maxDepth = d + 1 := ⟨9999, rfl⟩
 rw [hd]
 simp [Op.equalIn, run_underlying Try.underlying43, go_sem]
attribute [local go_sem] redraftlaw02_taken.eqlF
attribute [local go_sem] Oper.semAt_some
theorem redraftlaw02_taken.R_of_row {W : World} {base : Nat} {v : Value} {xs : List Int} (h : W.ownsRow base 3 1 v xs.length (xs.map (Value.int .i64))) : Kd.R (Kd.int .i64) 3 W base (fun _ => True) v xs := by
 exact Kd.R_of_own (by simpa [encs] using h) (fun _ _ => trivial)
theorem redraftlaw02_taken.keeps {W w1 : World} {n₀ B k : Nat} {v v' : Value} {xs : List Value} {tmp : Obj} (hv : Boxed W B 23 v) (hrow : W.ownsRow n₀ 3 1 v k xs) (hgrow : (W.alloc tmp).grownBy w1 v.ownBlock) (hv1 : Boxed w1 B 23 v) : SpanEach.Keeps36 W (w1.setCell ⟨B, 0, none⟩ v') := by
 refine (SpanEach.Keeps36.grown (World.grownBy_alloc W tmp none) (by simp)).trans ((SpanEach.Keeps36.grown hgrow ?_).trans (SpanEach.Keeps36.grown (grownBy_setCell' w1 B v') ?_))
 ·intro r e c hh
  obtain ⟨cells, hc⟩ := own_typed (hrow.alloc tmp) r e
  rw [hc] at hh
  cases hh
 ·intro r e c hh
  cases e
  rw [show w1.heap[B]? = _ from hv1] at hh
  cases hh
set_option maxHeartbeats 8000000 in
set_option maxRecDepth 100000 in
theorem redraftlaw02_taken.go (A0 : Option Addr) (c0 : Nat) (l0 : List (S36)) (a1 : Int) (i1 i2 : Int) (w : World) (hr0 : Kd.C k36 w A0 l0.length l0) (hc0 : l0.length ≤ c0) (ha : a1 ≤ 300) (hC : span_Check.f (2 * l0.length + 1) l0 = some (i1, i2)) (zs : List (Int × Int)) (hz : SpanEach.Fine zs) (hzs : zs = if i2 = 0 then SpanEach.prs l0 else []) (hlen : i2 = 0 → l0.length ≤ 32768) :
  Calls Try.prog 42 #[.slice A0 l0.length c0, .int .i64 a1] w fun e w' => ∃ v0_ : Value, e = .returned (.tuple #[v0_, .bool true]) ∧ w'.ownsRow w.heap.size 3 1 v0_ ((SpanEach.spans zs).take a1.toNat).length (((SpanEach.spans zs).take a1.toNat).map (Value.int .i64)) ∧ Below w.heap.size w w' := by
 have HE := Aside0.mk (fun W (hb : Below w.heap.size w W) => SpanEach.Each_calls (2 * l0.length + 1) A0 c0 l0 i1 i2 W (Kd.C_below hr0 hb) hc0 hlen hC)
 rw [← hzs] at HE
 clear hr0 hc0 hC hzs hlen
 obtain ⟨i0, hi, hz0, hz1, hz2⟩ := info_parts redraftlaw02_taken.info3
 have hB0 : Below w.heap.size w ((w.alloc (.cells #[.int .i64 a1] 3)).alloc (.cells #[.slice none 0 0] 23)) := ((Below.refl _ w).alloc (Nat.le_refl _) _).alloc (by simp) _
 refine (callsIn_wide (n := 3)).1 ?_
 refine callsIn_of_wp_marks Try.func42 rfl trivial ?_ rfl
 simp only [Try.ntmps42, List.size_toArray, List.length_cons, List.length_nil, Nat.reduceAdd, Nat.reduceSub, Array.replicate_succ, Array.replicate_zero, List.push_toArray, List.append_toArray, List.nil_append, List.cons_append]
 by_cases h0 : a1 ≤ 0
 ·gi_wp2_with (refine ⟨trivial, ?_⟩; gi_at_call 27; refine (callsIn_wide.2 (HE.out _ hB0)).mono ?_; rintro e w5 ⟨sv, rfl, hlt5, hc5, hR5, hb5⟩; have b5 : Boxed w5 (w.heap.size + 1) 23 (.slice none 0 0) := (hb5.block _ (by simp)).trans (by have := World.alloc_heap_new (w.alloc (.cells #[.int .i64 a1] 3)) (.cells #[.slice none 0 0] 23); rwa [World.size_alloc] at this); have k5 : Boxed w5 w.heap.size 3 (.int .i64 a1) := (hb5.block _ (by simp; omega)).trans ((Boxed.new w 3 (.int .i64 a1)).alloc _); have b5c := b5.cell; have k5c := k5.cell; have HB5 := Aside0.mk (hB0.trans (hb5.mono hB0.size)))
  refine ⟨_, results_tmp2 rfl _ _ _, ?_⟩
  exact ⟨_, rfl, by rw [show a1.toNat = 0 from by omega]; exact World.ownsRow_nil _ _ _ _, HB5.out⟩
 ·gi_wp2_with (refine ⟨trivial, ?_⟩; gi_at_call 27; refine (callsIn_wide.2 (HE.out _ hB0)).mono ?_; rintro e w5 ⟨sv, rfl, hlt5, hc5, hR5, hb5⟩; have b5 : Boxed w5 (w.heap.size + 1) 23 (.slice none 0 0) := (hb5.block _ (by simp)).trans (by have := World.alloc_heap_new (w.alloc (.cells #[.int .i64 a1] 3)) (.cells #[.slice none 0 0] 23); rwa [World.size_alloc] at this); have k5 : Boxed w5 w.heap.size 3 (.int .i64 a1) := (hb5.block _ (by simp; omega)).trans ((Boxed.new w 3 (.int .i64 a1)).alloc _); have b5c := b5.cell; have k5c := k5.cell; have HB5 := Aside0.mk (hB0.trans (hb5.mono hB0.size)))
  have hs5 := HB5.out.size
  simp only [World.size_alloc] at hlt5
  refine wpIn_rangeFunc_ownG rfl (by omega) (gf := 55) (lb := #[.pointer (some ⟨w.heap.size + 1 + 1, 0, none⟩)]) rfl trivial (enters_of Try.func55 (by kernel_rfl) rfl)
   (SpanEach.each_stops Fence.wide 2 trivial rfl (by omega) (w.heap.size + 1 + 1) sv zs hz w5 hlt5 (by simpa using hc5) hR5) (fun h k => h.trans k) (fun W l o o' _ h hc _ => SpanEach.keeps36_b W l o o' h hc) (Below.refl _ _) (fun _ => rfl)
   (fun (pre : List Int) W => (∃ v, Boxed W (w.heap.size + 1) 23 v ∧ W.ownsRow (w.heap.size + 1) 3 1 v pre.length (pre.map (Value.int .i64)) ∧ (pre.length : Int) < a1) ∧ Below (w.heap.size + 1) w5 W)
   (fun c (pre : List Int) W => (∃ v, Boxed W (w.heap.size + 1) 23 v ∧ W.ownsRow (w.heap.size + 1) 3 1 v pre.length (pre.map (Value.int .i64)) ∧ (c = .exit 0 ∧ (pre.length : Int) = a1)) ∧ Below (w.heap.size + 1) w5 W)
   (OwnFrom.and (Own.from (holdsRow_own (w.heap.size + 1) (w.heap.size + 1) 23 3 1 (fun (pre : List Int) => pre.length) (fun pre => pre.map (Value.int .i64)) (fun pre v => (pre.length : Int) < a1)) _) (ownFrom_below (by omega) (by omega)))
   (fun c => OwnFrom.and (Own.from (holdsRow_own (w.heap.size + 1) (w.heap.size + 1) 23 3 1 (fun (pre : List Int) => pre.length) (fun pre => pre.map (Value.int .i64)) (fun pre v => c = .exit 0 ∧ (pre.length : Int) = a1)) _) (ownFrom_below (by omega) (by omega)))
   ⟨⟨_, b5, World.ownsRow_nil _ _ _ _, by simp; omega⟩, Below.refl _ _⟩
   (fun x => { tmps := #[.slice A0 l0.length c0, .int .i64 a1, undef, .pointer (some ⟨w.heap.size, 0, none⟩), .slice none 0 0, .bool false, .pointer (some ⟨w.heap.size + 1, 0, none⟩), .func (.func 55) #[] #[.pointer (some ⟨w.heap.size + 1 + 1, 0, none⟩)], .int .i64 x, .slice A0 l0.length c0, .func (.func 55) #[] #[.pointer (some ⟨w.heap.size + 1 + 1, 0, none⟩)], .func (.func 55) #[] #[.pointer (some ⟨w.heap.size + 1 + 1, 0, none⟩)], .bool false, undef, .int .i64 a1, .bool (decide (a1 ≤ 0)), undef, .func (.func 55) #[] #[.pointer (some ⟨w.heap.size + 1 + 1, 0, none⟩)], .int .i64 x, undef, undef, undef, undef, undef, undef, undef, undef, undef], defers := [] }) ?assign ?body ?done ?stop
  case assign =>
   intro l x W K hK
   gi_wp2
   exact hK
  case body =>
   rintro l pre x W ⟨⟨v, hv, hrow, hlt⟩, hB⟩ hlen
   have hc := hv.cell
   have hBs := hB.size
   gi_wp2_with (gi_at_builtin; refine wpListIn_append_own _ rfl _ _ 23 rfl (w.heap.size + 1) 3 i0 (.int .i64 0) 1 8 Try.underlying23 hi hz0 hz1 hz2 rfl (by decide) _ _ _ rfl (hrow.alloc _) ⟨W.heap.size, 0, none⟩ 1 1 [.int .i64 x] rfl rfl (cell_one_new _ _ _) (by simp [Value.oneCell']) (by simp [maxLen]; omega) (by omega) (by simp; omega) ?_; intro v' w1 hown' hgrow _; obtain ⟨g', cap', rfl⟩ := ownsRow_succ hown'; obtain ⟨hv1, hv2, hr2, hk2, hb2⟩ := hv.appended (by decide) hrow (by omega) (Nat.le_refl _) hown' hgrow; have hkp := redraftlaw02_taken.keeps (v' := .slice (some ⟨g', 0, none⟩) (pre.length + 1) cap') hv hrow hgrow hv1; have hc1 := hv1.cell; have hf1 := hv1.frozen; have hc2 := hv2.cell; have hk2c := ((hB.trans hb2).cell (p := ⟨w.heap.size, 0, none⟩) (by simp)).trans k5c)
   ·exact ⟨hk2.from _, ⟨_, hv2, by simpa using hr2, rfl, by simp only [List.length_append, List.length_cons, List.length_nil]; omega⟩, hB.trans hb2⟩
   ·exact ⟨hk2.from _, hkp, ⟨_, hv2, by simpa using hr2, by simp only [List.length_append, List.length_cons, List.length_nil]; omega⟩, hB.trans hb2⟩
  case done =>
   rintro D ys W hD rfl ⟨⟨v, hv, hrow, hlt⟩, hB⟩ hK
   have hc := hv.cell
   gi_wp2
   refine ⟨by simp, .inl ⟨_, _, rfl, run_takeDeferred hK, ?_⟩⟩
   refine ⟨_, results_tmp2 rfl _ _ _, v, rfl, ?_, HB5.out.trans ((hB.trans (belowK_b (w := w5) (n₀ := w.heap.size + 1) (by omega) W D _ _ hD hK rfl rfl)).mono (by omega))⟩
   rw [List.take_of_length_le (by omega : (SpanEach.spans zs).length ≤ a1.toNat)]
   exact own_weaken (ownsRow_putObj hrow _ hK rfl) (by omega)
  case stop =>
   rintro D c pre W hD hpre ⟨⟨v, hv, hrow, rfl, hl⟩, hB⟩ hK
   have hc := hv.cell
   gi_wp2
   refine ⟨by simp, .inl ⟨_, _, rfl, run_takeDeferred hK, ?_⟩⟩
   refine ⟨_, results_tmp2 rfl _ _ _, v, rfl, ?_, HB5.out.trans ((hB.trans (belowK_b (w := w5) (n₀ := w.heap.size + 1) (by omega) W D _ _ hD hK rfl rfl)).mono (by omega))⟩
   rw [show (SpanEach.spans zs).take a1.toNat = pre from by rw [List.prefix_iff_eq_take.1 hpre, show a1.toNat = pre.length from by omega]]
   exact own_weaken (ownsRow_putObj hrow _ hK rfl) (by omega)
theorem redraftlaw02_taken.calls (A0 : Option Addr) (c0 : Nat) (l0 : List (S36)) (a1 : Int) (r1 : List Int) (r2 : Bool) (w : World) (hr0 : Kd.C k36 w A0 l0.length l0) (hc0 : l0.length ≤ c0) (h : redraftlaw02_taken.f l0 a1 = some (r1, r2)) :
  Calls Try.prog 42 #[.slice A0 l0.length c0, .int .i64 a1] w fun e w' => ∃ v0_ : Value, e = .returned (.tuple #[v0_, .bool r2]) ∧ Kd.R (Kd.int .i64) 3 w' w.heap.size (fun _ => True) v0_ r1 ∧ Below w.heap.size w w' := by
 have H := h
 unfold redraftlaw02_taken.f at H
 clear h
 split at H
 ·rename_i ha
  cases hC : span_Check.f (2 * l0.length + 1) l0 with
  | none => rw [hC] at H; simp at H
  | some b =>
   obtain ⟨i1, i2⟩ := b
   rw [hC] at H
   simp only [Option.bind_some] at H
   have fin : ∀ zs : List (Int × Int), SpanEach.Fine zs → (zs = if i2 = 0 then SpanEach.prs l0 else []) → (i2 = 0 → l0.length ≤ 32768) → ((SpanEach.spans zs).take a1.toNat, true) = (r1, r2) → Calls Try.prog 42 #[.slice A0 l0.length c0, .int .i64 a1] w fun e w' => ∃ v0_ : Value, e = .returned (.tuple #[v0_, .bool r2]) ∧ Kd.R (Kd.int .i64) 3 w' w.heap.size (fun _ => True) v0_ r1 ∧ Below w.heap.size w w' := by
    intro zs h1 h2 h3 h4
    injection h4 with h4 h5
    subst h4 h5
    refine (redraftlaw02_taken.go A0 c0 l0 a1 i1 i2 w hr0 hc0 ha hC zs h1 h2 h3).mono ?_
    rintro e w' ⟨v, rfl, ho, hb⟩
    exact ⟨v, rfl, redraftlaw02_taken.R_of_row ho, hb⟩
   split at H
   ·rename_i hi
    split at H
    ·rename_i hg
     injection H with H
     refine fin (SpanEach.prs l0) ⟨by simpa [SpanEach.prs] using hg.1, fun k hk => ?_⟩ (by rw [if_pos hi]) (fun _ => hg.1) H
     have hk' : k < l0.length := by simpa [SpanEach.prs] using hk
     have := hg.2 l0[k] (List.getElem_mem hk')
     simpa [SpanEach.prs, List.getElem?_eq_getElem hk'] using this
    ·cases H
   ·rename_i hi
    injection H with H
    refine fin [] ⟨by simp, fun k hk => by simp at hk⟩ (by rw [if_neg hi]) (fun h => absurd h hi) ?_
    rw [← H]
    simp [SpanEach.spans]
 ·cases H
end Go.Proofs.Ytmidiifgdloojaa.Pr
end
section
namespace Go.Proofs.Ytmidiifgdloojaa.Pr
open Go.RowKit Go.Proofs.YtmidiifgdloojaaW.PrintWords Go.Proofs.YtmidiifgdloojaaW.PrintLast Go.Proofs.YtmidiifgdloojaaW.PrintMore
attribute [local go_sem] max2_int min2_int max_two min_two max_three min_three max_four min_four
set_option linter.unusedVariables false
set_option linter.unusedSimpArgs false
mutual
def redraftlaw02_gives.j0 : Nat → List Int → List Int → Bool → Option (Bool)
 | 0, _, _, _ => none
 | k + 1, x4, x6, x32 => if x32 = true then (some false) else (redraftlaw02_gives.l0 k x4 x6 0)
def redraftlaw02_gives.l0 : Nat → List Int → List Int → Int → Option (Bool)
 | 0, _, _, _ => none
 | k + 1, x4, x6, x7 => if x7 < (x4.length : Int) then (if 0 ≤ x7 then (if x7 < (x6.length : Int) then (if (rd x4 x7) = (rd x6 x7) then (redraftlaw02_gives.l0 k x4 x6 (wrap64 (x7 + 1))) else (some false)) else (none)) else (none)) else (some true)
end
def redraftlaw02_gives.f (k : Nat) (a0_0 : Int) (l0_1 : List (S36)) (l0_2 : List (S36)) (a0_3 : Int) (a0_4 : Int) : Option (Bool) := (redraftlaw02_copied.f l0_1).bind fun t1132 => ((redraftlaw02_taken.f t1132 (mn (mx a0_3 0) 300)).bind fun bt1135 => ((redraftref02_First.f k l0_1 (mn (mx a0_3 0) 300)).bind fun t1139 => (if bt1135.2 = true then (redraftlaw02_gives.j0 k bt1135.1 t1139 ((bt1135.1.length : Int) != (t1139.length : Int))) else (redraftlaw02_gives.j0 k bt1135.1 t1139 true))))
theorem redraftlaw02_gives.mono_l : ∀ k, (∀ y0 y1 y2, LeO (redraftlaw02_gives.j0 k y0 y1 y2) (redraftlaw02_gives.j0 (k + 1) y0 y1 y2)) ∧ (∀ y0 y1 y2, LeO (redraftlaw02_gives.l0 k y0 y1 y2) (redraftlaw02_gives.l0 (k + 1) y0 y1 y2))
 | 0 => ⟨fun _ _ _ r h => by simp [redraftlaw02_gives.j0] at h, fun _ _ _ r h => by simp [redraftlaw02_gives.l0] at h⟩
 | k + 1 => by
  obtain ⟨ih0, ih1⟩ := redraftlaw02_gives.mono_l k
  refine ⟨?_, ?_⟩
  ·intro y0 y1 y2
   unfold redraftlaw02_gives.j0
   repeat' first
   | (with_reducible exact ih0 _ _ _)
   | (with_reducible exact ih1 _ _ _)
   | (with_reducible exact redraftref02_First.mono _ _ _)
   | (with_reducible exact LeO.refl _)
   | (with_reducible exact LeO.none _)
   | (with_reducible refine LeO.ite ?_ ?_)
   | (with_reducible refine LeO.bind ?_ (fun _ => ?_))
   | exact ih0 _ _ _
   | exact ih1 _ _ _
   | exact redraftref02_First.mono _ _ _
   | exact LeO.none _
   | refine LeO.ite ?_ ?_
   | refine LeO.bind ?_ (fun _ => ?_)
  ·intro y0 y1 y2
   unfold redraftlaw02_gives.l0
   repeat' first
   | (with_reducible exact ih0 _ _ _)
   | (with_reducible exact ih1 _ _ _)
   | (with_reducible exact redraftref02_First.mono _ _ _)
   | (with_reducible exact LeO.refl _)
   | (with_reducible exact LeO.none _)
   | (with_reducible refine LeO.ite ?_ ?_)
   | (with_reducible refine LeO.bind ?_ (fun _ => ?_))
   | exact ih0 _ _ _
   | exact ih1 _ _ _
   | exact redraftref02_First.mono _ _ _
   | exact LeO.none _
   | refine LeO.ite ?_ ?_
   | refine LeO.bind ?_ (fun _ => ?_)
theorem redraftlaw02_gives.mono : ∀ a0 a1 a2 a3 a4 k, LeO (redraftlaw02_gives.f k a0 a1 a2 a3 a4) (redraftlaw02_gives.f (k + 1) a0 a1 a2 a3 a4) := by
 intro a0 a1 a2 a3 a4 k
 obtain ⟨ih0, ih1⟩ := redraftlaw02_gives.mono_l k
 unfold redraftlaw02_gives.f
 repeat' first
   | (with_reducible exact ih0 _ _ _)
   | (with_reducible exact ih1 _ _ _)
   | (with_reducible exact redraftref02_First.mono _ _ _)
   | (with_reducible exact LeO.refl _)
   | (with_reducible exact LeO.none _)
   | (with_reducible refine LeO.ite ?_ ?_)
   | (with_reducible refine LeO.bind ?_ (fun _ => ?_))
   | exact ih0 _ _ _
   | exact ih1 _ _ _
   | exact redraftref02_First.mono _ _ _
   | exact LeO.none _
   | refine LeO.ite ?_ ?_
   | refine LeO.bind ?_ (fun _ => ?_)
set_option maxHeartbeats 8000000 in
set_option maxRecDepth 100000 in
theorem redraftlaw02_gives.calls (k : Nat) (a0_0 : Int) (A0_1 : Option Addr) (c0_1 : Nat) (l0_1 : List (S36)) (A0_2 : Option Addr) (c0_2 : Nat) (l0_2 : List (S36)) (a0_3 : Int) (a0_4 : Int) (r : Bool) (w : World) (hr0_1 : Kd.C k36 w A0_1 l0_1.length l0_1) (hc0_1 : l0_1.length ≤ c0_1) (hr0_2 : Kd.C k36 w A0_2 l0_2.length l0_2) (hc0_2 : l0_2.length ≤ c0_2) (h : redraftlaw02_gives.f k a0_0 l0_1 l0_2 a0_3 a0_4 = some r) :
  Calls Try.prog 64 #[.agg #[.int .i64 a0_0, .slice A0_1 l0_1.length c0_1, .slice A0_2 l0_2.length c0_2, .int .i64 a0_3, .int .i64 a0_4]] w fun e w' => e = .returned (.bool r) ∧ Below w.heap.size w w' := by
 have hu76 := Try.underlying76
 have HR0_1 := Aside0.mk hr0_1
 have HC0_1 := Aside0.mk hc0_1
 clear hr0_1 hc0_1
 have HR0_2 := Aside0.mk hr0_2
 have HC0_2 := Aside0.mk hc0_2
 clear hr0_2 hc0_2
 have HB := Aside0.mk (Below.refl w.heap.size w)
 have H : ((redraftlaw02_copied.f l0_1).bind fun t1132 => ((redraftlaw02_taken.f t1132 (mn (mx a0_3 0) 300)).bind fun bt1135 => ((redraftref02_First.f k l0_1 (mn (mx a0_3 0) 300)).bind fun t1139 => (if bt1135.2 = true then (redraftlaw02_gives.j0 k bt1135.1 t1139 ((bt1135.1.length : Int) != (t1139.length : Int))) else (redraftlaw02_gives.j0 k bt1135.1 t1139 true))))) = some r := h
 clear h
 obtain ⟨ji2, hji2⟩ : ∃ j_ : Int, (mx a0_3 0) = j_ := ⟨_, rfl⟩
 replace H : ((redraftlaw02_copied.f l0_1).bind fun t1132 => ((redraftlaw02_taken.f t1132 (mn (ji2) 300)).bind fun bt1135 => ((redraftref02_First.f k l0_1 (mn (ji2) 300)).bind fun t1139 => (if bt1135.2 = true then (redraftlaw02_gives.j0 k bt1135.1 t1139 ((bt1135.1.length : Int) != (t1139.length : Int))) else (redraftlaw02_gives.j0 k bt1135.1 t1139 true))))) = some r := by first | (rw [hji2] at H; exact H) | (simp only [hji2] at H ⊢; exact H)
 (try (have hji2l : 0 ≤ ji2 := by (rw [← hji2]; unfold mx; (repeat' split) <;> omega)))
 (try (have hji2m : 0 ≤ ji2 := by omega))
 have hji2_ : (if a0_3 < 0 then 0 else a0_3) = ji2 := hji2
 obtain ⟨ji3, hji3⟩ : ∃ j_ : Int, (mn (ji2) 300) = j_ := ⟨_, rfl⟩
 replace H : ((redraftlaw02_copied.f l0_1).bind fun t1132 => ((redraftlaw02_taken.f t1132 (ji3)).bind fun bt1135 => ((redraftref02_First.f k l0_1 (ji3)).bind fun t1139 => (if bt1135.2 = true then (redraftlaw02_gives.j0 k bt1135.1 t1139 ((bt1135.1.length : Int) != (t1139.length : Int))) else (redraftlaw02_gives.j0 k bt1135.1 t1139 true))))) = some r := by first | (rw [hji3] at H; exact H) | (simp only [hji3] at H ⊢; exact H)
 have hji3_ : (if 300 < (ji2) then 300 else (ji2)) = ji3 := hji3
 replace H := Option.bind_eq_some_iff.mp H
 obtain ⟨t1132, A40, H⟩ := H
 replace H : ((redraftlaw02_taken.f t1132 (ji3)).bind fun bt1135 => ((redraftref02_First.f k l0_1 (ji3)).bind fun t1139 => (if bt1135.2 = true then (redraftlaw02_gives.j0 k bt1135.1 t1139 ((bt1135.1.length : Int) != (t1139.length : Int))) else (redraftlaw02_gives.j0 k bt1135.1 t1139 true)))) = some r := H
 have A4 := Aside0.mk A40
 clear A40
 replace H := Option.bind_eq_some_iff.mp H
 obtain ⟨⟨t1135, t1136⟩, A50, H⟩ := H
 replace H : ((redraftref02_First.f k l0_1 (ji3)).bind fun t1139 => (if t1136 = true then (redraftlaw02_gives.j0 k t1135 t1139 ((t1135.length : Int) != (t1139.length : Int))) else (redraftlaw02_gives.j0 k t1135 t1139 true))) = some r := H
 have A5 := Aside0.mk A50
 clear A50
 replace H := Option.bind_eq_some_iff.mp H
 obtain ⟨t1139, A60, H⟩ := H
 replace H : (if t1136 = true then (redraftlaw02_gives.j0 k t1135 t1139 ((t1135.length : Int) != (t1139.length : Int))) else (redraftlaw02_gives.j0 k t1135 t1139 true)) = some r := H
 have A6 := Aside0.mk A60
 clear A60
 have HC7 := Aside0.mk H
 clear H
 go_enter Try.func64, Try.ntmps64
 go_upto_region 4 with (first | ((with_reducible refine gate_dst (N := 1) rfl ?_); (try (refine gate_guard (by rfl) ?_; dsimp only)); refine box_event ?hg (N := 1) ?hd (cs := #[.int .i64 a0_0, .slice A0_1 l0_1.length c0_1, .slice A0_2 l0_2.length c0_2, .int .i64 a0_3, .int .i64 a0_4]) (t := 76) ?hr ?_; (case hd => rfl); (case hg => rfl); (case hr => first | (go_simp; done) | (go_simp; rfl)); intro gb1131 hg w8 hbox hb; have n0_ := Aside0.mk (below_step (by repeat (first | (with_reducible first | exact HB.out | apply below_alloc | apply pw_below_drewN | apply below_drew1) | exact HB.out)) hb); have n1_ := Aside0.mk (hbox); have n2_ := Aside0.mk ((by rw [hg]; exact (below_size (by repeat (first | (with_reducible first | exact HB.out | apply below_alloc | apply pw_below_drewN | apply below_drew1) | exact HB.out))) : w.heap.size ≤ gb1131)); have n3_ := Aside0.mk ((by rw [hg]; exact (below_size (by repeat (first | (with_reducible first | exact HB.out | apply below_alloc | apply pw_below_drewN | apply below_drew1) | exact HB.out))) : w.heap.size ≤ gb1131)); clear HB; have HB := n0_; have BK1131 := n1_; have GW1131 := n2_; have GE1131 := n3_; clear n0_ n1_ n2_ n3_; clear hb hbox hg; have hcz9_0 : w8.cell? ⟨gb1131, 0, none⟩ = some (.int .i64 a0_0) := (blk_cell BK1131.out 0).trans rfl; have hcz9_1 : w8.cell? ⟨gb1131, 1, none⟩ = some (.slice A0_1 l0_1.length c0_1) := (blk_cell BK1131.out 1).trans rfl; have hcz9_2 : w8.cell? ⟨gb1131, 2, none⟩ = some (.slice A0_2 l0_2.length c0_2) := (blk_cell BK1131.out 2).trans rfl; have hcz9_3 : w8.cell? ⟨gb1131, 3, none⟩ = some (.int .i64 a0_3) := (blk_cell BK1131.out 3).trans rfl; have hcz9_4 : w8.cell? ⟨gb1131, 4, none⟩ = some (.int .i64 a0_4) := (blk_cell BK1131.out 4).trans rfl; have hfz9_0 := blk_frozen BK1131.out 0; have hfz9_1 := blk_frozen BK1131.out 1; have hfz9_2 := blk_frozen BK1131.out 2; have hfz9_3 := blk_frozen BK1131.out 3; have hfz9_4 := blk_frozen BK1131.out 4) | (go_at_call 17; (with_reducible refine (redraftlaw02_copied.calls _ _ l0_1 t1132 _ ?side1 ?side2 A4.out).mono ?_); (case side1 => repeat (first | exact (Kd.C_below HR0_1.out HB.out) | (with_reducible refine Kd.C_alloc ?_ _) | (with_reducible refine Kd.C_drewN ?_ _) | (with_reducible refine Kd.C_drew ?_))); (case side2 => exact HC0_1.out); rintro e w10 ⟨v1133, rfl, ho0, hb⟩; have n0_ := Aside0.mk (Kd.R_lower ho0 (below_size (by repeat (first | (with_reducible first | exact HB.out | apply below_alloc | apply pw_below_drewN | apply below_drew1 | refine below_set ?_ GE1131.out) | exact HB.out)))); have n1_ := Aside0.mk (blk_below (g := gb1131) (o := .cells #[.int .i64 a0_0, .slice A0_1 l0_1.length c0_1, .slice A0_2 l0_2.length c0_2, .int .i64 a0_3, .int .i64 a0_4] 76 (0, 0)) (by (with_reducible repeat (first | refine blk_drewN ?_ _ | refine blk_drew ?_ | refine blk_alloc ?_ _)); exact BK1131.out) hb); have n2_ := Aside0.mk (below_step (by repeat (first | (with_reducible first | exact HB.out | apply below_alloc | apply pw_below_drewN | apply below_drew1 | refine below_set ?_ GE1131.out) | exact HB.out)) hb); clear BK1131; clear HB; have HO1134 := n0_; have BK1131 := n1_; have HB := n2_; clear n0_ n1_ n2_; (try clear hb); (try clear hb2); (try clear hk); (try clear hi); (try clear ho0); obtain ⟨Ao11, co11, eo11⟩ := Kd.R_slice HO1134.out; subst eo11) | (go_at_call 42; (with_reducible refine (redraftlaw02_taken.calls _ _ t1132 ji3 t1135 t1136 _ ?side1 ?side2 A5.out).mono ?_); (case side1 => repeat (first | exact (Kd.R_reads' HO1134.out).2.2 | (with_reducible refine Kd.C_alloc ?_ _) | (with_reducible refine Kd.C_drewN ?_ _) | (with_reducible refine Kd.C_drew ?_))); (case side2 => exact (Kd.R_reads' HO1134.out).2.1); rintro e w12 ⟨v1137, rfl, ho0, hb⟩; have n0_ := Aside0.mk (Kd.R_below (by (with_reducible repeat (first | apply Kd.R_alloc | apply Kd.R_drewN | apply Kd.R_drew)); exact HO1134.out) hb); have n1_ := Aside0.mk (Kd.R_lower ho0 (below_size (by repeat (first | (with_reducible first | exact HB.out | apply below_alloc | apply pw_below_drewN | apply below_drew1 | refine below_set ?_ GE1131.out) | exact HB.out)))); have n2_ := Aside0.mk (blk_below (g := gb1131) (o := .cells #[.int .i64 a0_0, .slice A0_1 l0_1.length c0_1, .slice A0_2 l0_2.length c0_2, .int .i64 a0_3, .int .i64 a0_4] 76 (0, 0)) (by (with_reducible repeat (first | refine blk_drewN ?_ _ | refine blk_drew ?_ | refine blk_alloc ?_ _)); exact BK1131.out) hb); have n3_ := Aside0.mk (below_step (by repeat (first | (with_reducible first | exact HB.out | apply below_alloc | apply pw_below_drewN | apply below_drew1 | refine below_set ?_ GE1131.out) | exact HB.out)) hb); clear HO1134; clear BK1131; clear HB; have HO1134 := n0_; have HO1138 := n1_; have BK1131 := n2_; have HB := n3_; clear n0_ n1_ n2_ n3_; (try clear hb); (try clear hb2); (try clear hk); (try clear hi); (try clear ho0); have hcz13_0 : w12.cell? ⟨gb1131, 0, none⟩ = some (.int .i64 a0_0) := (blk_cell BK1131.out 0).trans rfl; have hcz13_1 : w12.cell? ⟨gb1131, 1, none⟩ = some (.slice A0_1 l0_1.length c0_1) := (blk_cell BK1131.out 1).trans rfl; have hcz13_2 : w12.cell? ⟨gb1131, 2, none⟩ = some (.slice A0_2 l0_2.length c0_2) := (blk_cell BK1131.out 2).trans rfl; have hcz13_3 : w12.cell? ⟨gb1131, 3, none⟩ = some (.int .i64 a0_3) := (blk_cell BK1131.out 3).trans rfl; have hcz13_4 : w12.cell? ⟨gb1131, 4, none⟩ = some (.int .i64 a0_4) := (blk_cell BK1131.out 4).trans rfl; have hfz13_0 := blk_frozen BK1131.out 0; have hfz13_1 := blk_frozen BK1131.out 1; have hfz13_2 := blk_frozen BK1131.out 2; have hfz13_3 := blk_frozen BK1131.out 3; have hfz13_4 := blk_frozen BK1131.out 4) | (go_at_call 26; (with_reducible refine (redraftref02_First.calls k _ _ l0_1 ji3 t1139 _ ?side1 ?side2 A6.out).mono ?_); (case side1 => repeat (first | exact (Kd.C_below HR0_1.out HB.out) | (with_reducible refine Kd.C_alloc ?_ _) | (with_reducible refine Kd.C_drewN ?_ _) | (with_reducible refine Kd.C_drew ?_))); (case side2 => exact HC0_1.out); rintro e w14 ⟨v1140, rfl, ho0, hb⟩; have n0_ := Aside0.mk (Kd.R_below (by (with_reducible repeat (first | apply Kd.R_alloc | apply Kd.R_drewN | apply Kd.R_drew)); exact HO1134.out) hb); have n1_ := Aside0.mk (Kd.R_elder' (by (with_reducible repeat (first | apply Kd.R_alloc | apply Kd.R_drewN | apply Kd.R_drew)); exact HO1138.out) (Kd.R_base ho0) hb); have n2_ := Aside0.mk (Kd.R_lower (Kd.R_new' ho0 (Kd.R_lt (by (with_reducible repeat (first | apply Kd.R_alloc | apply Kd.R_drewN | apply Kd.R_drew)); exact HO1138.out))) (below_size (by repeat (first | (with_reducible first | exact HB.out | apply below_alloc | apply pw_below_drewN | apply below_drew1 | refine below_set ?_ GE1131.out) | exact HB.out)))); have n3_ := Aside0.mk (blk_below (g := gb1131) (o := .cells #[.int .i64 a0_0, .slice A0_1 l0_1.length c0_1, .slice A0_2 l0_2.length c0_2, .int .i64 a0_3, .int .i64 a0_4] 76 (0, 0)) (by (with_reducible repeat (first | refine blk_drewN ?_ _ | refine blk_drew ?_ | refine blk_alloc ?_ _)); exact BK1131.out) hb); have n4_ := Aside0.mk (below_step (by repeat (first | (with_reducible first | exact HB.out | apply below_alloc | apply pw_below_drewN | apply below_drew1 | refine below_set ?_ GE1131.out) | exact HB.out)) hb); clear HO1134; clear HO1138; clear BK1131; clear HB; have HO1134 := n0_; have HO1138 := n1_; have HO1141 := n2_; have BK1131 := n3_; have HB := n4_; clear n0_ n1_ n2_ n3_ n4_; (try clear hb); (try clear hb2); (try clear hk); (try clear hi); (try clear ho0)))
 repeat (go_quiet (first | ((with_reducible refine gate_dst (N := 1) rfl ?_); (try (refine gate_guard (by rfl) ?_; dsimp only)); refine box_event ?hg (N := 1) ?hd (cs := #[.int .i64 a0_0, .slice A0_1 l0_1.length c0_1, .slice A0_2 l0_2.length c0_2, .int .i64 a0_3, .int .i64 a0_4]) (t := 76) ?hr ?_; (case hd => rfl); (case hg => rfl); (case hr => first | (go_simp; done) | (go_simp; rfl)); intro gb1131 hg w8 hbox hb; have n0_ := Aside0.mk (below_step (by repeat (first | (with_reducible first | exact HB.out | apply below_alloc | apply pw_below_drewN | apply below_drew1) | exact HB.out)) hb); have n1_ := Aside0.mk (hbox); have n2_ := Aside0.mk ((by rw [hg]; exact (below_size (by repeat (first | (with_reducible first | exact HB.out | apply below_alloc | apply pw_below_drewN | apply below_drew1) | exact HB.out))) : w.heap.size ≤ gb1131)); have n3_ := Aside0.mk ((by rw [hg]; exact (below_size (by repeat (first | (with_reducible first | exact HB.out | apply below_alloc | apply pw_below_drewN | apply below_drew1) | exact HB.out))) : w.heap.size ≤ gb1131)); clear HB; have HB := n0_; have BK1131 := n1_; have GW1131 := n2_; have GE1131 := n3_; clear n0_ n1_ n2_ n3_; clear hb hbox hg; have hcz9_0 : w8.cell? ⟨gb1131, 0, none⟩ = some (.int .i64 a0_0) := (blk_cell BK1131.out 0).trans rfl; have hcz9_1 : w8.cell? ⟨gb1131, 1, none⟩ = some (.slice A0_1 l0_1.length c0_1) := (blk_cell BK1131.out 1).trans rfl; have hcz9_2 : w8.cell? ⟨gb1131, 2, none⟩ = some (.slice A0_2 l0_2.length c0_2) := (blk_cell BK1131.out 2).trans rfl; have hcz9_3 : w8.cell? ⟨gb1131, 3, none⟩ = some (.int .i64 a0_3) := (blk_cell BK1131.out 3).trans rfl; have hcz9_4 : w8.cell? ⟨gb1131, 4, none⟩ = some (.int .i64 a0_4) := (blk_cell BK1131.out 4).trans rfl; have hfz9_0 := blk_frozen BK1131.out 0; have hfz9_1 := blk_frozen BK1131.out 1; have hfz9_2 := blk_frozen BK1131.out 2; have hfz9_3 := blk_frozen BK1131.out 3; have hfz9_4 := blk_frozen BK1131.out 4) | (go_at_call 17; (with_reducible refine (redraftlaw02_copied.calls _ _ l0_1 t1132 _ ?side1 ?side2 A4.out).mono ?_); (case side1 => repeat (first | exact (Kd.C_below HR0_1.out HB.out) | (with_reducible refine Kd.C_alloc ?_ _) | (with_reducible refine Kd.C_drewN ?_ _) | (with_reducible refine Kd.C_drew ?_))); (case side2 => exact HC0_1.out); rintro e w10 ⟨v1133, rfl, ho0, hb⟩; have n0_ := Aside0.mk (Kd.R_lower ho0 (below_size (by repeat (first | (with_reducible first | exact HB.out | apply below_alloc | apply pw_below_drewN | apply below_drew1 | refine below_set ?_ GE1131.out) | exact HB.out)))); have n1_ := Aside0.mk (blk_below (g := gb1131) (o := .cells #[.int .i64 a0_0, .slice A0_1 l0_1.length c0_1, .slice A0_2 l0_2.length c0_2, .int .i64 a0_3, .int .i64 a0_4] 76 (0, 0)) (by (with_reducible repeat (first | refine blk_drewN ?_ _ | refine blk_drew ?_ | refine blk_alloc ?_ _)); exact BK1131.out) hb); have n2_ := Aside0.mk (below_step (by repeat (first | (with_reducible first | exact HB.out | apply below_alloc | apply pw_below_drewN | apply below_drew1 | refine below_set ?_ GE1131.out) | exact HB.out)) hb); clear BK1131; clear HB; have HO1134 := n0_; have BK1131 := n1_; have HB := n2_; clear n0_ n1_ n2_; (try clear hb); (try clear hb2); (try clear hk); (try clear hi); (try clear ho0); obtain ⟨Ao11, co11, eo11⟩ := Kd.R_slice HO1134.out; subst eo11) | (go_at_call 42; (with_reducible refine (redraftlaw02_taken.calls _ _ t1132 ji3 t1135 t1136 _ ?side1 ?side2 A5.out).mono ?_); (case side1 => repeat (first | exact (Kd.R_reads' HO1134.out).2.2 | (with_reducible refine Kd.C_alloc ?_ _) | (with_reducible refine Kd.C_drewN ?_ _) | (with_reducible refine Kd.C_drew ?_))); (case side2 => exact (Kd.R_reads' HO1134.out).2.1); rintro e w12 ⟨v1137, rfl, ho0, hb⟩; have n0_ := Aside0.mk (Kd.R_below (by (with_reducible repeat (first | apply Kd.R_alloc | apply Kd.R_drewN | apply Kd.R_drew)); exact HO1134.out) hb); have n1_ := Aside0.mk (Kd.R_lower ho0 (below_size (by repeat (first | (with_reducible first | exact HB.out | apply below_alloc | apply pw_below_drewN | apply below_drew1 | refine below_set ?_ GE1131.out) | exact HB.out)))); have n2_ := Aside0.mk (blk_below (g := gb1131) (o := .cells #[.int .i64 a0_0, .slice A0_1 l0_1.length c0_1, .slice A0_2 l0_2.length c0_2, .int .i64 a0_3, .int .i64 a0_4] 76 (0, 0)) (by (with_reducible repeat (first | refine blk_drewN ?_ _ | refine blk_drew ?_ | refine blk_alloc ?_ _)); exact BK1131.out) hb); have n3_ := Aside0.mk (below_step (by repeat (first | (with_reducible first | exact HB.out | apply below_alloc | apply pw_below_drewN | apply below_drew1 | refine below_set ?_ GE1131.out) | exact HB.out)) hb); clear HO1134; clear BK1131; clear HB; have HO1134 := n0_; have HO1138 := n1_; have BK1131 := n2_; have HB := n3_; clear n0_ n1_ n2_ n3_; (try clear hb); (try clear hb2); (try clear hk); (try clear hi); (try clear ho0); have hcz13_0 : w12.cell? ⟨gb1131, 0, none⟩ = some (.int .i64 a0_0) := (blk_cell BK1131.out 0).trans rfl; have hcz13_1 : w12.cell? ⟨gb1131, 1, none⟩ = some (.slice A0_1 l0_1.length c0_1) := (blk_cell BK1131.out 1).trans rfl; have hcz13_2 : w12.cell? ⟨gb1131, 2, none⟩ = some (.slice A0_2 l0_2.length c0_2) := (blk_cell BK1131.out 2).trans rfl; have hcz13_3 : w12.cell? ⟨gb1131, 3, none⟩ = some (.int .i64 a0_3) := (blk_cell BK1131.out 3).trans rfl; have hcz13_4 : w12.cell? ⟨gb1131, 4, none⟩ = some (.int .i64 a0_4) := (blk_cell BK1131.out 4).trans rfl; have hfz13_0 := blk_frozen BK1131.out 0; have hfz13_1 := blk_frozen BK1131.out 1; have hfz13_2 := blk_frozen BK1131.out 2; have hfz13_3 := blk_frozen BK1131.out 3; have hfz13_4 := blk_frozen BK1131.out 4) | (go_at_call 26; (with_reducible refine (redraftref02_First.calls k _ _ l0_1 ji3 t1139 _ ?side1 ?side2 A6.out).mono ?_); (case side1 => repeat (first | exact (Kd.C_below HR0_1.out HB.out) | (with_reducible refine Kd.C_alloc ?_ _) | (with_reducible refine Kd.C_drewN ?_ _) | (with_reducible refine Kd.C_drew ?_))); (case side2 => exact HC0_1.out); rintro e w14 ⟨v1140, rfl, ho0, hb⟩; have n0_ := Aside0.mk (Kd.R_below (by (with_reducible repeat (first | apply Kd.R_alloc | apply Kd.R_drewN | apply Kd.R_drew)); exact HO1134.out) hb); have n1_ := Aside0.mk (Kd.R_elder' (by (with_reducible repeat (first | apply Kd.R_alloc | apply Kd.R_drewN | apply Kd.R_drew)); exact HO1138.out) (Kd.R_base ho0) hb); have n2_ := Aside0.mk (Kd.R_lower (Kd.R_new' ho0 (Kd.R_lt (by (with_reducible repeat (first | apply Kd.R_alloc | apply Kd.R_drewN | apply Kd.R_drew)); exact HO1138.out))) (below_size (by repeat (first | (with_reducible first | exact HB.out | apply below_alloc | apply pw_below_drewN | apply below_drew1 | refine below_set ?_ GE1131.out) | exact HB.out)))); have n3_ := Aside0.mk (blk_below (g := gb1131) (o := .cells #[.int .i64 a0_0, .slice A0_1 l0_1.length c0_1, .slice A0_2 l0_2.length c0_2, .int .i64 a0_3, .int .i64 a0_4] 76 (0, 0)) (by (with_reducible repeat (first | refine blk_drewN ?_ _ | refine blk_drew ?_ | refine blk_alloc ?_ _)); exact BK1131.out) hb); have n4_ := Aside0.mk (below_step (by repeat (first | (with_reducible first | exact HB.out | apply below_alloc | apply pw_below_drewN | apply below_drew1 | refine below_set ?_ GE1131.out) | exact HB.out)) hb); clear HO1134; clear HO1138; clear BK1131; clear HB; have HO1134 := n0_; have HO1138 := n1_; have HO1141 := n2_; have BK1131 := n3_; have HB := n4_; clear n0_ n1_ n2_ n3_ n4_; (try clear hb); (try clear hb2); (try clear hk); (try clear hi); (try clear ho0))); go_upto_region 4 with (first | ((with_reducible refine gate_dst (N := 1) rfl ?_); (try (refine gate_guard (by rfl) ?_; dsimp only)); refine box_event ?hg (N := 1) ?hd (cs := #[.int .i64 a0_0, .slice A0_1 l0_1.length c0_1, .slice A0_2 l0_2.length c0_2, .int .i64 a0_3, .int .i64 a0_4]) (t := 76) ?hr ?_; (case hd => rfl); (case hg => rfl); (case hr => first | (go_simp; done) | (go_simp; rfl)); intro gb1131 hg w8 hbox hb; have n0_ := Aside0.mk (below_step (by repeat (first | (with_reducible first | exact HB.out | apply below_alloc | apply pw_below_drewN | apply below_drew1) | exact HB.out)) hb); have n1_ := Aside0.mk (hbox); have n2_ := Aside0.mk ((by rw [hg]; exact (below_size (by repeat (first | (with_reducible first | exact HB.out | apply below_alloc | apply pw_below_drewN | apply below_drew1) | exact HB.out))) : w.heap.size ≤ gb1131)); have n3_ := Aside0.mk ((by rw [hg]; exact (below_size (by repeat (first | (with_reducible first | exact HB.out | apply below_alloc | apply pw_below_drewN | apply below_drew1) | exact HB.out))) : w.heap.size ≤ gb1131)); clear HB; have HB := n0_; have BK1131 := n1_; have GW1131 := n2_; have GE1131 := n3_; clear n0_ n1_ n2_ n3_; clear hb hbox hg; have hcz9_0 : w8.cell? ⟨gb1131, 0, none⟩ = some (.int .i64 a0_0) := (blk_cell BK1131.out 0).trans rfl; have hcz9_1 : w8.cell? ⟨gb1131, 1, none⟩ = some (.slice A0_1 l0_1.length c0_1) := (blk_cell BK1131.out 1).trans rfl; have hcz9_2 : w8.cell? ⟨gb1131, 2, none⟩ = some (.slice A0_2 l0_2.length c0_2) := (blk_cell BK1131.out 2).trans rfl; have hcz9_3 : w8.cell? ⟨gb1131, 3, none⟩ = some (.int .i64 a0_3) := (blk_cell BK1131.out 3).trans rfl; have hcz9_4 : w8.cell? ⟨gb1131, 4, none⟩ = some (.int .i64 a0_4) := (blk_cell BK1131.out 4).trans rfl; have hfz9_0 := blk_frozen BK1131.out 0; have hfz9_1 := blk_frozen BK1131.out 1; have hfz9_2 := blk_frozen BK1131.out 2; have hfz9_3 := blk_frozen BK1131.out 3; have hfz9_4 := blk_frozen BK1131.out 4) | (go_at_call 17; (with_reducible refine (redraftlaw02_copied.calls _ _ l0_1 t1132 _ ?side1 ?side2 A4.out).mono ?_); (case side1 => repeat (first | exact (Kd.C_below HR0_1.out HB.out) | (with_reducible refine Kd.C_alloc ?_ _) | (with_reducible refine Kd.C_drewN ?_ _) | (with_reducible refine Kd.C_drew ?_))); (case side2 => exact HC0_1.out); rintro e w10 ⟨v1133, rfl, ho0, hb⟩; have n0_ := Aside0.mk (Kd.R_lower ho0 (below_size (by repeat (first | (with_reducible first | exact HB.out | apply below_alloc | apply pw_below_drewN | apply below_drew1 | refine below_set ?_ GE1131.out) | exact HB.out)))); have n1_ := Aside0.mk (blk_below (g := gb1131) (o := .cells #[.int .i64 a0_0, .slice A0_1 l0_1.length c0_1, .slice A0_2 l0_2.length c0_2, .int .i64 a0_3, .int .i64 a0_4] 76 (0, 0)) (by (with_reducible repeat (first | refine blk_drewN ?_ _ | refine blk_drew ?_ | refine blk_alloc ?_ _)); exact BK1131.out) hb); have n2_ := Aside0.mk (below_step (by repeat (first | (with_reducible first | exact HB.out | apply below_alloc | apply pw_below_drewN | apply below_drew1 | refine below_set ?_ GE1131.out) | exact HB.out)) hb); clear BK1131; clear HB; have HO1134 := n0_; have BK1131 := n1_; have HB := n2_; clear n0_ n1_ n2_; (try clear hb); (try clear hb2); (try clear hk); (try clear hi); (try clear ho0); obtain ⟨Ao11, co11, eo11⟩ := Kd.R_slice HO1134.out; subst eo11) | (go_at_call 42; (with_reducible refine (redraftlaw02_taken.calls _ _ t1132 ji3 t1135 t1136 _ ?side1 ?side2 A5.out).mono ?_); (case side1 => repeat (first | exact (Kd.R_reads' HO1134.out).2.2 | (with_reducible refine Kd.C_alloc ?_ _) | (with_reducible refine Kd.C_drewN ?_ _) | (with_reducible refine Kd.C_drew ?_))); (case side2 => exact (Kd.R_reads' HO1134.out).2.1); rintro e w12 ⟨v1137, rfl, ho0, hb⟩; have n0_ := Aside0.mk (Kd.R_below (by (with_reducible repeat (first | apply Kd.R_alloc | apply Kd.R_drewN | apply Kd.R_drew)); exact HO1134.out) hb); have n1_ := Aside0.mk (Kd.R_lower ho0 (below_size (by repeat (first | (with_reducible first | exact HB.out | apply below_alloc | apply pw_below_drewN | apply below_drew1 | refine below_set ?_ GE1131.out) | exact HB.out)))); have n2_ := Aside0.mk (blk_below (g := gb1131) (o := .cells #[.int .i64 a0_0, .slice A0_1 l0_1.length c0_1, .slice A0_2 l0_2.length c0_2, .int .i64 a0_3, .int .i64 a0_4] 76 (0, 0)) (by (with_reducible repeat (first | refine blk_drewN ?_ _ | refine blk_drew ?_ | refine blk_alloc ?_ _)); exact BK1131.out) hb); have n3_ := Aside0.mk (below_step (by repeat (first | (with_reducible first | exact HB.out | apply below_alloc | apply pw_below_drewN | apply below_drew1 | refine below_set ?_ GE1131.out) | exact HB.out)) hb); clear HO1134; clear BK1131; clear HB; have HO1134 := n0_; have HO1138 := n1_; have BK1131 := n2_; have HB := n3_; clear n0_ n1_ n2_ n3_; (try clear hb); (try clear hb2); (try clear hk); (try clear hi); (try clear ho0); have hcz13_0 : w12.cell? ⟨gb1131, 0, none⟩ = some (.int .i64 a0_0) := (blk_cell BK1131.out 0).trans rfl; have hcz13_1 : w12.cell? ⟨gb1131, 1, none⟩ = some (.slice A0_1 l0_1.length c0_1) := (blk_cell BK1131.out 1).trans rfl; have hcz13_2 : w12.cell? ⟨gb1131, 2, none⟩ = some (.slice A0_2 l0_2.length c0_2) := (blk_cell BK1131.out 2).trans rfl; have hcz13_3 : w12.cell? ⟨gb1131, 3, none⟩ = some (.int .i64 a0_3) := (blk_cell BK1131.out 3).trans rfl; have hcz13_4 : w12.cell? ⟨gb1131, 4, none⟩ = some (.int .i64 a0_4) := (blk_cell BK1131.out 4).trans rfl; have hfz13_0 := blk_frozen BK1131.out 0; have hfz13_1 := blk_frozen BK1131.out 1; have hfz13_2 := blk_frozen BK1131.out 2; have hfz13_3 := blk_frozen BK1131.out 3; have hfz13_4 := blk_frozen BK1131.out 4) | (go_at_call 26; (with_reducible refine (redraftref02_First.calls k _ _ l0_1 ji3 t1139 _ ?side1 ?side2 A6.out).mono ?_); (case side1 => repeat (first | exact (Kd.C_below HR0_1.out HB.out) | (with_reducible refine Kd.C_alloc ?_ _) | (with_reducible refine Kd.C_drewN ?_ _) | (with_reducible refine Kd.C_drew ?_))); (case side2 => exact HC0_1.out); rintro e w14 ⟨v1140, rfl, ho0, hb⟩; have n0_ := Aside0.mk (Kd.R_below (by (with_reducible repeat (first | apply Kd.R_alloc | apply Kd.R_drewN | apply Kd.R_drew)); exact HO1134.out) hb); have n1_ := Aside0.mk (Kd.R_elder' (by (with_reducible repeat (first | apply Kd.R_alloc | apply Kd.R_drewN | apply Kd.R_drew)); exact HO1138.out) (Kd.R_base ho0) hb); have n2_ := Aside0.mk (Kd.R_lower (Kd.R_new' ho0 (Kd.R_lt (by (with_reducible repeat (first | apply Kd.R_alloc | apply Kd.R_drewN | apply Kd.R_drew)); exact HO1138.out))) (below_size (by repeat (first | (with_reducible first | exact HB.out | apply below_alloc | apply pw_below_drewN | apply below_drew1 | refine below_set ?_ GE1131.out) | exact HB.out)))); have n3_ := Aside0.mk (blk_below (g := gb1131) (o := .cells #[.int .i64 a0_0, .slice A0_1 l0_1.length c0_1, .slice A0_2 l0_2.length c0_2, .int .i64 a0_3, .int .i64 a0_4] 76 (0, 0)) (by (with_reducible repeat (first | refine blk_drewN ?_ _ | refine blk_drew ?_ | refine blk_alloc ?_ _)); exact BK1131.out) hb); have n4_ := Aside0.mk (below_step (by repeat (first | (with_reducible first | exact HB.out | apply below_alloc | apply pw_below_drewN | apply below_drew1 | refine below_set ?_ GE1131.out) | exact HB.out)) hb); clear HO1134; clear HO1138; clear BK1131; clear HB; have HO1134 := n0_; have HO1138 := n1_; have HO1141 := n2_; have BK1131 := n3_; have HB := n4_; clear n0_ n1_ n2_ n3_ n4_; (try clear hb); (try clear hb2); (try clear hk); (try clear hi); (try clear ho0))))
 (try simp only [Act.put, List.setIfInBounds_toArray, List.set_cons_zero, List.set_cons_succ])
 go_cut [32] (fun v32 wc => ∃ (kq : Nat) (x32_6 : Bool), v32 = .bool x32_6 ∧ Aside0 (redraftlaw02_gives.j0 kq t1135 t1139 x32_6 = some r) ∧ Aside0 (kq ≤ k) ∧ Aside0 (Kd.R (Kd.int .i64) 3 wc w.heap.size (fun k_ => some k_ ≠ (v1140 : Value).ownBlock) v1137 t1135) ∧ Aside0 (Kd.R (Kd.int .i64) 3 wc w.heap.size (fun k_ => some k_ ≠ (v1137 : Value).ownBlock) v1140 t1139) ∧ Aside0 (wc.heap[gb1131]? = some (.cells #[.int .i64 a0_0, (.slice A0_1 l0_1.length c0_1), (.slice A0_2 l0_2.length c0_2), .int .i64 a0_3, .int .i64 a0_4] 76 (0, 0))) ∧ Aside0 (Below w.heap.size w wc))
 case first =>
  have H := HC7.out
  clear HC7
  by_cases c15 : t1136 = true
  ·subst c15
   have H1 : (redraftlaw02_gives.j0 k t1135 t1139 ((t1135.length : Int) != (t1139.length : Int))) = some r := by rw [if_pos rfl] at H; exact H
   clear H
   have H := H1
   clear H1
   have H' := Aside0.mk H
   clear H
   obtain ⟨Ao16, co16, eo16⟩ := Kd.R_slice HO1138.out
   subst eo16
   obtain ⟨Ao17, co17, eo17⟩ := Kd.R_slice HO1141.out
   subst eo17
   go_wp2
   repeat (go_quiet (fail); try go_wp2)
   go_meet
   case rel => exact ⟨_, (((t1135.length : Int) != (t1139.length : Int))), (by first | rfl | (simp; done) | (simp [*]; done)), H', ⟨by first | omega | exact Nat.le_refl _⟩, ⟨by (with_reducible repeat (first | apply Kd.R_alloc | apply Kd.R_drewN | apply Kd.R_drew)); exact Kd.R_mono HO1138.out (fun _ hk => hk.2)⟩, ⟨by (with_reducible repeat (first | apply Kd.R_alloc | apply Kd.R_drewN | apply Kd.R_drew)); exact Kd.R_mono HO1141.out (fun _ hk => hk.2)⟩, ⟨by (with_reducible repeat (first | refine blk_drewN ?_ _ | refine blk_drew ?_ | refine blk_alloc ?_ _)); exact BK1131.out⟩, ⟨by repeat (first | (with_reducible first | exact HB.out | apply below_alloc | apply pw_below_drewN | apply below_drew1 | refine below_set ?_ GE1131.out) | exact HB.out)⟩⟩
  ·replace c15 := Bool.eq_false_iff.mpr c15
   subst c15
   have H1 : (redraftlaw02_gives.j0 k t1135 t1139 true) = some r := by rw [if_neg (show ¬ (false = true) by decide)] at H; exact H
   clear H
   have H := H1
   clear H1
   have H' := Aside0.mk H
   clear H
   go_wp2
   repeat (go_quiet (fail); try go_wp2)
   go_meet
   case rel => exact ⟨_, (true), (by first | rfl | (simp; done) | (simp [*]; done)), H', ⟨by first | omega | exact Nat.le_refl _⟩, ⟨by (with_reducible repeat (first | apply Kd.R_alloc | apply Kd.R_drewN | apply Kd.R_drew)); exact Kd.R_mono HO1138.out (fun _ hk => hk.2)⟩, ⟨by (with_reducible repeat (first | apply Kd.R_alloc | apply Kd.R_drewN | apply Kd.R_drew)); exact Kd.R_mono HO1141.out (fun _ hk => hk.2)⟩, ⟨by (with_reducible repeat (first | refine blk_drewN ?_ _ | refine blk_drew ?_ | refine blk_alloc ?_ _)); exact BK1131.out⟩, ⟨by repeat (first | (with_reducible first | exact HB.out | apply below_alloc | apply pw_below_drewN | apply below_drew1 | refine below_set ?_ GE1131.out) | exact HB.out)⟩⟩
 case rest =>
  clear HC7
  try clear c1
  try clear p2
  try clear c6
  try clear c15
  try clear hcz13_0
  try clear hcz13_1
  try clear hcz13_2
  try clear hcz13_3
  try clear hcz13_4
  try clear hcz9_0
  try clear hcz9_1
  try clear hcz9_2
  try clear hcz9_3
  try clear hcz9_4
  try clear hfz13_0
  try clear hfz13_1
  try clear hfz13_2
  try clear hfz13_3
  try clear hfz13_4
  try clear hfz9_0
  try clear hfz9_1
  try clear hfz9_2
  try clear hfz9_3
  try clear hfz9_4
  obtain ⟨kq, x32_6, rfl, HA, HJ6, HO_4, HO_6, BK1131, HB⟩ := hcut
  cases kq with
  | zero => exact absurd HA.out (by simp [redraftlaw02_gives.j0])
  | succ kj6 =>
   have H := HA.out
   clear HA
   simp only [redraftlaw02_gives.j0] at H
   by_cases c18 : x32_6 = true
   ·subst c18
    have H1 : (some false) = some r := by rw [if_pos rfl] at H; exact H
    clear H
    have H := H1
    clear H1
    obtain rfl := Option.some.inj H
    go_wp2
    repeat (go_quiet (fail); try go_wp2)
    go_ret
    exact ⟨by first | rfl | (simp [errW_none, errW_some] <;> rfl) | (simp only [← hji2, ← hji3]; first | rfl | (simp [errW_none, errW_some] <;> rfl)) | (simp [*, errW_none, errW_some] <;> rfl), by repeat (first | (with_reducible first | exact HB.out | apply below_alloc | apply pw_below_drewN | apply below_drew1 | refine below_set ?_ GE1131.out) | exact HB.out)⟩
   ·replace c18 := Bool.eq_false_iff.mpr c18
    subst c18
    have H1 : (redraftlaw02_gives.l0 kj6 t1135 t1139 0) = some r := by rw [if_neg (show ¬ (false = true) by decide)] at H; exact H
    clear H
    have H := H1
    clear H1
    have H' := Aside0.mk H
    clear H
    go_wp2
    repeat (go_quiet (fail); try go_wp2)
    go_loopg [7] kj6 (fun kq v7 w' => ∃ (x7_2 : Int), v7 = .int .i64 x7_2 ∧ Aside0 (redraftlaw02_gives.l0 kq t1135 t1139 x7_2 = some r) ∧ Aside0 (kq ≤ kj6) ∧ Aside0 (Kd.R (Kd.int .i64) 3 w' w.heap.size (fun k_ => some k_ ≠ (v1140 : Value).ownBlock) v1137 t1135) ∧ Aside0 (Kd.R (Kd.int .i64) 3 w' w.heap.size (fun k_ => some k_ ≠ (v1137 : Value).ownBlock) v1140 t1139) ∧ Aside0 (w'.heap[gb1131]? = some (.cells #[.int .i64 a0_0, (.slice A0_1 l0_1.length c0_1), (.slice A0_2 l0_2.length c0_2), .int .i64 a0_3, .int .i64 a0_4] 76 (0, 0))) ∧ Aside0 (Below w.heap.size w w'))
    case atStart => exact ⟨(0), (by first | rfl | (simp; done) | (simp [*]; done)), H', ⟨Nat.le_refl _⟩, ⟨by (with_reducible repeat (first | apply Kd.R_alloc | apply Kd.R_drewN | apply Kd.R_drew)); exact HO_4.out⟩, ⟨by (with_reducible repeat (first | apply Kd.R_alloc | apply Kd.R_drewN | apply Kd.R_drew)); exact HO_6.out⟩, ⟨by (with_reducible repeat (first | refine blk_drewN ?_ _ | refine blk_drew ?_ | refine blk_alloc ?_ _)); exact BK1131.out⟩, ⟨by repeat (first | (with_reducible first | exact HB.out | apply below_alloc | apply pw_below_drewN | apply below_drew1 | refine below_set ?_ GE1131.out) | exact HB.out)⟩⟩
    case round =>
     clear H'
     try clear c1
     try clear p2
     try clear c6
     try clear c15
     try clear c18
     try clear hcz13_0
     try clear hcz13_1
     try clear hcz13_2
     try clear hcz13_3
     try clear hcz13_4
     try clear hcz9_0
     try clear hcz9_1
     try clear hcz9_2
     try clear hcz9_3
     try clear hcz9_4
     try clear hfz13_0
     try clear hfz13_1
     try clear hfz13_2
     try clear hfz13_3
     try clear hfz13_4
     try clear hfz9_0
     try clear hfz9_1
     try clear hfz9_2
     try clear hfz9_3
     try clear hfz9_4
     try clear p2
     obtain ⟨x7_2, rfl, HA, HK2, HO_4, HO_6, BK1131, HB⟩ := hrel
     cases gk with
     | zero => exact absurd HA.out (by simp [redraftlaw02_gives.l0])
     | succ k2 =>
      have H := HA.out
      clear HA
      simp only [redraftlaw02_gives.l0] at H
      by_cases c19 : x7_2 < (t1135.length : Int)
      ·rw [if_pos c19] at H
       have c19b0 : decide (x7_2 < (t1135.length : Int)) = true := decide_eq_true c19
       clear c19
       by_cases c20 : 0 ≤ x7_2
       ·rw [if_pos c20] at H
        have c20b0 : decide (0 ≤ x7_2) = true := decide_eq_true c20
        clear c20
        by_cases c21 : x7_2 < (t1139.length : Int)
        ·rw [if_pos c21] at H
         have c21b0 : decide (x7_2 < (t1139.length : Int)) = true := decide_eq_true c21
         clear c21
         by_cases c22 : (rd t1135 x7_2) = (rd t1139 x7_2)
         ·rw [if_pos c22] at H
          have c22b0 : ((rd t1135 x7_2) == (rd t1139 x7_2)) = true := beq_iff_eq.mpr c22
          have c22b1 : ((rd t1135 x7_2) != (rd t1139 x7_2)) = false := bne_eq_false_iff_eq.mpr c22
          clear c22
          have H' := Aside0.mk H
          clear H
          obtain ⟨Ao23, co23, eo23⟩ := Kd.R_slice HO_4.out
          subst eo23
          have p1142 : 0 ≤ (x7_2 : Int) := of_decide_eq_true (by first | (with_reducible assumption) | assumption)
          have q1142 : x7_2 < (t1135.length : Int) := of_decide_eq_true (by first | (with_reducible assumption) | assumption)
          obtain ⟨ad1142, e1142, hx1142_0⟩ := Kd.at_int (Kd.R_reads' HO_4.out).2.2 x7_2 p1142 q1142
          cases e1142
          replace p1142 := eq_true p1142
          replace q1142 := eq_true q1142
          obtain ⟨Ao24, co24, eo24⟩ := Kd.R_slice HO_6.out
          subst eo24
          have p1143 : 0 ≤ (x7_2 : Int) := of_decide_eq_true (by first | (with_reducible assumption) | assumption)
          have q1143 : x7_2 < (t1139.length : Int) := of_decide_eq_true (by first | (with_reducible assumption) | assumption)
          obtain ⟨ad1143, e1143, hx1143_0⟩ := Kd.at_int (Kd.R_reads' HO_6.out).2.2 x7_2 p1143 q1143
          cases e1143
          replace p1143 := eq_true p1143
          replace q1143 := eq_true q1143
          go_wp2
          repeat (go_quiet (fail); try go_wp2)
          go_roundg k2
          case measure => have := HJ6.out; have := HK2.out; omega
          case rel => exact ⟨(wrap64 (x7_2 + 1)), (by first | rfl | (simp; done) | (simp [*]; done)), H', ⟨by have := HJ6.out; have := HK2.out; omega⟩, ⟨by (with_reducible repeat (first | apply Kd.R_alloc | apply Kd.R_drewN | apply Kd.R_drew)); exact HO_4.out⟩, ⟨by (with_reducible repeat (first | apply Kd.R_alloc | apply Kd.R_drewN | apply Kd.R_drew)); exact HO_6.out⟩, ⟨by (with_reducible repeat (first | refine blk_drewN ?_ _ | refine blk_drew ?_ | refine blk_alloc ?_ _)); exact BK1131.out⟩, ⟨by repeat (first | (with_reducible first | exact HB.out | apply below_alloc | apply pw_below_drewN | apply below_drew1 | refine below_set ?_ GE1131.out) | exact HB.out)⟩⟩
         ·rw [if_neg c22] at H
          have c22b0 : ((rd t1135 x7_2) == (rd t1139 x7_2)) = false := beq_eq_false_iff_ne.mpr c22
          have c22b1 : ((rd t1135 x7_2) != (rd t1139 x7_2)) = true := bne_iff_ne.mpr c22
          obtain rfl := Option.some.inj H
          obtain ⟨Ao25, co25, eo25⟩ := Kd.R_slice HO_4.out
          subst eo25
          have p1142 : 0 ≤ (x7_2 : Int) := of_decide_eq_true (by first | (with_reducible assumption) | assumption)
          have q1142 : x7_2 < (t1135.length : Int) := of_decide_eq_true (by first | (with_reducible assumption) | assumption)
          obtain ⟨ad1142, e1142, hx1142_0⟩ := Kd.at_int (Kd.R_reads' HO_4.out).2.2 x7_2 p1142 q1142
          cases e1142
          replace p1142 := eq_true p1142
          replace q1142 := eq_true q1142
          obtain ⟨Ao26, co26, eo26⟩ := Kd.R_slice HO_6.out
          subst eo26
          have p1143 : 0 ≤ (x7_2 : Int) := of_decide_eq_true (by first | (with_reducible assumption) | assumption)
          have q1143 : x7_2 < (t1139.length : Int) := of_decide_eq_true (by first | (with_reducible assumption) | assumption)
          obtain ⟨ad1143, e1143, hx1143_0⟩ := Kd.at_int (Kd.R_reads' HO_6.out).2.2 x7_2 p1143 q1143
          cases e1143
          replace p1143 := eq_true p1143
          replace q1143 := eq_true q1143
          go_wp2
          repeat (go_quiet (fail); try go_wp2)
          go_ret
          exact ⟨by first | rfl | (simp [errW_none, errW_some] <;> rfl) | (simp only [← hji2, ← hji3]; first | rfl | (simp [errW_none, errW_some] <;> rfl)) | (simp [*, errW_none, errW_some] <;> rfl), by repeat (first | (with_reducible first | exact HB.out | apply below_alloc | apply pw_below_drewN | apply below_drew1 | refine below_set ?_ GE1131.out) | exact HB.out)⟩
        ·rw [if_neg c21] at H
         exact absurd H (by simp)
       ·rw [if_neg c20] at H
        exact absurd H (by simp)
      ·rw [if_neg c19] at H
       have c19b0 : decide (x7_2 < (t1135.length : Int)) = false := decide_eq_false c19
       clear c19
       obtain rfl := Option.some.inj H
       obtain ⟨Ao27, co27, eo27⟩ := Kd.R_slice HO_4.out
       subst eo27
       go_wp2
       repeat (go_quiet (fail); try go_wp2)
       go_ret
       exact ⟨by first | rfl | (simp [errW_none, errW_some] <;> rfl) | (simp only [← hji2, ← hji3]; first | rfl | (simp [errW_none, errW_some] <;> rfl)) | (simp [*, errW_none, errW_some] <;> rfl), by repeat (first | (with_reducible first | exact HB.out | apply below_alloc | apply pw_below_drewN | apply below_drew1 | refine below_set ?_ GE1131.out) | exact HB.out)⟩
end Go.Proofs.Ytmidiifgdloojaa.Pr
end
section
namespace Go.Proofs.Ytmidiifgdloojaa.SpanFns
open Go.RowKit Go.Proofs.YtmidiifgdloojaaW.PrintWords Go.Proofs.YtmidiifgdloojaaW.PrintMore Go.Proofs.Ytmidiifgdloojaa.Pr Go.Proofs.Ytmidiifgdloojaa.SpanMath Go.Proofs.Ytmidiifgdloojaa.SpanReads
def upx (lo hi : Int) : List Int := (List.range (hi - lo).toNat).map (fun j : Nat => lo + (j : Int))
theorem upx_done {lo hi : Int} (h : ¬ lo < hi) : upx lo hi = [] := by
  unfold upx
  rw [show (hi - lo).toNat = 0 from by omega]
  rfl
theorem upx_more {lo hi : Int} (h : lo < hi) : upx lo hi = lo :: upx (lo + 1) hi := by
  unfold upx
  rw [show (hi - lo).toNat = (hi - (lo + 1)).toNat + 1 from by omega, List.range_succ_eq_map]
  simp only [List.map_cons, List.map_map, Int.ofNat_zero, Int.add_zero, List.cons.injEq]
  refine ⟨by simp, List.map_congr_left (fun j _ => ?_)⟩
  simp only [Function.comp, Nat.succ_eq_add_one]
  omega
def places (l : List S36) : List Int := l.flatMap (fun r => upx r.f0 r.f1)
theorem places_eq (l : List S36) : SpanEach.spans (SpanEach.prs l) = places l := by
  unfold SpanEach.spans SpanEach.prs places
  rw [List.flatMap_map]
  rfl
theorem places_cons (r : S36) (l : List S36) : places (r :: l) = upx r.f0 r.f1 ++ places l := by simp [places]
theorem First_l {a : Int} (ha : 0 ≤ a ∧ a ≤ 300) : ∀ (suf pre : List S36) (x5 : List Int), Short (pre ++ suf) → (∀ r ∈ suf, 0 ≤ r.f0 ∧ r.f1 ≤ 1048576) → (x5.length : Int) ≤ a →
    Ev (fun k => redraftref02_First.l0 k (pre ++ suf) a x5 (pre.length : Int)) ((x5 ++ places suf).take a.toNat)
  | [], pre, x5, _, _, hx => by
    refine Ev.step (f := fun _ => some x5) (fun k => by simp only [redraftref02_First.l0]; rw [if_neg (by simp)]) ?_
    rw [show places [] = [] from rfl, List.append_nil, List.take_of_length_le (by omega)]
    exact Ev.now _
  | r :: suf, pre, x5, hs, hb, hx => by
    have hl : (pre ++ r :: suf).length = pre.length + 1 + suf.length := by simp; omega
    have hs' : (pre ++ r :: suf).length < 8796093022208 := hs
    obtain ⟨b0, b1⟩ := hb r List.mem_cons_self
    have e1 : wrap64 ((pre.length : Int) + 1) = ((pre ++ [r]).length : Int) := by rw [w64 (by omega) (by omega)]; simp
    have key : ∀ (n : Nat) (x9 : Int) (y : List Int), (r.f1 - x9).toNat = n → 0 ≤ x9 → (y.length : Int) ≤ a → Ev (fun k => redraftref02_First.l1 k (pre ++ r :: suf) a y (pre.length : Int) x9) ((y ++ (upx x9 r.f1 ++ places suf)).take a.toNat) := by
      intro n
      induction n with
      | zero =>
        intro x9 y hn h0 hy
        have ih := First_l ha suf (pre ++ [r]) y (by rw [List.append_assoc]; exact hs) (fun s hs => hb s (List.mem_cons_of_mem _ hs)) hy
        rw [List.append_assoc, List.singleton_append] at ih
        refine Ev.step (f := fun k => redraftref02_First.l0 k (pre ++ r :: suf) a y (wrap64 ((pre.length : Int) + 1))) (fun k => by simp only [redraftref02_First.l1]; rw [if_pos (by omega), if_pos (by omega), rd_at, if_neg (by omega)]) ?_
        rw [e1, upx_done (by omega)]
        exact ih
      | succ n ih =>
        intro x9 y hn h0 hy
        by_cases c : (y.length : Int) ≥ a
        · refine Ev.step (f := fun _ => some y) (fun k => by simp only [redraftref02_First.l1]; rw [if_pos (by omega), if_pos (by omega), rd_at, if_pos (by omega), if_pos c]) ?_
          rw [List.take_append_of_le_length (by omega), List.take_of_length_le (by omega)]
          exact Ev.now _
        · refine Ev.step (f := fun k => redraftref02_First.l1 k (pre ++ r :: suf) a (y ++ [x9]) (pre.length : Int) (wrap64 (x9 + 1))) (fun k => by simp only [redraftref02_First.l1]; rw [if_pos (by omega), if_pos (by omega), rd_at, if_pos (by omega), if_neg c, if_pos (by omega)]) ?_
          have := ih (x9 + 1) (y ++ [x9]) (by omega) (by omega) (by simp; omega)
          rw [w64 (by omega) (by omega), upx_more (show x9 < r.f1 from by omega)]
          simpa using this
    refine Ev.step (f := fun k => redraftref02_First.l1 k (pre ++ r :: suf) a x5 (pre.length : Int) r.f0) (fun k => by simp only [redraftref02_First.l0]; rw [if_pos (by omega), if_pos (by omega), rd_at]) ?_
    rw [places_cons]
    exact key _ r.f0 x5 rfl b0 hx
def given (l : List S36) : List Int := if (checkS l).2 = 0 then places l else []
theorem First_ev {l : List S36} (h : Short l) {a : Int} (ha : 0 ≤ a ∧ a ≤ 300) : Ev (fun k => redraftref02_First.f k l a) ((given l).take a.toNat) := by
  unfold redraftref02_First.f
  refine Ev.bind (refCheck_ev h) ?_
  unfold given
  by_cases c : (checkS l).2 = 0
  · simp only [if_pos c]
    have := First_l ha l [] [] h (checkS_good.1 c).2.2 (by simpa using ha.1)
    simpa using this
  · simp only [if_neg c]
    simpa using Ev.now ([] : List Int)
theorem taken_f {l : List S36} (h : Short l) {a : Int} (ha : a ≤ 300) : redraftlaw02_taken.f l a = some ((given l).take a.toNat, true) := by
  unfold redraftlaw02_taken.f given
  rw [if_pos ha, Check_f h (Nat.le_refl _)]
  simp only [Option.bind_some]
  by_cases c : (checkS l).2 = 0
  · obtain ⟨h1, h2, h3⟩ := (checkS_good.1 c)
    rw [if_pos c, if_pos c, if_pos ⟨h1, fun r hr => ⟨(h3 r hr).1, h2.2 r hr, (h3 r hr).2⟩⟩, places_eq]
  · rw [if_neg c, if_neg c]
    simp
theorem gives_l0 : ∀ (suf pre : List Int), (pre ++ suf).length < 8796093022208 → Ev (fun k => redraftlaw02_gives.l0 k (pre ++ suf) (pre ++ suf) (pre.length : Int)) true
  | [], pre, _ => Ev.step (f := fun _ => some true) (fun k => by simp only [redraftlaw02_gives.l0]; rw [if_neg (by simp)]) (Ev.now _)
  | x :: suf, pre, hs => by
    have hl : (pre ++ x :: suf).length = pre.length + 1 + suf.length := by simp; omega
    have ih := gives_l0 suf (pre ++ [x]) (by rw [List.append_assoc]; exact hs)
    rw [List.append_assoc, List.singleton_append] at ih
    have e1 : wrap64 ((pre.length : Int) + 1) = ((pre ++ [x]).length : Int) := by rw [w64 (by omega) (by omega)]; simp
    refine Ev.step (f := fun k => redraftlaw02_gives.l0 k (pre ++ x :: suf) (pre ++ x :: suf) (wrap64 ((pre.length : Int) + 1))) (fun k => by simp only [redraftlaw02_gives.l0]; rw [if_pos (by omega), if_pos (by omega), if_pos (by omega)]; simp only [if_true]) ?_
    rw [e1]
    exact ih
theorem gives_ev {l m : List S36} (kd a b : Int) (h : Short l) : Ev (fun k => redraftlaw02_gives.f k kd l m a b) true := by
  have hb : 0 ≤ mn (mx a 0) 300 ∧ mn (mx a 0) 300 ≤ 300 := by
    unfold mn mx
    constructor <;> (repeat' split) <;> omega
  unfold redraftlaw02_gives.f
  generalize mn (mx a 0) 300 = n at hb
  simp only [copied_f h, Option.bind_some, taken_f h hb.2]
  refine Ev.bind (First_ev h hb) ?_
  simp only [if_true]
  have hlt : ((given l).take n.toNat).length < 8796093022208 := by rw [List.length_take]; omega
  generalize (given l).take n.toNat = g at hlt
  refine Ev.step (f := fun k => redraftlaw02_gives.l0 k g g 0) (fun k => by simp only [redraftlaw02_gives.j0]; rw [if_neg (by simp)]) ?_
  exact gives_l0 g [] hlt
theorem taken_first : redraftlaw02_taken.f ([⟨2, 4⟩, ⟨6, 7⟩] : List S36) 5 = some ([2, 3, 6], true) := by
  rw [taken_f (by decide) (by decide)]
  decide
end Go.Proofs.Ytmidiifgdloojaa.SpanFns
end
section
namespace Go.Proofs.Ytmidiifgdloojaa.Kg
open Go.Proofs.Ytmidiifgdloojaa.Pr
open Go.RowKit Go.Proofs.YtmidiifgdloojaaW.PrintWords Go.Proofs.YtmidiifgdloojaaW.PrintLast Go.Proofs.YtmidiifgdloojaaW.PrintMore
attribute [local go_sem] max2_int min2_int max_two min_two max_three min_three max_four min_four
set_option linter.unusedVariables false
set_option linter.unusedSimpArgs false
def redraftlaw02_sets.f (a0_0 : Int) (l0_1 : List (S36)) (l0_2 : List (S36)) (a0_3 : Int) (a0_4 : Int) : Option (Bool) := none
set_option maxHeartbeats 8000000 in
set_option maxRecDepth 100000 in
theorem redraftlaw02_sets.calls (a0_0 : Int) (A0_1 : Option Addr) (c0_1 : Nat) (l0_1 : List (S36)) (A0_2 : Option Addr) (c0_2 : Nat) (l0_2 : List (S36)) (a0_3 : Int) (a0_4 : Int) (r : Bool) (w : World) (hr0_1 : Kd.C k36 w A0_1 l0_1.length l0_1) (hc0_1 : l0_1.length ≤ c0_1) (hr0_2 : Kd.C k36 w A0_2 l0_2.length l0_2) (hc0_2 : l0_2.length ≤ c0_2) (h : redraftlaw02_sets.f a0_0 l0_1 l0_2 a0_3 a0_4 = some r) :
  Calls Try.prog 61 #[.agg #[.int .i64 a0_0, .slice A0_1 l0_1.length c0_1, .slice A0_2 l0_2.length c0_2, .int .i64 a0_3, .int .i64 a0_4]] w fun e w' => e = .returned (.bool r) ∧ Below w.heap.size w w' := by
 have hu76 := Try.underlying76
 have HR0_1 := Aside0.mk hr0_1
 have HC0_1 := Aside0.mk hc0_1
 clear hr0_1 hc0_1
 have HR0_2 := Aside0.mk hr0_2
 have HC0_2 := Aside0.mk hc0_2
 clear hr0_2 hc0_2
 have HB := Aside0.mk (Below.refl w.heap.size w)
 have H : (none) = some r := h
 clear h
 exact absurd H (by simp)
end Go.Proofs.Ytmidiifgdloojaa.Kg
end
section
namespace Go.Proofs.Ytmidiifgdloojaa.Kg
open Go.Proofs.Ytmidiifgdloojaa.Pr
open Go.RowKit Go.Proofs.YtmidiifgdloojaaW.PrintWords Go.Proofs.YtmidiifgdloojaaW.PrintLast Go.Proofs.YtmidiifgdloojaaW.PrintMore
attribute [local go_sem] max2_int min2_int max_two min_two max_three min_three max_four min_four
set_option linter.unusedVariables false
set_option linter.unusedSimpArgs false
def redraftlaw02_counts.f (a0_0 : Int) (l0_1 : List (S36)) (l0_2 : List (S36)) (a0_3 : Int) (a0_4 : Int) : Option (Bool) := none
set_option maxHeartbeats 8000000 in
set_option maxRecDepth 100000 in
theorem redraftlaw02_counts.calls (a0_0 : Int) (A0_1 : Option Addr) (c0_1 : Nat) (l0_1 : List (S36)) (A0_2 : Option Addr) (c0_2 : Nat) (l0_2 : List (S36)) (a0_3 : Int) (a0_4 : Int) (r : Bool) (w : World) (hr0_1 : Kd.C k36 w A0_1 l0_1.length l0_1) (hc0_1 : l0_1.length ≤ c0_1) (hr0_2 : Kd.C k36 w A0_2 l0_2.length l0_2) (hc0_2 : l0_2.length ≤ c0_2) (h : redraftlaw02_counts.f a0_0 l0_1 l0_2 a0_3 a0_4 = some r) :
  Calls Try.prog 62 #[.agg #[.int .i64 a0_0, .slice A0_1 l0_1.length c0_1, .slice A0_2 l0_2.length c0_2, .int .i64 a0_3, .int .i64 a0_4]] w fun e w' => e = .returned (.bool r) ∧ Below w.heap.size w w' := by
 have hu76 := Try.underlying76
 have HR0_1 := Aside0.mk hr0_1
 have HC0_1 := Aside0.mk hc0_1
 clear hr0_1 hc0_1
 have HR0_2 := Aside0.mk hr0_2
 have HC0_2 := Aside0.mk hc0_2
 clear hr0_2 hc0_2
 have HB := Aside0.mk (Below.refl w.heap.size w)
 have H : (none) = some r := h
 clear h
 exact absurd H (by simp)
end Go.Proofs.Ytmidiifgdloojaa.Kg
end
section
namespace Go.Proofs.Ytmidiifgdloojaa.Kg
open Go.Proofs.Ytmidiifgdloojaa.Pr
open Go.RowKit Go.Proofs.YtmidiifgdloojaaW.PrintWords Go.Proofs.YtmidiifgdloojaaW.PrintLast Go.Proofs.YtmidiifgdloojaaW.PrintMore
attribute [local go_sem] max2_int min2_int max_two min_two max_three min_three max_four min_four
set_option linter.unusedVariables false
set_option linter.unusedSimpArgs false
def redraftlaw02_moves.f (a0_0 : Int) (l0_1 : List (S36)) (l0_2 : List (S36)) (a0_3 : Int) (a0_4 : Int) : Option (Bool) := none
set_option maxHeartbeats 8000000 in
set_option maxRecDepth 100000 in
theorem redraftlaw02_moves.calls (a0_0 : Int) (A0_1 : Option Addr) (c0_1 : Nat) (l0_1 : List (S36)) (A0_2 : Option Addr) (c0_2 : Nat) (l0_2 : List (S36)) (a0_3 : Int) (a0_4 : Int) (r : Bool) (w : World) (hr0_1 : Kd.C k36 w A0_1 l0_1.length l0_1) (hc0_1 : l0_1.length ≤ c0_1) (hr0_2 : Kd.C k36 w A0_2 l0_2.length l0_2) (hc0_2 : l0_2.length ≤ c0_2) (h : redraftlaw02_moves.f a0_0 l0_1 l0_2 a0_3 a0_4 = some r) :
  Calls Try.prog 63 #[.agg #[.int .i64 a0_0, .slice A0_1 l0_1.length c0_1, .slice A0_2 l0_2.length c0_2, .int .i64 a0_3, .int .i64 a0_4]] w fun e w' => e = .returned (.bool r) ∧ Below w.heap.size w w' := by
 have hu76 := Try.underlying76
 have HR0_1 := Aside0.mk hr0_1
 have HC0_1 := Aside0.mk hc0_1
 clear hr0_1 hc0_1
 have HR0_2 := Aside0.mk hr0_2
 have HC0_2 := Aside0.mk hc0_2
 clear hr0_2 hc0_2
 have HB := Aside0.mk (Below.refl w.heap.size w)
 have H : (none) = some r := h
 clear h
 exact absurd H (by simp)
end Go.Proofs.Ytmidiifgdloojaa.Kg
end
section
namespace Go.Proofs.Ytmidiifgdloojaa.Kg
open Go.Proofs.Ytmidiifgdloojaa.Pr
open Go.RowKit Go.Proofs.YtmidiifgdloojaaW.PrintWords Go.Proofs.YtmidiifgdloojaaW.PrintLast Go.Proofs.YtmidiifgdloojaaW.PrintMore
attribute [local go_sem] max2_int min2_int max_two min_two max_three min_three max_four min_four
set_option linter.unusedVariables false
set_option linter.unusedSimpArgs false
mutual
def redraftlaw02_plays.j0 : Nat → Int → Bool → Int → List (S36) → List (S36) → Int → Int → Option (Bool)
 | 0, _, _, _, _, _, _, _ => none
 | k + 1, x8, x29, x475000, x475001, x475002, x475003, x475004 => if x29 = true then ((redraftlaw02_sets.f x475000 x475001 x475002 x475003 x475004).bind fun t483 => (some t483)) else (if x8 = 6 then (redraftlaw02_plays.j1 k x8 (x8 == 6) x475000 x475001 x475002 x475003 x475004) else (if x8 = 7 then (redraftlaw02_plays.j1 k x8 (x8 == 7) x475000 x475001 x475002 x475003 x475004) else (redraftlaw02_plays.j1 k x8 (x8 == 8) x475000 x475001 x475002 x475003 x475004)))
def redraftlaw02_plays.j1 : Nat → Int → Bool → Int → List (S36) → List (S36) → Int → Int → Option (Bool)
 | 0, _, _, _, _, _, _, _ => none
 | k + 1, x8, x36, x475000, x475001, x475002, x475003, x475004 => if x36 = true then ((redraftlaw02_counts.f x475000 x475001 x475002 x475003 x475004).bind fun t484 => (some t484)) else (if x8 = 9 then (redraftlaw02_plays.j2 k x8 (x8 == 9) x475000 x475001 x475002 x475003 x475004) else (redraftlaw02_plays.j2 k x8 (x8 == 10) x475000 x475001 x475002 x475003 x475004))
def redraftlaw02_plays.j2 : Nat → Int → Bool → Int → List (S36) → List (S36) → Int → Int → Option (Bool)
 | 0, _, _, _, _, _, _, _ => none
 | k + 1, x8, x42, x475000, x475001, x475002, x475003, x475004 => if x42 = true then ((redraftlaw02_moves.f x475000 x475001 x475002 x475003 x475004).bind fun t485 => (some t485)) else (if x8 = 11 then ((redraftlaw02_gives.f k x475000 x475001 x475002 x475003 x475004).bind fun t486 => (some t486)) else (some true))
end
def redraftlaw02_plays.f (k : Nat) (a0_0 : Int) (l0_1 : List (S36)) (l0_2 : List (S36)) (a0_3 : Int) (a0_4 : Int) : Option (Bool) := if a0_0 = 1 then ((redraftlaw02_copied.f l0_1).bind fun t475 => ((span_Check.f k t475).bind fun bt478 => ((redraftref02_Check.f k l0_1).bind fun bt480 => ((redraftlaw02_number.f bt478.1 bt478.2 bt480.1 bt480.2).bind fun t482 => (some t482))))) else (if a0_0 = 2 then (redraftlaw02_plays.j0 k a0_0 (a0_0 == 2) a0_0 l0_1 l0_2 a0_3 a0_4) else (if a0_0 = 3 then (redraftlaw02_plays.j0 k a0_0 (a0_0 == 3) a0_0 l0_1 l0_2 a0_3 a0_4) else (if a0_0 = 4 then (redraftlaw02_plays.j0 k a0_0 (a0_0 == 4) a0_0 l0_1 l0_2 a0_3 a0_4) else (redraftlaw02_plays.j0 k a0_0 (a0_0 == 5) a0_0 l0_1 l0_2 a0_3 a0_4))))
theorem redraftlaw02_plays.mono_l : ∀ k, (∀ y0 y1 y2 y3 y4 y5 y6, LeO (redraftlaw02_plays.j0 k y0 y1 y2 y3 y4 y5 y6) (redraftlaw02_plays.j0 (k + 1) y0 y1 y2 y3 y4 y5 y6)) ∧ (∀ y0 y1 y2 y3 y4 y5 y6, LeO (redraftlaw02_plays.j1 k y0 y1 y2 y3 y4 y5 y6) (redraftlaw02_plays.j1 (k + 1) y0 y1 y2 y3 y4 y5 y6)) ∧ (∀ y0 y1 y2 y3 y4 y5 y6, LeO (redraftlaw02_plays.j2 k y0 y1 y2 y3 y4 y5 y6) (redraftlaw02_plays.j2 (k + 1) y0 y1 y2 y3 y4 y5 y6))
 | 0 => ⟨fun _ _ _ _ _ _ _ r h => by simp [redraftlaw02_plays.j0] at h, fun _ _ _ _ _ _ _ r h => by simp [redraftlaw02_plays.j1] at h, fun _ _ _ _ _ _ _ r h => by simp [redraftlaw02_plays.j2] at h⟩
 | k + 1 => by
  obtain ⟨ih0, ih1, ih2⟩ := redraftlaw02_plays.mono_l k
  refine ⟨?_, ?_, ?_⟩
  ·intro y0 y1 y2 y3 y4 y5 y6
   unfold redraftlaw02_plays.j0
   repeat' first
   | (with_reducible exact ih0 _ _ _ _ _ _ _)
   | (with_reducible exact ih1 _ _ _ _ _ _ _)
   | (with_reducible exact ih2 _ _ _ _ _ _ _)
   | (with_reducible exact redraftlaw02_gives.mono _ _ _ _ _ _)
   | (with_reducible exact redraftref02_Check.mono _ _)
   | (with_reducible exact span_Check.mono _ _)
   | (with_reducible exact LeO.refl _)
   | (with_reducible exact LeO.none _)
   | (with_reducible refine LeO.ite ?_ ?_)
   | (with_reducible refine LeO.bind ?_ (fun _ => ?_))
   | exact ih0 _ _ _ _ _ _ _
   | exact ih1 _ _ _ _ _ _ _
   | exact ih2 _ _ _ _ _ _ _
   | exact redraftlaw02_gives.mono _ _ _ _ _ _
   | exact redraftref02_Check.mono _ _
   | exact span_Check.mono _ _
   | exact LeO.none _
   | refine LeO.ite ?_ ?_
   | refine LeO.bind ?_ (fun _ => ?_)
  ·intro y0 y1 y2 y3 y4 y5 y6
   unfold redraftlaw02_plays.j1
   repeat' first
   | (with_reducible exact ih0 _ _ _ _ _ _ _)
   | (with_reducible exact ih1 _ _ _ _ _ _ _)
   | (with_reducible exact ih2 _ _ _ _ _ _ _)
   | (with_reducible exact redraftlaw02_gives.mono _ _ _ _ _ _)
   | (with_reducible exact redraftref02_Check.mono _ _)
   | (with_reducible exact span_Check.mono _ _)
   | (with_reducible exact LeO.refl _)
   | (with_reducible exact LeO.none _)
   | (with_reducible refine LeO.ite ?_ ?_)
   | (with_reducible refine LeO.bind ?_ (fun _ => ?_))
   | exact ih0 _ _ _ _ _ _ _
   | exact ih1 _ _ _ _ _ _ _
   | exact ih2 _ _ _ _ _ _ _
   | exact redraftlaw02_gives.mono _ _ _ _ _ _
   | exact redraftref02_Check.mono _ _
   | exact span_Check.mono _ _
   | exact LeO.none _
   | refine LeO.ite ?_ ?_
   | refine LeO.bind ?_ (fun _ => ?_)
  ·intro y0 y1 y2 y3 y4 y5 y6
   unfold redraftlaw02_plays.j2
   repeat' first
   | (with_reducible exact ih0 _ _ _ _ _ _ _)
   | (with_reducible exact ih1 _ _ _ _ _ _ _)
   | (with_reducible exact ih2 _ _ _ _ _ _ _)
   | (with_reducible exact redraftlaw02_gives.mono _ _ _ _ _ _)
   | (with_reducible exact redraftref02_Check.mono _ _)
   | (with_reducible exact span_Check.mono _ _)
   | (with_reducible exact LeO.refl _)
   | (with_reducible exact LeO.none _)
   | (with_reducible refine LeO.ite ?_ ?_)
   | (with_reducible refine LeO.bind ?_ (fun _ => ?_))
   | exact ih0 _ _ _ _ _ _ _
   | exact ih1 _ _ _ _ _ _ _
   | exact ih2 _ _ _ _ _ _ _
   | exact redraftlaw02_gives.mono _ _ _ _ _ _
   | exact redraftref02_Check.mono _ _
   | exact span_Check.mono _ _
   | exact LeO.none _
   | refine LeO.ite ?_ ?_
   | refine LeO.bind ?_ (fun _ => ?_)
theorem redraftlaw02_plays.mono : ∀ a0 a1 a2 a3 a4 k, LeO (redraftlaw02_plays.f k a0 a1 a2 a3 a4) (redraftlaw02_plays.f (k + 1) a0 a1 a2 a3 a4) := by
 intro a0 a1 a2 a3 a4 k
 obtain ⟨ih0, ih1, ih2⟩ := redraftlaw02_plays.mono_l k
 unfold redraftlaw02_plays.f
 repeat' first
   | (with_reducible exact ih0 _ _ _ _ _ _ _)
   | (with_reducible exact ih1 _ _ _ _ _ _ _)
   | (with_reducible exact ih2 _ _ _ _ _ _ _)
   | (with_reducible exact redraftlaw02_gives.mono _ _ _ _ _ _)
   | (with_reducible exact redraftref02_Check.mono _ _)
   | (with_reducible exact span_Check.mono _ _)
   | (with_reducible exact LeO.refl _)
   | (with_reducible exact LeO.none _)
   | (with_reducible refine LeO.ite ?_ ?_)
   | (with_reducible refine LeO.bind ?_ (fun _ => ?_))
   | exact ih0 _ _ _ _ _ _ _
   | exact ih1 _ _ _ _ _ _ _
   | exact ih2 _ _ _ _ _ _ _
   | exact redraftlaw02_gives.mono _ _ _ _ _ _
   | exact redraftref02_Check.mono _ _
   | exact span_Check.mono _ _
   | exact LeO.none _
   | refine LeO.ite ?_ ?_
   | refine LeO.bind ?_ (fun _ => ?_)
set_option maxHeartbeats 8000000 in
set_option maxRecDepth 100000 in
theorem redraftlaw02_plays.calls (k : Nat) (a0_0 : Int) (A0_1 : Option Addr) (c0_1 : Nat) (l0_1 : List (S36)) (A0_2 : Option Addr) (c0_2 : Nat) (l0_2 : List (S36)) (a0_3 : Int) (a0_4 : Int) (r : Bool) (w : World) (hr0_1 : Kd.C k36 w A0_1 l0_1.length l0_1) (hc0_1 : l0_1.length ≤ c0_1) (hr0_2 : Kd.C k36 w A0_2 l0_2.length l0_2) (hc0_2 : l0_2.length ≤ c0_2) (h : redraftlaw02_plays.f k a0_0 l0_1 l0_2 a0_3 a0_4 = some r) :
  Calls Try.prog 57 #[.agg #[.int .i64 a0_0, .slice A0_1 l0_1.length c0_1, .slice A0_2 l0_2.length c0_2, .int .i64 a0_3, .int .i64 a0_4]] w fun e w' => e = .returned (.bool r) ∧ Below w.heap.size w w' := by
 have hu76 := Try.underlying76
 have HR0_1 := Aside0.mk hr0_1
 have HC0_1 := Aside0.mk hc0_1
 clear hr0_1 hc0_1
 have HR0_2 := Aside0.mk hr0_2
 have HC0_2 := Aside0.mk hc0_2
 clear hr0_2 hc0_2
 have HB := Aside0.mk (Below.refl w.heap.size w)
 have H : (if a0_0 = 1 then ((redraftlaw02_copied.f l0_1).bind fun t475 => ((span_Check.f k t475).bind fun bt478 => ((redraftref02_Check.f k l0_1).bind fun bt480 => ((redraftlaw02_number.f bt478.1 bt478.2 bt480.1 bt480.2).bind fun t482 => (some t482))))) else (if a0_0 = 2 then (redraftlaw02_plays.j0 k a0_0 (a0_0 == 2) a0_0 l0_1 l0_2 a0_3 a0_4) else (if a0_0 = 3 then (redraftlaw02_plays.j0 k a0_0 (a0_0 == 3) a0_0 l0_1 l0_2 a0_3 a0_4) else (if a0_0 = 4 then (redraftlaw02_plays.j0 k a0_0 (a0_0 == 4) a0_0 l0_1 l0_2 a0_3 a0_4) else (redraftlaw02_plays.j0 k a0_0 (a0_0 == 5) a0_0 l0_1 l0_2 a0_3 a0_4))))) = some r := h
 clear h
 by_cases c2 : a0_0 = 1
 ·rw [if_pos c2] at H
  have c2b0 : (a0_0 == 1) = true := beq_iff_eq.mpr c2
  have c2b1 : (a0_0 != 1) = false := bne_eq_false_iff_eq.mpr c2
  clear c2
  replace H := Option.bind_eq_some_iff.mp H
  obtain ⟨t475, A30, H⟩ := H
  replace H : ((span_Check.f k t475).bind fun bt478 => ((redraftref02_Check.f k l0_1).bind fun bt480 => ((redraftlaw02_number.f bt478.1 bt478.2 bt480.1 bt480.2).bind fun t482 => (some t482)))) = some r := H
  have A3 := Aside0.mk A30
  clear A30
  replace H := Option.bind_eq_some_iff.mp H
  obtain ⟨⟨t478, t479⟩, A40, H⟩ := H
  replace H : ((redraftref02_Check.f k l0_1).bind fun bt480 => ((redraftlaw02_number.f t478 t479 bt480.1 bt480.2).bind fun t482 => (some t482))) = some r := H
  have A4 := Aside0.mk A40
  clear A40
  replace H := Option.bind_eq_some_iff.mp H
  obtain ⟨⟨t480, t481⟩, A50, H⟩ := H
  replace H : ((redraftlaw02_number.f t478 t479 t480 t481).bind fun t482 => (some t482)) = some r := H
  have A5 := Aside0.mk A50
  clear A50
  replace H := Option.bind_eq_some_iff.mp H
  obtain ⟨t482, A60, H⟩ := H
  replace H : (some t482) = some r := H
  have A6 := Aside0.mk A60
  clear A60
  obtain rfl := Option.some.inj H
  go_enter Try.func57, Try.ntmps57
  go_wp2_with (first | ((with_reducible refine gate_dst (N := 1) rfl ?_); refine box_event ?hg (N := 1) ?hd (cs := #[.int .i64 a0_0, .slice A0_1 l0_1.length c0_1, .slice A0_2 l0_2.length c0_2, .int .i64 a0_3, .int .i64 a0_4]) (t := 76) ?hr ?_; (case hd => rfl); (case hg => rfl); (case hr => first | (go_simp; done) | (go_simp; rfl)); intro gb474 hg w7 hbox hb; have n0_ := Aside0.mk (below_step (by repeat (first | (with_reducible first | exact HB.out | apply below_alloc | apply pw_below_drewN | apply below_drew1) | exact HB.out)) hb); have n1_ := Aside0.mk (hbox); have n2_ := Aside0.mk ((by rw [hg]; exact (below_size (by repeat (first | (with_reducible first | exact HB.out | apply below_alloc | apply pw_below_drewN | apply below_drew1) | exact HB.out))) : w.heap.size ≤ gb474)); have n3_ := Aside0.mk ((by rw [hg]; exact (below_size (by repeat (first | (with_reducible first | exact HB.out | apply below_alloc | apply pw_below_drewN | apply below_drew1) | exact HB.out))) : w.heap.size ≤ gb474)); clear HB; have HB := n0_; have BK474 := n1_; have GW474 := n2_; have GE474 := n3_; clear n0_ n1_ n2_ n3_; clear hb hbox hg; have hcz8_0 : w7.cell? ⟨gb474, 0, none⟩ = some (.int .i64 a0_0) := (blk_cell BK474.out 0).trans rfl; have hcz8_1 : w7.cell? ⟨gb474, 1, none⟩ = some (.slice A0_1 l0_1.length c0_1) := (blk_cell BK474.out 1).trans rfl; have hcz8_2 : w7.cell? ⟨gb474, 2, none⟩ = some (.slice A0_2 l0_2.length c0_2) := (blk_cell BK474.out 2).trans rfl; have hcz8_3 : w7.cell? ⟨gb474, 3, none⟩ = some (.int .i64 a0_3) := (blk_cell BK474.out 3).trans rfl; have hcz8_4 : w7.cell? ⟨gb474, 4, none⟩ = some (.int .i64 a0_4) := (blk_cell BK474.out 4).trans rfl; have hfz8_0 := blk_frozen BK474.out 0; have hfz8_1 := blk_frozen BK474.out 1; have hfz8_2 := blk_frozen BK474.out 2; have hfz8_3 := blk_frozen BK474.out 3; have hfz8_4 := blk_frozen BK474.out 4) | ((with_reducible refine gate_callee (f := 17) rfl ?_); refine goesL_ (some 14) rfl rfl Try.func17 (by kernel_rfl) rfl #[.slice A0_1 l0_1.length c0_1] rfl (by (try simp only [List.map_toArray, List.map_cons, List.map_nil]); first | done | rfl | (simp only [List.length_drop, List.length_take]; rfl)) ?_; (with_reducible refine (redraftlaw02_copied.calls _ _ l0_1 t475 _ ?side1 ?side2 A3.out).mono ?_); (case side1 => repeat (first | exact (Kd.C_below HR0_1.out HB.out) | (with_reducible refine Kd.C_alloc ?_ _) | (with_reducible refine Kd.C_drewN ?_ _) | (with_reducible refine Kd.C_drew ?_))); (case side2 => exact HC0_1.out); rintro e w9 ⟨v476, rfl, ho0, hb⟩; refine ⟨_, rfl, ?_⟩; have n0_ := Aside0.mk (Kd.R_lower ho0 (below_size (by repeat (first | (with_reducible first | exact HB.out | apply below_alloc | apply pw_below_drewN | apply below_drew1 | refine below_set ?_ GE474.out) | exact HB.out)))); have n1_ := Aside0.mk (blk_below (g := gb474) (o := .cells #[.int .i64 a0_0, .slice A0_1 l0_1.length c0_1, .slice A0_2 l0_2.length c0_2, .int .i64 a0_3, .int .i64 a0_4] 76 (0, 0)) (by (with_reducible repeat (first | refine blk_drewN ?_ _ | refine blk_drew ?_ | refine blk_alloc ?_ _)); exact BK474.out) hb); have n2_ := Aside0.mk (below_step (by repeat (first | (with_reducible first | exact HB.out | apply below_alloc | apply pw_below_drewN | apply below_drew1 | refine below_set ?_ GE474.out) | exact HB.out)) hb); clear BK474; clear HB; have HO477 := n0_; have BK474 := n1_; have HB := n2_; clear n0_ n1_ n2_; (try clear hb); (try clear hb2); (try clear hk); (try clear hi); (try clear ho0); obtain ⟨Ao10, co10, eo10⟩ := Kd.R_slice HO477.out; subst eo10) | ((with_reducible refine gate_callee (f := 51) rfl ?_); refine goesL_ (some 15) rfl rfl Try.func51 (by kernel_rfl) rfl #[.slice Ao10 t475.length co10] rfl (by (try simp only [List.map_toArray, List.map_cons, List.map_nil]); first | done | rfl | (simp only [List.length_drop, List.length_take]; rfl)) ?_; (with_reducible refine (span_Check.calls k _ _ t475 t478 t479 _ ?side1 ?side2 A4.out).mono ?_); (case side1 => repeat (first | exact (Kd.R_reads' HO477.out).2.2 | (with_reducible refine Kd.C_alloc ?_ _) | (with_reducible refine Kd.C_drewN ?_ _) | (with_reducible refine Kd.C_drew ?_))); (case side2 => exact (Kd.R_reads' HO477.out).2.1); rintro e w11 ⟨rfl, hb⟩; refine ⟨_, rfl, ?_⟩; have n0_ := Aside0.mk (Kd.R_below (by (with_reducible repeat (first | apply Kd.R_alloc | apply Kd.R_drewN | apply Kd.R_drew)); exact HO477.out) hb); have n1_ := Aside0.mk (blk_below (g := gb474) (o := .cells #[.int .i64 a0_0, .slice A0_1 l0_1.length c0_1, .slice A0_2 l0_2.length c0_2, .int .i64 a0_3, .int .i64 a0_4] 76 (0, 0)) (by (with_reducible repeat (first | refine blk_drewN ?_ _ | refine blk_drew ?_ | refine blk_alloc ?_ _)); exact BK474.out) hb); have n2_ := Aside0.mk (below_step (by repeat (first | (with_reducible first | exact HB.out | apply below_alloc | apply pw_below_drewN | apply below_drew1 | refine below_set ?_ GE474.out) | exact HB.out)) hb); clear HO477; clear BK474; clear HB; have HO477 := n0_; have BK474 := n1_; have HB := n2_; clear n0_ n1_ n2_; (try clear hb); (try clear hb2); (try clear hk); (try clear hi); have hcz12_0 : w11.cell? ⟨gb474, 0, none⟩ = some (.int .i64 a0_0) := (blk_cell BK474.out 0).trans rfl; have hcz12_1 : w11.cell? ⟨gb474, 1, none⟩ = some (.slice A0_1 l0_1.length c0_1) := (blk_cell BK474.out 1).trans rfl; have hcz12_2 : w11.cell? ⟨gb474, 2, none⟩ = some (.slice A0_2 l0_2.length c0_2) := (blk_cell BK474.out 2).trans rfl; have hcz12_3 : w11.cell? ⟨gb474, 3, none⟩ = some (.int .i64 a0_3) := (blk_cell BK474.out 3).trans rfl; have hcz12_4 : w11.cell? ⟨gb474, 4, none⟩ = some (.int .i64 a0_4) := (blk_cell BK474.out 4).trans rfl; have hfz12_0 := blk_frozen BK474.out 0; have hfz12_1 := blk_frozen BK474.out 1; have hfz12_2 := blk_frozen BK474.out 2; have hfz12_3 := blk_frozen BK474.out 3; have hfz12_4 := blk_frozen BK474.out 4) | ((with_reducible refine gate_callee (f := 54) rfl ?_); refine goesL_ (some 21) rfl rfl Try.func54 (by kernel_rfl) rfl #[.slice A0_1 l0_1.length c0_1] rfl (by (try simp only [List.map_toArray, List.map_cons, List.map_nil]); first | done | rfl | (simp only [List.length_drop, List.length_take]; rfl)) ?_; (with_reducible refine (redraftref02_Check.calls k _ _ l0_1 t480 t481 _ ?side1 ?side2 A5.out).mono ?_); (case side1 => repeat (first | exact (Kd.C_below HR0_1.out HB.out) | (with_reducible refine Kd.C_alloc ?_ _) | (with_reducible refine Kd.C_drewN ?_ _) | (with_reducible refine Kd.C_drew ?_))); (case side2 => exact HC0_1.out); rintro e w' ⟨rfl, ⟨nd, rfl⟩⟩; refine ⟨_, rfl, ?_⟩) | ((with_reducible refine gate_callee (f := 60) rfl ?_); refine goesL_ (some 28) rfl rfl Try.func60 (by kernel_rfl) rfl #[.int .i64 t478, .int .i64 t479, .int .i64 t480, .int .i64 t481] rfl (by (try simp only [List.map_toArray, List.map_cons, List.map_nil]); first | done | rfl | (simp only [List.length_drop, List.length_take]; rfl)) ?_; (with_reducible refine (redraftlaw02_number.calls t478 t479 t480 t481 t482 _ A6.out).mono ?_); rintro e w' ⟨rfl, ⟨nd, rfl⟩⟩; refine ⟨_, rfl, ?_⟩))
  go_ret
  exact ⟨by first | rfl | (simp [errW_none, errW_some] <;> rfl) | (simp [*, errW_none, errW_some] <;> rfl), by repeat (first | (with_reducible first | exact HB.out | apply below_alloc | apply pw_below_drewN | apply below_drew1 | refine below_set ?_ GE474.out) | exact HB.out)⟩
 ·rw [if_neg c2] at H
  have c2b0 : (a0_0 == 1) = false := beq_eq_false_iff_ne.mpr c2
  have c2b1 : (a0_0 != 1) = true := bne_iff_ne.mpr c2
  have HC13 := Aside0.mk H
  clear H
  go_enter Try.func57, Try.ntmps57
  go_upto_if 29 with (first | ((with_reducible refine gate_dst (N := 1) rfl ?_); refine box_event ?hg (N := 1) ?hd (cs := #[.int .i64 a0_0, .slice A0_1 l0_1.length c0_1, .slice A0_2 l0_2.length c0_2, .int .i64 a0_3, .int .i64 a0_4]) (t := 76) ?hr ?_; (case hd => rfl); (case hg => rfl); (case hr => first | (go_simp; done) | (go_simp; rfl)); intro gb474 hg w14 hbox hb; have n0_ := Aside0.mk (below_step (by repeat (first | (with_reducible first | exact HB.out | apply below_alloc | apply pw_below_drewN | apply below_drew1) | exact HB.out)) hb); have n1_ := Aside0.mk (hbox); have n2_ := Aside0.mk ((by rw [hg]; exact (below_size (by repeat (first | (with_reducible first | exact HB.out | apply below_alloc | apply pw_below_drewN | apply below_drew1) | exact HB.out))) : w.heap.size ≤ gb474)); have n3_ := Aside0.mk ((by rw [hg]; exact (below_size (by repeat (first | (with_reducible first | exact HB.out | apply below_alloc | apply pw_below_drewN | apply below_drew1) | exact HB.out))) : w.heap.size ≤ gb474)); clear HB; have HB := n0_; have BK474 := n1_; have GW474 := n2_; have GE474 := n3_; clear n0_ n1_ n2_ n3_; clear hb hbox hg; have hcz15_0 : w14.cell? ⟨gb474, 0, none⟩ = some (.int .i64 a0_0) := (blk_cell BK474.out 0).trans rfl; have hcz15_1 : w14.cell? ⟨gb474, 1, none⟩ = some (.slice A0_1 l0_1.length c0_1) := (blk_cell BK474.out 1).trans rfl; have hcz15_2 : w14.cell? ⟨gb474, 2, none⟩ = some (.slice A0_2 l0_2.length c0_2) := (blk_cell BK474.out 2).trans rfl; have hcz15_3 : w14.cell? ⟨gb474, 3, none⟩ = some (.int .i64 a0_3) := (blk_cell BK474.out 3).trans rfl; have hcz15_4 : w14.cell? ⟨gb474, 4, none⟩ = some (.int .i64 a0_4) := (blk_cell BK474.out 4).trans rfl; have hfz15_0 := blk_frozen BK474.out 0; have hfz15_1 := blk_frozen BK474.out 1; have hfz15_2 := blk_frozen BK474.out 2; have hfz15_3 := blk_frozen BK474.out 3; have hfz15_4 := blk_frozen BK474.out 4))
  (try simp only [Act.put, List.setIfInBounds_toArray, List.set_cons_zero, List.set_cons_succ])
  go_cut [29] (fun v29 wc => ∃ (kq : Nat) (x29_12 : Bool), v29 = .bool x29_12 ∧ Aside0 (redraftlaw02_plays.j0 kq a0_0 x29_12 a0_0 l0_1 l0_2 a0_3 a0_4 = some r) ∧ Aside0 (kq ≤ k) ∧ Aside0 (wc.heap[gb474]? = some (.cells #[.int .i64 a0_0, (.slice A0_1 l0_1.length c0_1), (.slice A0_2 l0_2.length c0_2), .int .i64 a0_3, .int .i64 a0_4] 76 (0, 0))) ∧ Aside0 (Below w.heap.size w wc))
  case first =>
   have H := HC13.out
   clear HC13
   by_cases c16 : a0_0 = 2
   ·rw [if_pos c16] at H
    have c16b0 : (a0_0 == 2) = true := beq_iff_eq.mpr c16
    have c16b1 : (a0_0 != 2) = false := bne_eq_false_iff_eq.mpr c16
    clear c16
    (first | rw [c16b0] | rw [c16b1] | (simp only [i64_w, i32_w]; rw [c16b0]) | skip)
    have H' := Aside0.mk H
    clear H
    go_wp2
    go_meet
    case rel => exact ⟨_, ((a0_0 == 2)), (by first | rfl | (simp; done) | (simp [*]; done)), H', ⟨by first | omega | exact Nat.le_refl _⟩, ⟨by (with_reducible repeat (first | refine blk_drewN ?_ _ | refine blk_drew ?_ | refine blk_alloc ?_ _)); exact BK474.out⟩, ⟨by repeat (first | (with_reducible first | exact HB.out | apply below_alloc | apply pw_below_drewN | apply below_drew1 | refine below_set ?_ GE474.out) | exact HB.out)⟩⟩
   ·rw [if_neg c16] at H
    have c16b0 : (a0_0 == 2) = false := beq_eq_false_iff_ne.mpr c16
    have c16b1 : (a0_0 != 2) = true := bne_iff_ne.mpr c16
    (first | rw [c16b0] | rw [c16b1] | (simp only [i64_w, i32_w]; rw [c16b0]) | skip)
    by_cases c17 : a0_0 = 3
    ·rw [if_pos c17] at H
     have c17b0 : (a0_0 == 3) = true := beq_iff_eq.mpr c17
     have c17b1 : (a0_0 != 3) = false := bne_eq_false_iff_eq.mpr c17
     clear c17
     have H' := Aside0.mk H
     clear H
     go_wp2
     go_meet
     case rel => exact ⟨_, ((a0_0 == 3)), (by first | rfl | (simp; done) | (simp [*]; done)), H', ⟨by first | omega | exact Nat.le_refl _⟩, ⟨by (with_reducible repeat (first | refine blk_drewN ?_ _ | refine blk_drew ?_ | refine blk_alloc ?_ _)); exact BK474.out⟩, ⟨by repeat (first | (with_reducible first | exact HB.out | apply below_alloc | apply pw_below_drewN | apply below_drew1 | refine below_set ?_ GE474.out) | exact HB.out)⟩⟩
    ·rw [if_neg c17] at H
     have c17b0 : (a0_0 == 3) = false := beq_eq_false_iff_ne.mpr c17
     have c17b1 : (a0_0 != 3) = true := bne_iff_ne.mpr c17
     by_cases c18 : a0_0 = 4
     ·rw [if_pos c18] at H
      have c18b0 : (a0_0 == 4) = true := beq_iff_eq.mpr c18
      have c18b1 : (a0_0 != 4) = false := bne_eq_false_iff_eq.mpr c18
      clear c18
      have H' := Aside0.mk H
      clear H
      go_wp2
      go_meet
      case rel => exact ⟨_, ((a0_0 == 4)), (by first | rfl | (simp; done) | (simp [*]; done)), H', ⟨by first | omega | exact Nat.le_refl _⟩, ⟨by (with_reducible repeat (first | refine blk_drewN ?_ _ | refine blk_drew ?_ | refine blk_alloc ?_ _)); exact BK474.out⟩, ⟨by repeat (first | (with_reducible first | exact HB.out | apply below_alloc | apply pw_below_drewN | apply below_drew1 | refine below_set ?_ GE474.out) | exact HB.out)⟩⟩
     ·rw [if_neg c18] at H
      have c18b0 : (a0_0 == 4) = false := beq_eq_false_iff_ne.mpr c18
      have c18b1 : (a0_0 != 4) = true := bne_iff_ne.mpr c18
      have H' := Aside0.mk H
      clear H
      go_wp2
      go_meet
      case rel => exact ⟨_, ((a0_0 == 5)), (by first | rfl | (simp; done) | (simp [*]; done)), H', ⟨by first | omega | exact Nat.le_refl _⟩, ⟨by (with_reducible repeat (first | refine blk_drewN ?_ _ | refine blk_drew ?_ | refine blk_alloc ?_ _)); exact BK474.out⟩, ⟨by repeat (first | (with_reducible first | exact HB.out | apply below_alloc | apply pw_below_drewN | apply below_drew1 | refine below_set ?_ GE474.out) | exact HB.out)⟩⟩
  case rest =>
   clear HC13
   try clear c1
   try clear c2
   try clear c2b0
   try clear c2b1
   try clear p2
   try clear c5
   try clear c6
   try clear c16
   try clear c16b0
   try clear c16b1
   try clear c17
   try clear c17b0
   try clear c17b1
   try clear c18
   try clear c18b0
   try clear c18b1
   try clear hcz12_0
   try clear hcz12_1
   try clear hcz12_2
   try clear hcz12_3
   try clear hcz12_4
   try clear hcz15_0
   try clear hcz15_1
   try clear hcz15_2
   try clear hcz15_3
   try clear hcz15_4
   try clear hcz8_0
   try clear hcz8_1
   try clear hcz8_2
   try clear hcz8_3
   try clear hcz8_4
   try clear hfz12_0
   try clear hfz12_1
   try clear hfz12_2
   try clear hfz12_3
   try clear hfz12_4
   try clear hfz15_0
   try clear hfz15_1
   try clear hfz15_2
   try clear hfz15_3
   try clear hfz15_4
   try clear hfz8_0
   try clear hfz8_1
   try clear hfz8_2
   try clear hfz8_3
   try clear hfz8_4
   obtain ⟨kq, x29_12, rfl, HA, HJ12, BK474, HB⟩ := hcut
   cases kq with
   | zero => exact absurd HA.out (by simp [redraftlaw02_plays.j0])
   | succ kj12 =>
    have H := HA.out
    clear HA
    simp only [redraftlaw02_plays.j0] at H
    by_cases c19 : x29_12 = true
    ·subst c19
     have H1 : ((redraftlaw02_sets.f a0_0 l0_1 l0_2 a0_3 a0_4).bind fun t483 => (some t483)) = some r := by rw [if_pos rfl] at H; exact H
     clear H
     have H := H1
     clear H1
     replace H := Option.bind_eq_some_iff.mp H
     obtain ⟨t483, A200, H⟩ := H
     replace H : (some t483) = some r := H
     have A20 := Aside0.mk A200
     clear A200
     obtain rfl := Option.some.inj H
     have hcz21_0 : wc.cell? ⟨gb474, 0, none⟩ = some (.int .i64 a0_0) := (blk_cell BK474.out 0).trans rfl
     have hcz21_1 : wc.cell? ⟨gb474, 1, none⟩ = some (.slice A0_1 l0_1.length c0_1) := (blk_cell BK474.out 1).trans rfl
     have hcz21_2 : wc.cell? ⟨gb474, 2, none⟩ = some (.slice A0_2 l0_2.length c0_2) := (blk_cell BK474.out 2).trans rfl
     have hcz21_3 : wc.cell? ⟨gb474, 3, none⟩ = some (.int .i64 a0_3) := (blk_cell BK474.out 3).trans rfl
     have hcz21_4 : wc.cell? ⟨gb474, 4, none⟩ = some (.int .i64 a0_4) := (blk_cell BK474.out 4).trans rfl
     have hfz21_0 := blk_frozen BK474.out 0
     have hfz21_1 := blk_frozen BK474.out 1
     have hfz21_2 := blk_frozen BK474.out 2
     have hfz21_3 := blk_frozen BK474.out 3
     have hfz21_4 := blk_frozen BK474.out 4
     go_wp2_with (first | ((with_reducible refine gate_callee (f := 61) rfl ?_); refine goesL_ (some 35) rfl rfl Try.func61 (by kernel_rfl) rfl #[.agg #[.int .i64 a0_0, .slice A0_1 l0_1.length c0_1, .slice A0_2 l0_2.length c0_2, .int .i64 a0_3, .int .i64 a0_4]] rfl (by (try simp only [List.map_toArray, List.map_cons, List.map_nil]); first | done | rfl | (simp only [List.length_drop, List.length_take]; rfl)) ?_; (with_reducible refine (redraftlaw02_sets.calls a0_0 _ _ l0_1 _ _ l0_2 a0_3 a0_4 t483 _ ?side1 ?side2 ?side3 ?side4 A20.out).mono ?_); (case side1 => repeat (first | exact (Kd.C_below HR0_1.out HB.out) | (with_reducible refine Kd.C_alloc ?_ _) | (with_reducible refine Kd.C_drewN ?_ _) | (with_reducible refine Kd.C_drew ?_))); (case side2 => exact HC0_1.out); (case side3 => repeat (first | exact (Kd.C_below HR0_2.out HB.out) | (with_reducible refine Kd.C_alloc ?_ _) | (with_reducible refine Kd.C_drewN ?_ _) | (with_reducible refine Kd.C_drew ?_))); (case side4 => exact HC0_2.out); rintro e w22 ⟨rfl, hb⟩; refine ⟨_, rfl, ?_⟩; have n0_ := Aside0.mk (blk_below (g := gb474) (o := .cells #[.int .i64 a0_0, .slice A0_1 l0_1.length c0_1, .slice A0_2 l0_2.length c0_2, .int .i64 a0_3, .int .i64 a0_4] 76 (0, 0)) (by (with_reducible repeat (first | refine blk_drewN ?_ _ | refine blk_drew ?_ | refine blk_alloc ?_ _)); exact BK474.out) hb); have n1_ := Aside0.mk (below_step (by repeat (first | (with_reducible first | exact HB.out | apply below_alloc | apply pw_below_drewN | apply below_drew1 | refine below_set ?_ GE474.out) | exact HB.out)) hb); clear BK474; clear HB; have BK474 := n0_; have HB := n1_; clear n0_ n1_; (try clear hb); (try clear hb2); (try clear hk); (try clear hi)))
     go_ret
     exact ⟨by first | rfl | (simp [errW_none, errW_some] <;> rfl) | (simp [*, errW_none, errW_some] <;> rfl), by repeat (first | (with_reducible first | exact HB.out | apply below_alloc | apply pw_below_drewN | apply below_drew1 | refine below_set ?_ GE474.out) | exact HB.out)⟩
    ·replace c19 := Bool.eq_false_iff.mpr c19
     subst c19
     have H1 : (if a0_0 = 6 then (redraftlaw02_plays.j1 kj12 a0_0 (a0_0 == 6) a0_0 l0_1 l0_2 a0_3 a0_4) else (if a0_0 = 7 then (redraftlaw02_plays.j1 kj12 a0_0 (a0_0 == 7) a0_0 l0_1 l0_2 a0_3 a0_4) else (redraftlaw02_plays.j1 kj12 a0_0 (a0_0 == 8) a0_0 l0_1 l0_2 a0_3 a0_4))) = some r := by rw [if_neg (show ¬ (false = true) by decide)] at H; exact H
     clear H
     have H := H1
     clear H1
     have HC23 := Aside0.mk H
     clear H
     go_upto_if 36 with (fail)
     go_cut [36] (fun v36 wc => ∃ (kq : Nat) (x36_22 : Bool), v36 = .bool x36_22 ∧ Aside0 (redraftlaw02_plays.j1 kq a0_0 x36_22 a0_0 l0_1 l0_2 a0_3 a0_4 = some r) ∧ Aside0 (kq ≤ kj12) ∧ Aside0 (wc.heap[gb474]? = some (.cells #[.int .i64 a0_0, (.slice A0_1 l0_1.length c0_1), (.slice A0_2 l0_2.length c0_2), .int .i64 a0_3, .int .i64 a0_4] 76 (0, 0))) ∧ Aside0 (Below w.heap.size w wc))
     case first =>
      have H := HC23.out
      clear HC23
      by_cases c24 : a0_0 = 6
      ·rw [if_pos c24] at H
       have c24b0 : (a0_0 == 6) = true := beq_iff_eq.mpr c24
       have c24b1 : (a0_0 != 6) = false := bne_eq_false_iff_eq.mpr c24
       clear c24
       (first | rw [c24b0] | rw [c24b1] | (simp only [i64_w, i32_w]; rw [c24b0]) | skip)
       have H' := Aside0.mk H
       clear H
       go_wp2
       go_meet
       case rel => exact ⟨_, ((a0_0 == 6)), (by first | rfl | (simp; done) | (simp [*]; done)), H', ⟨by have := HJ12.out; first | omega | exact Nat.le_refl _⟩, ⟨by (with_reducible repeat (first | refine blk_drewN ?_ _ | refine blk_drew ?_ | refine blk_alloc ?_ _)); exact BK474.out⟩, ⟨by repeat (first | (with_reducible first | exact HB.out | apply below_alloc | apply pw_below_drewN | apply below_drew1 | refine below_set ?_ GE474.out) | exact HB.out)⟩⟩
      ·rw [if_neg c24] at H
       have c24b0 : (a0_0 == 6) = false := beq_eq_false_iff_ne.mpr c24
       have c24b1 : (a0_0 != 6) = true := bne_iff_ne.mpr c24
       (first | rw [c24b0] | rw [c24b1] | (simp only [i64_w, i32_w]; rw [c24b0]) | skip)
       by_cases c25 : a0_0 = 7
       ·rw [if_pos c25] at H
        have c25b0 : (a0_0 == 7) = true := beq_iff_eq.mpr c25
        have c25b1 : (a0_0 != 7) = false := bne_eq_false_iff_eq.mpr c25
        clear c25
        have H' := Aside0.mk H
        clear H
        go_wp2
        go_meet
        case rel => exact ⟨_, ((a0_0 == 7)), (by first | rfl | (simp; done) | (simp [*]; done)), H', ⟨by have := HJ12.out; first | omega | exact Nat.le_refl _⟩, ⟨by (with_reducible repeat (first | refine blk_drewN ?_ _ | refine blk_drew ?_ | refine blk_alloc ?_ _)); exact BK474.out⟩, ⟨by repeat (first | (with_reducible first | exact HB.out | apply below_alloc | apply pw_below_drewN | apply below_drew1 | refine below_set ?_ GE474.out) | exact HB.out)⟩⟩
       ·rw [if_neg c25] at H
        have c25b0 : (a0_0 == 7) = false := beq_eq_false_iff_ne.mpr c25
        have c25b1 : (a0_0 != 7) = true := bne_iff_ne.mpr c25
        have H' := Aside0.mk H
        clear H
        go_wp2
        go_meet
        case rel => exact ⟨_, ((a0_0 == 8)), (by first | rfl | (simp; done) | (simp [*]; done)), H', ⟨by have := HJ12.out; first | omega | exact Nat.le_refl _⟩, ⟨by (with_reducible repeat (first | refine blk_drewN ?_ _ | refine blk_drew ?_ | refine blk_alloc ?_ _)); exact BK474.out⟩, ⟨by repeat (first | (with_reducible first | exact HB.out | apply below_alloc | apply pw_below_drewN | apply below_drew1 | refine below_set ?_ GE474.out) | exact HB.out)⟩⟩
     case rest =>
      clear HC23
      try clear c1
      try clear c2
      try clear c2b0
      try clear c2b1
      try clear p2
      try clear c5
      try clear c6
      try clear c16
      try clear c16b0
      try clear c16b1
      try clear c17
      try clear c17b0
      try clear c17b1
      try clear c18
      try clear c18b0
      try clear c18b1
      try clear c19
      try clear c24
      try clear c24b0
      try clear c24b1
      try clear c25
      try clear c25b0
      try clear c25b1
      try clear hcz12_0
      try clear hcz12_1
      try clear hcz12_2
      try clear hcz12_3
      try clear hcz12_4
      try clear hcz15_0
      try clear hcz15_1
      try clear hcz15_2
      try clear hcz15_3
      try clear hcz15_4
      try clear hcz21_0
      try clear hcz21_1
      try clear hcz21_2
      try clear hcz21_3
      try clear hcz21_4
      try clear hcz8_0
      try clear hcz8_1
      try clear hcz8_2
      try clear hcz8_3
      try clear hcz8_4
      try clear hfz12_0
      try clear hfz12_1
      try clear hfz12_2
      try clear hfz12_3
      try clear hfz12_4
      try clear hfz15_0
      try clear hfz15_1
      try clear hfz15_2
      try clear hfz15_3
      try clear hfz15_4
      try clear hfz21_0
      try clear hfz21_1
      try clear hfz21_2
      try clear hfz21_3
      try clear hfz21_4
      try clear hfz8_0
      try clear hfz8_1
      try clear hfz8_2
      try clear hfz8_3
      try clear hfz8_4
      try clear p2
      obtain ⟨kq, x36_22, rfl, HA, HJ22, BK474, HB⟩ := hcut
      cases kq with
      | zero => exact absurd HA.out (by simp [redraftlaw02_plays.j1])
      | succ kj22 =>
       have H := HA.out
       clear HA
       simp only [redraftlaw02_plays.j1] at H
       by_cases c26 : x36_22 = true
       ·subst c26
        have H1 : ((redraftlaw02_counts.f a0_0 l0_1 l0_2 a0_3 a0_4).bind fun t484 => (some t484)) = some r := by rw [if_pos rfl] at H; exact H
        clear H
        have H := H1
        clear H1
        replace H := Option.bind_eq_some_iff.mp H
        obtain ⟨t484, A270, H⟩ := H
        replace H : (some t484) = some r := H
        have A27 := Aside0.mk A270
        clear A270
        obtain rfl := Option.some.inj H
        have hcz28_0 : wc.cell? ⟨gb474, 0, none⟩ = some (.int .i64 a0_0) := (blk_cell BK474.out 0).trans rfl
        have hcz28_1 : wc.cell? ⟨gb474, 1, none⟩ = some (.slice A0_1 l0_1.length c0_1) := (blk_cell BK474.out 1).trans rfl
        have hcz28_2 : wc.cell? ⟨gb474, 2, none⟩ = some (.slice A0_2 l0_2.length c0_2) := (blk_cell BK474.out 2).trans rfl
        have hcz28_3 : wc.cell? ⟨gb474, 3, none⟩ = some (.int .i64 a0_3) := (blk_cell BK474.out 3).trans rfl
        have hcz28_4 : wc.cell? ⟨gb474, 4, none⟩ = some (.int .i64 a0_4) := (blk_cell BK474.out 4).trans rfl
        have hfz28_0 := blk_frozen BK474.out 0
        have hfz28_1 := blk_frozen BK474.out 1
        have hfz28_2 := blk_frozen BK474.out 2
        have hfz28_3 := blk_frozen BK474.out 3
        have hfz28_4 := blk_frozen BK474.out 4
        go_wp2_with (first | ((with_reducible refine gate_callee (f := 62) rfl ?_); refine goesL_ (some 41) rfl rfl Try.func62 (by kernel_rfl) rfl #[.agg #[.int .i64 a0_0, .slice A0_1 l0_1.length c0_1, .slice A0_2 l0_2.length c0_2, .int .i64 a0_3, .int .i64 a0_4]] rfl (by (try simp only [List.map_toArray, List.map_cons, List.map_nil]); first | done | rfl | (simp only [List.length_drop, List.length_take]; rfl)) ?_; (with_reducible refine (redraftlaw02_counts.calls a0_0 _ _ l0_1 _ _ l0_2 a0_3 a0_4 t484 _ ?side1 ?side2 ?side3 ?side4 A27.out).mono ?_); (case side1 => repeat (first | exact (Kd.C_below HR0_1.out HB.out) | (with_reducible refine Kd.C_alloc ?_ _) | (with_reducible refine Kd.C_drewN ?_ _) | (with_reducible refine Kd.C_drew ?_))); (case side2 => exact HC0_1.out); (case side3 => repeat (first | exact (Kd.C_below HR0_2.out HB.out) | (with_reducible refine Kd.C_alloc ?_ _) | (with_reducible refine Kd.C_drewN ?_ _) | (with_reducible refine Kd.C_drew ?_))); (case side4 => exact HC0_2.out); rintro e w29 ⟨rfl, hb⟩; refine ⟨_, rfl, ?_⟩; have n0_ := Aside0.mk (blk_below (g := gb474) (o := .cells #[.int .i64 a0_0, .slice A0_1 l0_1.length c0_1, .slice A0_2 l0_2.length c0_2, .int .i64 a0_3, .int .i64 a0_4] 76 (0, 0)) (by (with_reducible repeat (first | refine blk_drewN ?_ _ | refine blk_drew ?_ | refine blk_alloc ?_ _)); exact BK474.out) hb); have n1_ := Aside0.mk (below_step (by repeat (first | (with_reducible first | exact HB.out | apply below_alloc | apply pw_below_drewN | apply below_drew1 | refine below_set ?_ GE474.out) | exact HB.out)) hb); clear BK474; clear HB; have BK474 := n0_; have HB := n1_; clear n0_ n1_; (try clear hb); (try clear hb2); (try clear hk); (try clear hi)))
        go_ret
        exact ⟨by first | rfl | (simp [errW_none, errW_some] <;> rfl) | (simp [*, errW_none, errW_some] <;> rfl), by repeat (first | (with_reducible first | exact HB.out | apply below_alloc | apply pw_below_drewN | apply below_drew1 | refine below_set ?_ GE474.out) | exact HB.out)⟩
       ·replace c26 := Bool.eq_false_iff.mpr c26
        subst c26
        have H1 : (if a0_0 = 9 then (redraftlaw02_plays.j2 kj22 a0_0 (a0_0 == 9) a0_0 l0_1 l0_2 a0_3 a0_4) else (redraftlaw02_plays.j2 kj22 a0_0 (a0_0 == 10) a0_0 l0_1 l0_2 a0_3 a0_4)) = some r := by rw [if_neg (show ¬ (false = true) by decide)] at H; exact H
        clear H
        have H := H1
        clear H1
        have HC30 := Aside0.mk H
        clear H
        go_upto_if 42 with (fail)
        go_cut [42] (fun v42 wc => ∃ (kq : Nat) (x42_29 : Bool), v42 = .bool x42_29 ∧ Aside0 (redraftlaw02_plays.j2 kq a0_0 x42_29 a0_0 l0_1 l0_2 a0_3 a0_4 = some r) ∧ Aside0 (kq ≤ kj22) ∧ Aside0 (wc.heap[gb474]? = some (.cells #[.int .i64 a0_0, (.slice A0_1 l0_1.length c0_1), (.slice A0_2 l0_2.length c0_2), .int .i64 a0_3, .int .i64 a0_4] 76 (0, 0))) ∧ Aside0 (Below w.heap.size w wc))
        case first =>
         have H := HC30.out
         clear HC30
         by_cases c31 : a0_0 = 9
         ·rw [if_pos c31] at H
          have c31b0 : (a0_0 == 9) = true := beq_iff_eq.mpr c31
          have c31b1 : (a0_0 != 9) = false := bne_eq_false_iff_eq.mpr c31
          clear c31
          (first | rw [c31b0] | rw [c31b1] | (simp only [i64_w, i32_w]; rw [c31b0]) | skip)
          have H' := Aside0.mk H
          clear H
          go_wp2
          go_meet
          case rel => exact ⟨_, ((a0_0 == 9)), (by first | rfl | (simp; done) | (simp [*]; done)), H', ⟨by have := HJ12.out; have := HJ22.out; first | omega | exact Nat.le_refl _⟩, ⟨by (with_reducible repeat (first | refine blk_drewN ?_ _ | refine blk_drew ?_ | refine blk_alloc ?_ _)); exact BK474.out⟩, ⟨by repeat (first | (with_reducible first | exact HB.out | apply below_alloc | apply pw_below_drewN | apply below_drew1 | refine below_set ?_ GE474.out) | exact HB.out)⟩⟩
         ·rw [if_neg c31] at H
          have c31b0 : (a0_0 == 9) = false := beq_eq_false_iff_ne.mpr c31
          have c31b1 : (a0_0 != 9) = true := bne_iff_ne.mpr c31
          (first | rw [c31b0] | rw [c31b1] | (simp only [i64_w, i32_w]; rw [c31b0]) | skip)
          have H' := Aside0.mk H
          clear H
          go_wp2
          go_meet
          case rel => exact ⟨_, ((a0_0 == 10)), (by first | rfl | (simp; done) | (simp [*]; done)), H', ⟨by have := HJ12.out; have := HJ22.out; first | omega | exact Nat.le_refl _⟩, ⟨by (with_reducible repeat (first | refine blk_drewN ?_ _ | refine blk_drew ?_ | refine blk_alloc ?_ _)); exact BK474.out⟩, ⟨by repeat (first | (with_reducible first | exact HB.out | apply below_alloc | apply pw_below_drewN | apply below_drew1 | refine below_set ?_ GE474.out) | exact HB.out)⟩⟩
        case rest =>
         clear HC30
         try clear c1
         try clear c2
         try clear c2b0
         try clear c2b1
         try clear p2
         try clear c3
         try clear c5
         try clear c6
         try clear c16
         try clear c16b0
         try clear c16b1
         try clear c17
         try clear c17b0
         try clear c17b1
         try clear c18
         try clear c18b0
         try clear c18b1
         try clear c19
         try clear c24
         try clear c24b0
         try clear c24b1
         try clear c25
         try clear c25b0
         try clear c25b1
         try clear c26
         try clear c31
         try clear c31b0
         try clear c31b1
         try clear hcz12_0
         try clear hcz12_1
         try clear hcz12_2
         try clear hcz12_3
         try clear hcz12_4
         try clear hcz15_0
         try clear hcz15_1
         try clear hcz15_2
         try clear hcz15_3
         try clear hcz15_4
         try clear hcz21_0
         try clear hcz21_1
         try clear hcz21_2
         try clear hcz21_3
         try clear hcz21_4
         try clear hcz28_0
         try clear hcz28_1
         try clear hcz28_2
         try clear hcz28_3
         try clear hcz28_4
         try clear hcz8_0
         try clear hcz8_1
         try clear hcz8_2
         try clear hcz8_3
         try clear hcz8_4
         try clear hfz12_0
         try clear hfz12_1
         try clear hfz12_2
         try clear hfz12_3
         try clear hfz12_4
         try clear hfz15_0
         try clear hfz15_1
         try clear hfz15_2
         try clear hfz15_3
         try clear hfz15_4
         try clear hfz21_0
         try clear hfz21_1
         try clear hfz21_2
         try clear hfz21_3
         try clear hfz21_4
         try clear hfz28_0
         try clear hfz28_1
         try clear hfz28_2
         try clear hfz28_3
         try clear hfz28_4
         try clear hfz8_0
         try clear hfz8_1
         try clear hfz8_2
         try clear hfz8_3
         try clear hfz8_4
         try clear p2
         obtain ⟨kq, x42_29, rfl, HA, HJ29, BK474, HB⟩ := hcut
         cases kq with
         | zero => exact absurd HA.out (by simp [redraftlaw02_plays.j2])
         | succ kj29 =>
          have H := HA.out
          clear HA
          simp only [redraftlaw02_plays.j2] at H
          by_cases c32 : x42_29 = true
          ·subst c32
           have H1 : ((redraftlaw02_moves.f a0_0 l0_1 l0_2 a0_3 a0_4).bind fun t485 => (some t485)) = some r := by rw [if_pos rfl] at H; exact H
           clear H
           have H := H1
           clear H1
           replace H := Option.bind_eq_some_iff.mp H
           obtain ⟨t485, A330, H⟩ := H
           replace H : (some t485) = some r := H
           have A33 := Aside0.mk A330
           clear A330
           obtain rfl := Option.some.inj H
           have hcz34_0 : wc.cell? ⟨gb474, 0, none⟩ = some (.int .i64 a0_0) := (blk_cell BK474.out 0).trans rfl
           have hcz34_1 : wc.cell? ⟨gb474, 1, none⟩ = some (.slice A0_1 l0_1.length c0_1) := (blk_cell BK474.out 1).trans rfl
           have hcz34_2 : wc.cell? ⟨gb474, 2, none⟩ = some (.slice A0_2 l0_2.length c0_2) := (blk_cell BK474.out 2).trans rfl
           have hcz34_3 : wc.cell? ⟨gb474, 3, none⟩ = some (.int .i64 a0_3) := (blk_cell BK474.out 3).trans rfl
           have hcz34_4 : wc.cell? ⟨gb474, 4, none⟩ = some (.int .i64 a0_4) := (blk_cell BK474.out 4).trans rfl
           have hfz34_0 := blk_frozen BK474.out 0
           have hfz34_1 := blk_frozen BK474.out 1
           have hfz34_2 := blk_frozen BK474.out 2
           have hfz34_3 := blk_frozen BK474.out 3
           have hfz34_4 := blk_frozen BK474.out 4
           go_wp2_with (first | ((with_reducible refine gate_callee (f := 63) rfl ?_); refine goesL_ (some 46) rfl rfl Try.func63 (by kernel_rfl) rfl #[.agg #[.int .i64 a0_0, .slice A0_1 l0_1.length c0_1, .slice A0_2 l0_2.length c0_2, .int .i64 a0_3, .int .i64 a0_4]] rfl (by (try simp only [List.map_toArray, List.map_cons, List.map_nil]); first | done | rfl | (simp only [List.length_drop, List.length_take]; rfl)) ?_; (with_reducible refine (redraftlaw02_moves.calls a0_0 _ _ l0_1 _ _ l0_2 a0_3 a0_4 t485 _ ?side1 ?side2 ?side3 ?side4 A33.out).mono ?_); (case side1 => repeat (first | exact (Kd.C_below HR0_1.out HB.out) | (with_reducible refine Kd.C_alloc ?_ _) | (with_reducible refine Kd.C_drewN ?_ _) | (with_reducible refine Kd.C_drew ?_))); (case side2 => exact HC0_1.out); (case side3 => repeat (first | exact (Kd.C_below HR0_2.out HB.out) | (with_reducible refine Kd.C_alloc ?_ _) | (with_reducible refine Kd.C_drewN ?_ _) | (with_reducible refine Kd.C_drew ?_))); (case side4 => exact HC0_2.out); rintro e w35 ⟨rfl, hb⟩; refine ⟨_, rfl, ?_⟩; have n0_ := Aside0.mk (blk_below (g := gb474) (o := .cells #[.int .i64 a0_0, .slice A0_1 l0_1.length c0_1, .slice A0_2 l0_2.length c0_2, .int .i64 a0_3, .int .i64 a0_4] 76 (0, 0)) (by (with_reducible repeat (first | refine blk_drewN ?_ _ | refine blk_drew ?_ | refine blk_alloc ?_ _)); exact BK474.out) hb); have n1_ := Aside0.mk (below_step (by repeat (first | (with_reducible first | exact HB.out | apply below_alloc | apply pw_below_drewN | apply below_drew1 | refine below_set ?_ GE474.out) | exact HB.out)) hb); clear BK474; clear HB; have BK474 := n0_; have HB := n1_; clear n0_ n1_; (try clear hb); (try clear hb2); (try clear hk); (try clear hi)))
           go_ret
           exact ⟨by first | rfl | (simp [errW_none, errW_some] <;> rfl) | (simp [*, errW_none, errW_some] <;> rfl), by repeat (first | (with_reducible first | exact HB.out | apply below_alloc | apply pw_below_drewN | apply below_drew1 | refine below_set ?_ GE474.out) | exact HB.out)⟩
          ·replace c32 := Bool.eq_false_iff.mpr c32
           subst c32
           have H1 : (if a0_0 = 11 then ((redraftlaw02_gives.f kj29 a0_0 l0_1 l0_2 a0_3 a0_4).bind fun t486 => (some t486)) else (some true)) = some r := by rw [if_neg (show ¬ (false = true) by decide)] at H; exact H
           clear H
           have H := H1
           clear H1
           by_cases c36 : a0_0 = 11
           ·rw [if_pos c36] at H
            have c36b0 : (a0_0 == 11) = true := beq_iff_eq.mpr c36
            have c36b1 : (a0_0 != 11) = false := bne_eq_false_iff_eq.mpr c36
            clear c36
            replace H := Option.bind_eq_some_iff.mp H
            obtain ⟨t486, A370, H⟩ := H
            replace H : (some t486) = some r := H
            have A37 := Aside0.mk A370
            clear A370
            obtain rfl := Option.some.inj H
            have hcz38_0 : wc.cell? ⟨gb474, 0, none⟩ = some (.int .i64 a0_0) := (blk_cell BK474.out 0).trans rfl
            have hcz38_1 : wc.cell? ⟨gb474, 1, none⟩ = some (.slice A0_1 l0_1.length c0_1) := (blk_cell BK474.out 1).trans rfl
            have hcz38_2 : wc.cell? ⟨gb474, 2, none⟩ = some (.slice A0_2 l0_2.length c0_2) := (blk_cell BK474.out 2).trans rfl
            have hcz38_3 : wc.cell? ⟨gb474, 3, none⟩ = some (.int .i64 a0_3) := (blk_cell BK474.out 3).trans rfl
            have hcz38_4 : wc.cell? ⟨gb474, 4, none⟩ = some (.int .i64 a0_4) := (blk_cell BK474.out 4).trans rfl
            have hfz38_0 := blk_frozen BK474.out 0
            have hfz38_1 := blk_frozen BK474.out 1
            have hfz38_2 := blk_frozen BK474.out 2
            have hfz38_3 := blk_frozen BK474.out 3
            have hfz38_4 := blk_frozen BK474.out 4
            go_wp2_with (first | ((with_reducible refine gate_callee (f := 64) rfl ?_); refine goesL_ (some 50) rfl rfl Try.func64 (by kernel_rfl) rfl #[.agg #[.int .i64 a0_0, .slice A0_1 l0_1.length c0_1, .slice A0_2 l0_2.length c0_2, .int .i64 a0_3, .int .i64 a0_4]] rfl (by (try simp only [List.map_toArray, List.map_cons, List.map_nil]); first | done | rfl | (simp only [List.length_drop, List.length_take]; rfl)) ?_; (with_reducible refine (redraftlaw02_gives.calls kj29 a0_0 _ _ l0_1 _ _ l0_2 a0_3 a0_4 t486 _ ?side1 ?side2 ?side3 ?side4 A37.out).mono ?_); (case side1 => repeat (first | exact (Kd.C_below HR0_1.out HB.out) | (with_reducible refine Kd.C_alloc ?_ _) | (with_reducible refine Kd.C_drewN ?_ _) | (with_reducible refine Kd.C_drew ?_))); (case side2 => exact HC0_1.out); (case side3 => repeat (first | exact (Kd.C_below HR0_2.out HB.out) | (with_reducible refine Kd.C_alloc ?_ _) | (with_reducible refine Kd.C_drewN ?_ _) | (with_reducible refine Kd.C_drew ?_))); (case side4 => exact HC0_2.out); rintro e w39 ⟨rfl, hb⟩; refine ⟨_, rfl, ?_⟩; have n0_ := Aside0.mk (blk_below (g := gb474) (o := .cells #[.int .i64 a0_0, .slice A0_1 l0_1.length c0_1, .slice A0_2 l0_2.length c0_2, .int .i64 a0_3, .int .i64 a0_4] 76 (0, 0)) (by (with_reducible repeat (first | refine blk_drewN ?_ _ | refine blk_drew ?_ | refine blk_alloc ?_ _)); exact BK474.out) hb); have n1_ := Aside0.mk (below_step (by repeat (first | (with_reducible first | exact HB.out | apply below_alloc | apply pw_below_drewN | apply below_drew1 | refine below_set ?_ GE474.out) | exact HB.out)) hb); clear BK474; clear HB; have BK474 := n0_; have HB := n1_; clear n0_ n1_; (try clear hb); (try clear hb2); (try clear hk); (try clear hi)))
            go_ret
            exact ⟨by first | rfl | (simp [errW_none, errW_some] <;> rfl) | (simp [*, errW_none, errW_some] <;> rfl), by repeat (first | (with_reducible first | exact HB.out | apply below_alloc | apply pw_below_drewN | apply below_drew1 | refine below_set ?_ GE474.out) | exact HB.out)⟩
           ·rw [if_neg c36] at H
            have c36b0 : (a0_0 == 11) = false := beq_eq_false_iff_ne.mpr c36
            have c36b1 : (a0_0 != 11) = true := bne_iff_ne.mpr c36
            obtain rfl := Option.some.inj H
            go_wp2
            go_ret
            exact ⟨by first | rfl | (simp [errW_none, errW_some] <;> rfl) | (simp [*, errW_none, errW_some] <;> rfl), by repeat (first | (with_reducible first | exact HB.out | apply below_alloc | apply pw_below_drewN | apply below_drew1 | refine below_set ?_ GE474.out) | exact HB.out)⟩
end Go.Proofs.Ytmidiifgdloojaa.Kg
end
section
namespace Go.Proofs.Ytmidiifgdloojaa.Kg
open Go.Proofs.Ytmidiifgdloojaa.Pr
open Go.RowKit Go.Proofs.YtmidiifgdloojaaW.PrintWords Go.Proofs.YtmidiifgdloojaaW.PrintLast Go.Proofs.YtmidiifgdloojaaW.PrintMore
attribute [local go_sem] max2_int min2_int max_two min_two max_three min_three max_four min_four
set_option linter.unusedVariables false
set_option linter.unusedSimpArgs false
mutual
def redraftlaw02_upTo.l0 : Nat → List (S76) → Int → Int → Int → Option (Bool)
 | 0, _, _, _, _ => none
 | k + 1, x0, x1, x2, x7 => if x7 < (x0.length : Int) then (if 0 ≤ x7 then (if ((rd_T76 x0 x7).f0) ≥ x1 then (redraftlaw02_upTo.j1 k x0 x1 x2 x7 (decide (((rd_T76 x0 x7).f0) ≤ x2)) ((rd_T76 x0 x7).f0) ((rd_T76 x0 x7).f1) ((rd_T76 x0 x7).f2) ((rd_T76 x0 x7).f3) ((rd_T76 x0 x7).f4)) else (redraftlaw02_upTo.j1 k x0 x1 x2 x7 false ((rd_T76 x0 x7).f0) ((rd_T76 x0 x7).f1) ((rd_T76 x0 x7).f2) ((rd_T76 x0 x7).f3) ((rd_T76 x0 x7).f4))) else (none)) else (some true)
def redraftlaw02_upTo.j1 : Nat → List (S76) → Int → Int → Int → Bool → Int → List (S36) → List (S36) → Int → Int → Option (Bool)
 | 0, _, _, _, _, _, _, _, _, _, _ => none
 | k + 1, x0, x1, x2, x7, x29, x489000, x489001, x489002, x489003, x489004 => if x29 = true then ((redraftlaw02_plays.f k x489000 x489001 x489002 x489003 x489004).bind fun t489 => (if t489 = true then (redraftlaw02_upTo.l0 k x0 x1 x2 (wrap64 (x7 + 1))) else (some false))) else (redraftlaw02_upTo.l0 k x0 x1 x2 (wrap64 (x7 + 1)))
end
def redraftlaw02_upTo.f (k : Nat) (l0 : List (S76)) (a1 : Int) (a2 : Int) : Option (Bool) := redraftlaw02_upTo.l0 k l0 a1 a2 0
theorem redraftlaw02_upTo.mono_l : ∀ k, (∀ y0 y1 y2 y3, LeO (redraftlaw02_upTo.l0 k y0 y1 y2 y3) (redraftlaw02_upTo.l0 (k + 1) y0 y1 y2 y3)) ∧ (∀ y0 y1 y2 y3 y4 y5 y6 y7 y8 y9, LeO (redraftlaw02_upTo.j1 k y0 y1 y2 y3 y4 y5 y6 y7 y8 y9) (redraftlaw02_upTo.j1 (k + 1) y0 y1 y2 y3 y4 y5 y6 y7 y8 y9))
 | 0 => ⟨fun _ _ _ _ r h => by simp [redraftlaw02_upTo.l0] at h, fun _ _ _ _ _ _ _ _ _ _ r h => by simp [redraftlaw02_upTo.j1] at h⟩
 | k + 1 => by
  obtain ⟨ih0, ih1⟩ := redraftlaw02_upTo.mono_l k
  refine ⟨?_, ?_⟩
  ·intro y0 y1 y2 y3
   unfold redraftlaw02_upTo.l0
   repeat' first
   | (with_reducible exact ih0 _ _ _ _)
   | (with_reducible exact ih1 _ _ _ _ _ _ _ _ _ _)
   | (with_reducible exact redraftlaw02_plays.mono _ _ _ _ _ _)
   | (with_reducible exact LeO.refl _)
   | (with_reducible exact LeO.none _)
   | (with_reducible refine LeO.ite ?_ ?_)
   | (with_reducible refine LeO.bind ?_ (fun _ => ?_))
   | exact ih0 _ _ _ _
   | exact ih1 _ _ _ _ _ _ _ _ _ _
   | exact redraftlaw02_plays.mono _ _ _ _ _ _
   | exact LeO.none _
   | refine LeO.ite ?_ ?_
   | refine LeO.bind ?_ (fun _ => ?_)
  ·intro y0 y1 y2 y3 y4 y5 y6 y7 y8 y9
   unfold redraftlaw02_upTo.j1
   repeat' first
   | (with_reducible exact ih0 _ _ _ _)
   | (with_reducible exact ih1 _ _ _ _ _ _ _ _ _ _)
   | (with_reducible exact redraftlaw02_plays.mono _ _ _ _ _ _)
   | (with_reducible exact LeO.refl _)
   | (with_reducible exact LeO.none _)
   | (with_reducible refine LeO.ite ?_ ?_)
   | (with_reducible refine LeO.bind ?_ (fun _ => ?_))
   | exact ih0 _ _ _ _
   | exact ih1 _ _ _ _ _ _ _ _ _ _
   | exact redraftlaw02_plays.mono _ _ _ _ _ _
   | exact LeO.none _
   | refine LeO.ite ?_ ?_
   | refine LeO.bind ?_ (fun _ => ?_)
theorem redraftlaw02_upTo.mono : ∀ a0 a1 a2 k, LeO (redraftlaw02_upTo.f k a0 a1 a2) (redraftlaw02_upTo.f (k + 1) a0 a1 a2) := by
 intro a0 a1 a2 k
 obtain ⟨ih0, ih1⟩ := redraftlaw02_upTo.mono_l k
 unfold redraftlaw02_upTo.f
 repeat' first
   | (with_reducible exact ih0 _ _ _ _)
   | (with_reducible exact ih1 _ _ _ _ _ _ _ _ _ _)
   | (with_reducible exact redraftlaw02_plays.mono _ _ _ _ _ _)
   | (with_reducible exact LeO.refl _)
   | (with_reducible exact LeO.none _)
   | (with_reducible refine LeO.ite ?_ ?_)
   | (with_reducible refine LeO.bind ?_ (fun _ => ?_))
   | exact ih0 _ _ _ _
   | exact ih1 _ _ _ _ _ _ _ _ _ _
   | exact redraftlaw02_plays.mono _ _ _ _ _ _
   | exact LeO.none _
   | refine LeO.ite ?_ ?_
   | refine LeO.bind ?_ (fun _ => ?_)
set_option maxHeartbeats 8000000 in
set_option maxRecDepth 100000 in
theorem redraftlaw02_upTo.calls (k : Nat) (A0 : Option Addr) (c0 : Nat) (l0 : List (S76)) (a1 : Int) (a2 : Int) (r : Bool) (w : World) (hr0 : Kd.C k76 w A0 l0.length l0) (hc0 : l0.length ≤ c0) (h : redraftlaw02_upTo.f k l0 a1 a2 = some r) :
  Calls Try.prog 41 #[.slice A0 l0.length c0, .int .i64 a1, .int .i64 a2] w fun e w' => e = .returned (.bool r) ∧ Below w.heap.size w w' := by
 have hu76 := Try.underlying76
 have HR0 := Aside0.mk hr0
 have HC0 := Aside0.mk hc0
 clear hr0 hc0
 have HB := Aside0.mk (Below.refl w.heap.size w)
 have H : (redraftlaw02_upTo.l0 k l0 a1 a2 0) = some r := h
 clear h
 have H' := Aside0.mk H
 clear H
 go_enter Try.func41, Try.ntmps41
 go_wp2
 go_loopg [7] k (fun kq v7 w' => ∃ (x7_1 : Int), v7 = .int .i64 x7_1 ∧ Aside0 (redraftlaw02_upTo.l0 kq l0 a1 a2 x7_1 = some r) ∧ Aside0 (kq ≤ k) ∧ Aside0 (Below w.heap.size w w'))
 case atStart => exact ⟨(0), (by first | rfl | (simp; done) | (simp [*]; done)), H', ⟨Nat.le_refl _⟩, ⟨by repeat (first | (with_reducible first | exact HB.out | apply below_alloc | apply pw_below_drewN | apply below_drew1) | exact HB.out)⟩⟩
 case round =>
  clear H'
  try clear p2
  obtain ⟨x7_1, rfl, HA, HK1, HB⟩ := hrel
  cases gk with
  | zero => exact absurd HA.out (by simp [redraftlaw02_upTo.l0])
  | succ k1 =>
   have H := HA.out
   clear HA
   simp only [redraftlaw02_upTo.l0] at H
   by_cases c4 : x7_1 < (l0.length : Int)
   ·rw [if_pos c4] at H
    have c4b0 : decide (x7_1 < (l0.length : Int)) = true := decide_eq_true c4
    clear c4
    by_cases c5 : 0 ≤ x7_1
    ·rw [if_pos c5] at H
     have c5b0 : decide (0 ≤ x7_1) = true := decide_eq_true c5
     clear c5
     have HC6 := Aside0.mk H
     clear H
     have p487 : 0 ≤ (x7_1 : Int) := of_decide_eq_true (by first | (with_reducible assumption) | assumption)
     have q487 : x7_1 < (l0.length : Int) := of_decide_eq_true (by first | (with_reducible assumption) | assumption)
     obtain ⟨ad487, A487_1, c487_1, A487_2, c487_2, e487, hx487_0, hx487_1, hx487_2, hx487_3, hx487_4, hl487_1, hi487_1, hl487_2, hi487_2⟩ := at_T76 HR0.out x7_1 p487 q487
     cases e487
     replace hx487_0 := (HB.out.cell (World.block_lt_of_cell? w _ hx487_0)).trans hx487_0
     replace hx487_1 := (HB.out.cell (World.block_lt_of_cell? w _ hx487_1)).trans hx487_1
     replace hx487_2 := (HB.out.cell (World.block_lt_of_cell? w _ hx487_2)).trans hx487_2
     replace hx487_3 := (HB.out.cell (World.block_lt_of_cell? w _ hx487_3)).trans hx487_3
     replace hx487_4 := (HB.out.cell (World.block_lt_of_cell? w _ hx487_4)).trans hx487_4
     have HR487_1 := Aside0.mk hi487_1
     have HC487_1 := Aside0.mk hl487_1
     clear hi487_1 hl487_1
     have HR487_2 := Aside0.mk hi487_2
     have HC487_2 := Aside0.mk hl487_2
     clear hi487_2 hl487_2
     replace p487 := eq_true p487
     replace q487 := eq_true q487
     go_upto_region 5 with (first | ((with_reducible refine gate_dst (N := 8) rfl ?_); refine box_event ?hg (N := 8) ?hd (cs := #[.int .i64 0, .slice none 0 0, .slice none 0 0, .int .i64 0, .int .i64 0]) (t := 76) ?hr ?_; (case hd => rfl); (case hg => rfl); (case hr => first | (go_simp; done) | (go_simp; rfl)); intro gb488 hg w7 hbox hb; have n0_ := Aside0.mk (below_step (by repeat (first | (with_reducible first | exact HB.out | apply below_alloc | apply pw_below_drewN | apply below_drew1) | exact HB.out)) hb); have n1_ := Aside0.mk (hbox); have n2_ := Aside0.mk ((by rw [hg]; exact (below_size (by repeat (first | (with_reducible first | exact HB.out | apply below_alloc | apply pw_below_drewN | apply below_drew1) | exact HB.out))) : w.heap.size ≤ gb488)); have n3_ := Aside0.mk ((by rw [hg]; exact (below_size (by repeat (first | (with_reducible first | exact HB.out | apply below_alloc | apply pw_below_drewN | apply below_drew1) | exact HB.out))) : w.heap.size ≤ gb488)); clear HB; have HB := n0_; have BK488 := n1_; have GW488 := n2_; have GE488 := n3_; clear n0_ n1_ n2_ n3_; clear hb hbox hg; have hcz8_0 : w7.cell? ⟨gb488, 0, none⟩ = some (.int .i64 0) := (blk_cell BK488.out 0).trans rfl; have hcz8_1 : w7.cell? ⟨gb488, 1, none⟩ = some (.slice none 0 0) := (blk_cell BK488.out 1).trans rfl; have hcz8_2 : w7.cell? ⟨gb488, 2, none⟩ = some (.slice none 0 0) := (blk_cell BK488.out 2).trans rfl; have hcz8_3 : w7.cell? ⟨gb488, 3, none⟩ = some (.int .i64 0) := (blk_cell BK488.out 3).trans rfl; have hcz8_4 : w7.cell? ⟨gb488, 4, none⟩ = some (.int .i64 0) := (blk_cell BK488.out 4).trans rfl; have hfz8_0 := blk_frozen BK488.out 0; have hfz8_1 := blk_frozen BK488.out 1; have hfz8_2 := blk_frozen BK488.out 2; have hfz8_3 := blk_frozen BK488.out 3; have hfz8_4 := blk_frozen BK488.out 4))
     (try simp only [Act.put, List.setIfInBounds_toArray, List.set_cons_zero, List.set_cons_succ])
     go_cut [29] (fun v29 wc => ∃ (kq : Nat) (x29_5 : Bool), v29 = .bool x29_5 ∧ Aside0 (redraftlaw02_upTo.j1 kq l0 a1 a2 x7_1 x29_5 ((rd_T76 l0 x7_1).f0) ((rd_T76 l0 x7_1).f1) ((rd_T76 l0 x7_1).f2) ((rd_T76 l0 x7_1).f3) ((rd_T76 l0 x7_1).f4) = some r) ∧ Aside0 (kq ≤ k1) ∧ Aside0 (wc.heap[gb488]? = some (.cells #[.int .i64 ((rd_T76 l0 x7_1).f0), (.slice A487_1 ((rd_T76 l0 x7_1).f1).length c487_1), (.slice A487_2 ((rd_T76 l0 x7_1).f2).length c487_2), .int .i64 ((rd_T76 l0 x7_1).f3), .int .i64 ((rd_T76 l0 x7_1).f4)] 76 (0, 0))) ∧ Aside0 (Below w.heap.size w wc))
     case first =>
      have H := HC6.out
      clear HC6
      by_cases c9 : ((rd_T76 l0 x7_1).f0) ≥ a1
      ·rw [if_pos c9] at H
       have c9b0 : decide (a1 ≤ ((rd_T76 l0 x7_1).f0)) = true := decide_eq_true c9
       clear c9
       (first | rw [c9b0] | (simp only [i64_w, i32_w]; rw [c9b0]) | skip)
       have H' := Aside0.mk H
       clear H
       have hcz10_0 : w7.cell? ⟨gb488, 0, none⟩ = some (.int .i64 0) := (blk_cell BK488.out 0).trans rfl
       have hcz10_1 : w7.cell? ⟨gb488, 1, none⟩ = some (.slice none 0 0) := (blk_cell BK488.out 1).trans rfl
       have hcz10_2 : w7.cell? ⟨gb488, 2, none⟩ = some (.slice none 0 0) := (blk_cell BK488.out 2).trans rfl
       have hcz10_3 : w7.cell? ⟨gb488, 3, none⟩ = some (.int .i64 0) := (blk_cell BK488.out 3).trans rfl
       have hcz10_4 : w7.cell? ⟨gb488, 4, none⟩ = some (.int .i64 0) := (blk_cell BK488.out 4).trans rfl
       have hfz10_0 := blk_frozen BK488.out 0
       have hfz10_1 := blk_frozen BK488.out 1
       have hfz10_2 := blk_frozen BK488.out 2
       have hfz10_3 := blk_frozen BK488.out 3
       have hfz10_4 := blk_frozen BK488.out 4
       go_wp2
       go_meet
       case rel => exact ⟨_, (decide (((rd_T76 l0 x7_1).f0) ≤ a2)), (by first | rfl | (simp; done) | (simp [*]; done)), H', ⟨by have := HK1.out; first | omega | exact Nat.le_refl _⟩, ⟨by (with_reducible repeat (first | refine blk_drewN ?_ _ | refine blk_drew ?_ | refine blk_alloc ?_ _)); refine blk_put (cs := #[.int .i64 ((rd_T76 l0 x7_1).f0), .slice A487_1 ((rd_T76 l0 x7_1).f1).length c487_1, .slice A487_2 ((rd_T76 l0 x7_1).f2).length c487_2, .int .i64 ((rd_T76 l0 x7_1).f3), .int .i64 0]) ?_ 4 _ rfl; (with_reducible repeat (first | refine blk_drewN ?_ _ | refine blk_drew ?_ | refine blk_alloc ?_ _)); refine blk_put (cs := #[.int .i64 ((rd_T76 l0 x7_1).f0), .slice A487_1 ((rd_T76 l0 x7_1).f1).length c487_1, .slice A487_2 ((rd_T76 l0 x7_1).f2).length c487_2, .int .i64 0, .int .i64 0]) ?_ 3 _ rfl; (with_reducible repeat (first | refine blk_drewN ?_ _ | refine blk_drew ?_ | refine blk_alloc ?_ _)); refine blk_put (cs := #[.int .i64 ((rd_T76 l0 x7_1).f0), .slice A487_1 ((rd_T76 l0 x7_1).f1).length c487_1, .slice none 0 0, .int .i64 0, .int .i64 0]) ?_ 2 _ rfl; (with_reducible repeat (first | refine blk_drewN ?_ _ | refine blk_drew ?_ | refine blk_alloc ?_ _)); refine blk_put (cs := #[.int .i64 ((rd_T76 l0 x7_1).f0), .slice none 0 0, .slice none 0 0, .int .i64 0, .int .i64 0]) ?_ 1 _ rfl; (with_reducible repeat (first | refine blk_drewN ?_ _ | refine blk_drew ?_ | refine blk_alloc ?_ _)); refine blk_put (cs := #[.int .i64 0, .slice none 0 0, .slice none 0 0, .int .i64 0, .int .i64 0]) ?_ 0 _ rfl; (with_reducible repeat (first | refine blk_drewN ?_ _ | refine blk_drew ?_ | refine blk_alloc ?_ _)); exact BK488.out⟩, ⟨by repeat (first | (with_reducible first | exact HB.out | apply below_alloc | apply pw_below_drewN | apply below_drew1 | refine below_set ?_ GE488.out) | exact HB.out)⟩⟩
      ·rw [if_neg c9] at H
       have c9b0 : decide (a1 ≤ ((rd_T76 l0 x7_1).f0)) = false := decide_eq_false c9
       clear c9
       (first | rw [c9b0] | (simp only [i64_w, i32_w]; rw [c9b0]) | skip)
       have H' := Aside0.mk H
       clear H
       have hcz11_0 : w7.cell? ⟨gb488, 0, none⟩ = some (.int .i64 0) := (blk_cell BK488.out 0).trans rfl
       have hcz11_1 : w7.cell? ⟨gb488, 1, none⟩ = some (.slice none 0 0) := (blk_cell BK488.out 1).trans rfl
       have hcz11_2 : w7.cell? ⟨gb488, 2, none⟩ = some (.slice none 0 0) := (blk_cell BK488.out 2).trans rfl
       have hcz11_3 : w7.cell? ⟨gb488, 3, none⟩ = some (.int .i64 0) := (blk_cell BK488.out 3).trans rfl
       have hcz11_4 : w7.cell? ⟨gb488, 4, none⟩ = some (.int .i64 0) := (blk_cell BK488.out 4).trans rfl
       have hfz11_0 := blk_frozen BK488.out 0
       have hfz11_1 := blk_frozen BK488.out 1
       have hfz11_2 := blk_frozen BK488.out 2
       have hfz11_3 := blk_frozen BK488.out 3
       have hfz11_4 := blk_frozen BK488.out 4
       go_wp2
       go_meet
       case rel => exact ⟨_, (false), (by first | rfl | (simp; done) | (simp [*]; done)), H', ⟨by have := HK1.out; first | omega | exact Nat.le_refl _⟩, ⟨by (with_reducible repeat (first | refine blk_drewN ?_ _ | refine blk_drew ?_ | refine blk_alloc ?_ _)); refine blk_put (cs := #[.int .i64 ((rd_T76 l0 x7_1).f0), .slice A487_1 ((rd_T76 l0 x7_1).f1).length c487_1, .slice A487_2 ((rd_T76 l0 x7_1).f2).length c487_2, .int .i64 ((rd_T76 l0 x7_1).f3), .int .i64 0]) ?_ 4 _ rfl; (with_reducible repeat (first | refine blk_drewN ?_ _ | refine blk_drew ?_ | refine blk_alloc ?_ _)); refine blk_put (cs := #[.int .i64 ((rd_T76 l0 x7_1).f0), .slice A487_1 ((rd_T76 l0 x7_1).f1).length c487_1, .slice A487_2 ((rd_T76 l0 x7_1).f2).length c487_2, .int .i64 0, .int .i64 0]) ?_ 3 _ rfl; (with_reducible repeat (first | refine blk_drewN ?_ _ | refine blk_drew ?_ | refine blk_alloc ?_ _)); refine blk_put (cs := #[.int .i64 ((rd_T76 l0 x7_1).f0), .slice A487_1 ((rd_T76 l0 x7_1).f1).length c487_1, .slice none 0 0, .int .i64 0, .int .i64 0]) ?_ 2 _ rfl; (with_reducible repeat (first | refine blk_drewN ?_ _ | refine blk_drew ?_ | refine blk_alloc ?_ _)); refine blk_put (cs := #[.int .i64 ((rd_T76 l0 x7_1).f0), .slice none 0 0, .slice none 0 0, .int .i64 0, .int .i64 0]) ?_ 1 _ rfl; (with_reducible repeat (first | refine blk_drewN ?_ _ | refine blk_drew ?_ | refine blk_alloc ?_ _)); refine blk_put (cs := #[.int .i64 0, .slice none 0 0, .slice none 0 0, .int .i64 0, .int .i64 0]) ?_ 0 _ rfl; (with_reducible repeat (first | refine blk_drewN ?_ _ | refine blk_drew ?_ | refine blk_alloc ?_ _)); exact BK488.out⟩, ⟨by repeat (first | (with_reducible first | exact HB.out | apply below_alloc | apply pw_below_drewN | apply below_drew1 | refine below_set ?_ GE488.out) | exact HB.out)⟩⟩
     case rest =>
      clear HC6
      try clear p2
      try clear c4
      try clear c4b0
      try clear p4
      try clear q4
      try clear hx4
      try clear c5
      try clear c5b0
      try clear c9
      try clear c9b0
      try clear hcz10_0
      try clear hcz10_1
      try clear hcz10_2
      try clear hcz10_3
      try clear hcz10_4
      try clear hcz11_0
      try clear hcz11_1
      try clear hcz11_2
      try clear hcz11_3
      try clear hcz11_4
      try clear hcz8_0
      try clear hcz8_1
      try clear hcz8_2
      try clear hcz8_3
      try clear hcz8_4
      try clear hfz10_0
      try clear hfz10_1
      try clear hfz10_2
      try clear hfz10_3
      try clear hfz10_4
      try clear hfz11_0
      try clear hfz11_1
      try clear hfz11_2
      try clear hfz11_3
      try clear hfz11_4
      try clear hfz8_0
      try clear hfz8_1
      try clear hfz8_2
      try clear hfz8_3
      try clear hfz8_4
      try clear hx487_0
      try clear hx487_1
      try clear hx487_2
      try clear hx487_3
      try clear hx487_4
      try clear p2
      try clear p487
      try clear q487
      obtain ⟨kq, x29_5, rfl, HA, HJ5, BK488, HB⟩ := hcut
      cases kq with
      | zero => exact absurd HA.out (by simp [redraftlaw02_upTo.j1])
      | succ kj5 =>
       have H := HA.out
       clear HA
       simp only [redraftlaw02_upTo.j1] at H
       by_cases c12 : x29_5 = true
       ·subst c12
        have H1 : ((redraftlaw02_plays.f kj5 ((rd_T76 l0 x7_1).f0) ((rd_T76 l0 x7_1).f1) ((rd_T76 l0 x7_1).f2) ((rd_T76 l0 x7_1).f3) ((rd_T76 l0 x7_1).f4)).bind fun t489 => (if t489 = true then (redraftlaw02_upTo.l0 kj5 l0 a1 a2 (wrap64 (x7_1 + 1))) else (some false))) = some r := by rw [if_pos rfl] at H; exact H
        clear H
        have H := H1
        clear H1
        replace H := Option.bind_eq_some_iff.mp H
        obtain ⟨t489, A130, H⟩ := H
        replace H : (if t489 = true then (redraftlaw02_upTo.l0 kj5 l0 a1 a2 (wrap64 (x7_1 + 1))) else (some false)) = some r := H
        have A13 := Aside0.mk A130
        clear A130
        by_cases c14 : t489 = true
        ·subst c14
         have H1 : (redraftlaw02_upTo.l0 kj5 l0 a1 a2 (wrap64 (x7_1 + 1))) = some r := by rw [if_pos rfl] at H; exact H
         clear H
         have H := H1
         clear H1
         have H' := Aside0.mk H
         clear H
         have hcz15_0 : wc.cell? ⟨gb488, 0, none⟩ = some (.int .i64 ((rd_T76 l0 x7_1).f0)) := (blk_cell BK488.out 0).trans rfl
         have hcz15_1 : wc.cell? ⟨gb488, 1, none⟩ = some (.slice A487_1 ((rd_T76 l0 x7_1).f1).length c487_1) := (blk_cell BK488.out 1).trans rfl
         have hcz15_2 : wc.cell? ⟨gb488, 2, none⟩ = some (.slice A487_2 ((rd_T76 l0 x7_1).f2).length c487_2) := (blk_cell BK488.out 2).trans rfl
         have hcz15_3 : wc.cell? ⟨gb488, 3, none⟩ = some (.int .i64 ((rd_T76 l0 x7_1).f3)) := (blk_cell BK488.out 3).trans rfl
         have hcz15_4 : wc.cell? ⟨gb488, 4, none⟩ = some (.int .i64 ((rd_T76 l0 x7_1).f4)) := (blk_cell BK488.out 4).trans rfl
         have hfz15_0 := blk_frozen BK488.out 0
         have hfz15_1 := blk_frozen BK488.out 1
         have hfz15_2 := blk_frozen BK488.out 2
         have hfz15_3 := blk_frozen BK488.out 3
         have hfz15_4 := blk_frozen BK488.out 4
         go_wp2_with (first | ((with_reducible refine gate_callee (f := 57) rfl ?_); refine goesL_ (some 31) rfl rfl Try.func57 (by kernel_rfl) rfl #[.agg #[.int .i64 ((rd_T76 l0 x7_1).f0), .slice A487_1 ((rd_T76 l0 x7_1).f1).length c487_1, .slice A487_2 ((rd_T76 l0 x7_1).f2).length c487_2, .int .i64 ((rd_T76 l0 x7_1).f3), .int .i64 ((rd_T76 l0 x7_1).f4)]] rfl (by (try simp only [List.map_toArray, List.map_cons, List.map_nil]); first | done | rfl | (simp only [List.length_drop, List.length_take]; rfl)) ?_; (with_reducible refine (redraftlaw02_plays.calls kj5 ((rd_T76 l0 x7_1).f0) _ _ ((rd_T76 l0 x7_1).f1) _ _ ((rd_T76 l0 x7_1).f2) ((rd_T76 l0 x7_1).f3) ((rd_T76 l0 x7_1).f4) true _ ?side1 ?side2 ?side3 ?side4 A13.out).mono ?_); (case side1 => repeat (first | exact (Kd.C_below HR487_1.out HB.out) | (with_reducible refine Kd.C_alloc ?_ _) | (with_reducible refine Kd.C_drewN ?_ _) | (with_reducible refine Kd.C_drew ?_))); (case side2 => exact HC487_1.out); (case side3 => repeat (first | exact (Kd.C_below HR487_2.out HB.out) | (with_reducible refine Kd.C_alloc ?_ _) | (with_reducible refine Kd.C_drewN ?_ _) | (with_reducible refine Kd.C_drew ?_))); (case side4 => exact HC487_2.out); rintro e w16 ⟨rfl, hb⟩; refine ⟨_, rfl, ?_⟩; have n0_ := Aside0.mk (blk_below (g := gb488) (o := .cells #[.int .i64 ((rd_T76 l0 x7_1).f0), .slice A487_1 ((rd_T76 l0 x7_1).f1).length c487_1, .slice A487_2 ((rd_T76 l0 x7_1).f2).length c487_2, .int .i64 ((rd_T76 l0 x7_1).f3), .int .i64 ((rd_T76 l0 x7_1).f4)] 76 (0, 0)) (by (with_reducible repeat (first | refine blk_drewN ?_ _ | refine blk_drew ?_ | refine blk_alloc ?_ _)); exact BK488.out) hb); have n1_ := Aside0.mk (below_step (by repeat (first | (with_reducible first | exact HB.out | apply below_alloc | apply pw_below_drewN | apply below_drew1 | refine below_set ?_ GE488.out) | exact HB.out)) hb); clear BK488; clear HB; have BK488 := n0_; have HB := n1_; clear n0_ n1_; (try clear hb); (try clear hb2); (try clear hk); (try clear hi)))
         go_roundg kj5
         case measure => have := HK1.out; have := HJ5.out; omega
         case rel => exact ⟨(wrap64 (x7_1 + 1)), (by first | rfl | (simp; done) | (simp [*]; done)), H', ⟨by have := HK1.out; have := HJ5.out; omega⟩, ⟨by repeat (first | (with_reducible first | exact HB.out | apply below_alloc | apply pw_below_drewN | apply below_drew1 | refine below_set ?_ GE488.out) | exact HB.out)⟩⟩
        ·replace c14 := Bool.eq_false_iff.mpr c14
         subst c14
         have H1 : (some false) = some r := by rw [if_neg (show ¬ (false = true) by decide)] at H; exact H
         clear H
         have H := H1
         clear H1
         obtain rfl := Option.some.inj H
         have hcz17_0 : wc.cell? ⟨gb488, 0, none⟩ = some (.int .i64 ((rd_T76 l0 x7_1).f0)) := (blk_cell BK488.out 0).trans rfl
         have hcz17_1 : wc.cell? ⟨gb488, 1, none⟩ = some (.slice A487_1 ((rd_T76 l0 x7_1).f1).length c487_1) := (blk_cell BK488.out 1).trans rfl
         have hcz17_2 : wc.cell? ⟨gb488, 2, none⟩ = some (.slice A487_2 ((rd_T76 l0 x7_1).f2).length c487_2) := (blk_cell BK488.out 2).trans rfl
         have hcz17_3 : wc.cell? ⟨gb488, 3, none⟩ = some (.int .i64 ((rd_T76 l0 x7_1).f3)) := (blk_cell BK488.out 3).trans rfl
         have hcz17_4 : wc.cell? ⟨gb488, 4, none⟩ = some (.int .i64 ((rd_T76 l0 x7_1).f4)) := (blk_cell BK488.out 4).trans rfl
         have hfz17_0 := blk_frozen BK488.out 0
         have hfz17_1 := blk_frozen BK488.out 1
         have hfz17_2 := blk_frozen BK488.out 2
         have hfz17_3 := blk_frozen BK488.out 3
         have hfz17_4 := blk_frozen BK488.out 4
         go_wp2_with (first | ((with_reducible refine gate_callee (f := 57) rfl ?_); refine goesL_ (some 31) rfl rfl Try.func57 (by kernel_rfl) rfl #[.agg #[.int .i64 ((rd_T76 l0 x7_1).f0), .slice A487_1 ((rd_T76 l0 x7_1).f1).length c487_1, .slice A487_2 ((rd_T76 l0 x7_1).f2).length c487_2, .int .i64 ((rd_T76 l0 x7_1).f3), .int .i64 ((rd_T76 l0 x7_1).f4)]] rfl (by (try simp only [List.map_toArray, List.map_cons, List.map_nil]); first | done | rfl | (simp only [List.length_drop, List.length_take]; rfl)) ?_; (with_reducible refine (redraftlaw02_plays.calls kj5 ((rd_T76 l0 x7_1).f0) _ _ ((rd_T76 l0 x7_1).f1) _ _ ((rd_T76 l0 x7_1).f2) ((rd_T76 l0 x7_1).f3) ((rd_T76 l0 x7_1).f4) false _ ?side1 ?side2 ?side3 ?side4 A13.out).mono ?_); (case side1 => repeat (first | exact (Kd.C_below HR487_1.out HB.out) | (with_reducible refine Kd.C_alloc ?_ _) | (with_reducible refine Kd.C_drewN ?_ _) | (with_reducible refine Kd.C_drew ?_))); (case side2 => exact HC487_1.out); (case side3 => repeat (first | exact (Kd.C_below HR487_2.out HB.out) | (with_reducible refine Kd.C_alloc ?_ _) | (with_reducible refine Kd.C_drewN ?_ _) | (with_reducible refine Kd.C_drew ?_))); (case side4 => exact HC487_2.out); rintro e w18 ⟨rfl, hb⟩; refine ⟨_, rfl, ?_⟩; have n0_ := Aside0.mk (blk_below (g := gb488) (o := .cells #[.int .i64 ((rd_T76 l0 x7_1).f0), .slice A487_1 ((rd_T76 l0 x7_1).f1).length c487_1, .slice A487_2 ((rd_T76 l0 x7_1).f2).length c487_2, .int .i64 ((rd_T76 l0 x7_1).f3), .int .i64 ((rd_T76 l0 x7_1).f4)] 76 (0, 0)) (by (with_reducible repeat (first | refine blk_drewN ?_ _ | refine blk_drew ?_ | refine blk_alloc ?_ _)); exact BK488.out) hb); have n1_ := Aside0.mk (below_step (by repeat (first | (with_reducible first | exact HB.out | apply below_alloc | apply pw_below_drewN | apply below_drew1 | refine below_set ?_ GE488.out) | exact HB.out)) hb); clear BK488; clear HB; have BK488 := n0_; have HB := n1_; clear n0_ n1_; (try clear hb); (try clear hb2); (try clear hk); (try clear hi)))
         go_ret
         exact ⟨by first | rfl | (simp [errW_none, errW_some] <;> rfl) | (simp [*, errW_none, errW_some] <;> rfl), by repeat (first | (with_reducible first | exact HB.out | apply below_alloc | apply pw_below_drewN | apply below_drew1 | refine below_set ?_ GE488.out) | exact HB.out)⟩
       ·replace c12 := Bool.eq_false_iff.mpr c12
        subst c12
        have H1 : (redraftlaw02_upTo.l0 kj5 l0 a1 a2 (wrap64 (x7_1 + 1))) = some r := by rw [if_neg (show ¬ (false = true) by decide)] at H; exact H
        clear H
        have H := H1
        clear H1
        have H' := Aside0.mk H
        clear H
        go_wp2
        go_roundg kj5
        case measure => have := HK1.out; have := HJ5.out; omega
        case rel => exact ⟨(wrap64 (x7_1 + 1)), (by first | rfl | (simp; done) | (simp [*]; done)), H', ⟨by have := HK1.out; have := HJ5.out; omega⟩, ⟨by repeat (first | (with_reducible first | exact HB.out | apply below_alloc | apply pw_below_drewN | apply below_drew1 | refine below_set ?_ GE488.out) | exact HB.out)⟩⟩
    ·rw [if_neg c5] at H
     exact absurd H (by simp)
   ·rw [if_neg c4] at H
    have c4b0 : decide (x7_1 < (l0.length : Int)) = false := decide_eq_false c4
    clear c4
    obtain rfl := Option.some.inj H
    go_wp2
    go_ret
    exact ⟨by first | rfl | (simp [errW_none, errW_some] <;> rfl) | (simp [*, errW_none, errW_some] <;> rfl), by repeat (first | (with_reducible first | exact HB.out | apply below_alloc | apply pw_below_drewN | apply below_drew1) | exact HB.out)⟩
end Go.Proofs.Ytmidiifgdloojaa.Kg
end
