/- Proved: the list of visible cells, bumped, takes just their runes out of the text, and bumped back brings all back; for all inputs. -/
import Derived.Test.YteeigokkafcaaaaDoorClaimHides2
section
namespace Go.Proofs.YteeigokkafcaaaaDoorRope
open Go.RowKit Go.Proofs.YteeigokkafcaaaaDoorW.PrintWords Go.Proofs.YteeigokkafcaaaaDoorW.PrintMore Go.Proofs.YteeigokkafcaaaaDoor.Pr
set_option linter.unusedSimpArgs false
set_option linter.unusedVariables false
structure Few (l : List (List Int × Int)) : Prop where
  one : ∀ x ∈ l, x.1 ≠ []
  two : ∀ i (h : i + 1 < l.length), l[i + 1].2 ≠ l[i].2
theorem Few.nil : Few [] := ⟨by simp, by simp⟩
theorem Few.single {x : List Int × Int} (h : x.1 ≠ []) : Few [x] := ⟨by simpa using h, by simp⟩
theorem GoodRuns.few {l : List (List Int × Int)} (h : GoodRuns l) : Few l := ⟨fun x hx => (h.one x hx).1, h.two⟩
theorem Few.tail {x : List Int × Int} {l : List (List Int × Int)} (h : Few (x :: l)) : Few l := by
  refine ⟨fun y hy => h.one y (List.mem_cons_of_mem _ hy), fun i hi => ?_⟩
  have := h.two (i + 1) (by simpa using hi)
  simpa using this
theorem Few.snoc {o : List (List Int × Int)} {a : List Int} {h : Int} {rs : List Int} {h' : Int} (hf : Few (o ++ [(a, h)])) (hr : rs ≠ []) (hne : h' ≠ h) : Few (o ++ [(a, h)] ++ [(rs, h')]) := by
  refine ⟨fun x hx => ?_, fun i hi => ?_⟩
  · rcases List.mem_append.1 hx with hx | hx
    · exact hf.one x hx
    · rw [List.mem_singleton.1 hx]; exact hr
  · have hl : (o ++ [(a, h)]).length = o.length + 1 := by simp
    have hi' := hi
    rw [List.length_append, hl] at hi'
    simp only [List.length_cons, List.length_nil] at hi'
    have hlast : ∀ hj : o.length < (o ++ [(a, h)]).length, (o ++ [(a, h)])[o.length].2 = h := by simp
    obtain ⟨L, hL⟩ : ∃ L, L = o ++ [(a, h)] := ⟨_, rfl⟩
    rw [← hL] at hl hlast hf
    simp only [← hL]
    by_cases c : i + 1 < o.length + 1
    · rw [List.getElem_append_left (by omega), List.getElem_append_left (by omega)]
      exact hf.two i (by omega)
    · obtain rfl : i = o.length := by omega
      rw [List.getElem_append_right (by omega), List.getElem_append_left (by omega), hlast (by omega)]
      simpa [hl] using hne
theorem Few.grow {o : List (List Int × Int)} {a : List Int} {h : Int} (b : List Int) (hf : Few (o ++ [(a, h)])) : Few (o ++ [(a ++ b, h)]) := by
  refine ⟨fun x hx => ?_, fun i hi => ?_⟩
  · rcases List.mem_append.1 hx with hx | hx
    · exact hf.one x (List.mem_append_left _ hx)
    · rw [List.mem_singleton.1 hx]
      have := hf.one (a, h) (by simp)
      intro e
      exact this (List.append_eq_nil_iff.1 e).1
  · have key : ∀ (j : Nat) (hj : j < (o ++ [(a ++ b, h)]).length) (hj' : j < (o ++ [(a, h)]).length), (o ++ [(a ++ b, h)])[j].2 = (o ++ [(a, h)])[j].2 := by
      intro j hj hj'
      by_cases c : j < o.length
      · rw [List.getElem_append_left c, List.getElem_append_left c]
      · have : j = o.length := by simp at hj; omega
        subst this
        simp
    have hi' : i + 1 < (o ++ [(a, h)]).length := by simpa using hi
    rw [key _ _ hi', key _ _ (by omega)]
    exact hf.two i hi'
theorem rcells_cons (x : List Int × Int) (l : List (List Int × Int)) : rcells (x :: l) = x.1.map (fun c => (c, x.2)) ++ rcells l := by simp [rcells]
theorem few_head {x : List Int × Int} {l : List (List Int × Int)} (h : Few (x :: l)) : (rcells (x :: l)).takeWhile (fun c => c.2 == x.2) = x.1.map (fun c => (c, x.2)) := by
  rw [rcells_cons]
  have h1 : ∀ (a : List Int) (s : List (Int × Int)), (a.map (fun c => (c, x.2)) ++ s).takeWhile (fun c => c.2 == x.2) = a.map (fun c => (c, x.2)) ++ s.takeWhile (fun c => c.2 == x.2) := by
    intro a s
    induction a with
    | nil => rfl
    | cons r t ih => simp [List.takeWhile, ih]
  rw [h1]
  cases l with
  | nil => simp [rcells]
  | cons y t =>
    have hy := h.one y (by simp)
    have h2 := h.two 0 (by simp)
    obtain ⟨a, k⟩ := y
    cases a with
    | nil => exact absurd rfl hy
    | cons r a =>
      have hk : (k == x.2) = false := beq_eq_false_iff_ne.mpr (by simpa using h2)
      simp [rcells, List.takeWhile, hk]
theorem few_uniq : ∀ (l l' : List (List Int × Int)), Few l → Few l' → rcells l = rcells l' → l = l'
  | [], [], _, _, _ => rfl
  | [], y :: t, _, h', e => by
    have h1 := List.length_pos_iff.2 (h'.one y (by simp))
    rw [rcells_cons] at e
    have e' := congrArg List.length e
    rw [List.length_append, List.length_map] at e'
    simp only [rcells, List.flatMap_nil, List.length_nil] at e'
    omega
  | x :: t, [], h, _, e => by
    have h1 := List.length_pos_iff.2 (h.one x (by simp))
    rw [rcells_cons] at e
    have e' := congrArg List.length e
    rw [List.length_append, List.length_map] at e'
    simp only [rcells, List.flatMap_nil, List.length_nil] at e'
    omega
  | x :: t, y :: s, h, h', e => by
    have hx := h.one x (by simp)
    have hy := h'.one y (by simp)
    have hk : x.2 = y.2 := by
      obtain ⟨a, k⟩ := x
      obtain ⟨b, j⟩ := y
      cases a with
      | nil => exact absurd rfl hx
      | cons r a =>
        cases b with
        | nil => exact absurd rfl hy
        | cons q b =>
          rw [rcells_cons, rcells_cons] at e
          simp only [List.map_cons, List.cons_append] at e
          injection e with e _
          injection e
    have h1 := few_head h
    have h2 := few_head h'
    rw [e, hk, h2, ← hk] at h1
    have h3 : y.1 = x.1 := by
      have := congrArg (List.map Prod.fst) h1
      simpa [List.map_map, Function.comp_def] using this
    have hxy : x = y := Prod.ext h3.symm hk
    subst hxy
    rw [rcells_cons, rcells_cons, List.append_cancel_left_eq] at e
    rw [few_uniq t s h.tail h'.tail e]
def allR (o : List (List Int × Int)) (acc : List Int) (h : Int) : List (List Int × Int) := if acc = [] then o else o ++ [(acc, h)]
theorem allR_nil (o : List (List Int × Int)) (h : Int) : allR o [] h = o := rfl
structure RunsQ (C : List (Int × Int)) (q : Nat) (o : List (List Int × Int)) (acc : List Int) (h : Int) : Prop where
  few : Few (allR o acc h)
  cells : rcells (allR o acc h) = C.take q
  fresh : acc = [] → o = []
theorem RunsQ.zero (C : List (Int × Int)) : RunsQ C 0 [] [] 0 := ⟨Few.nil, rfl, fun _ => rfl⟩
theorem RunsQ.same {C : List (Int × Int)} {q : Nat} {o : List (List Int × Int)} {acc rs : List Int} {h : Int} (H : RunsQ C q o acc h) (hr : rs ≠ []) (hc : C.take (q + rs.length) = C.take q ++ rs.map (fun c => (c, h))) : RunsQ C (q + rs.length) o (acc ++ rs) h := by
  have hne : acc ++ rs ≠ [] := fun e => hr (List.append_eq_nil_iff.1 e).2
  by_cases c : acc = []
  · subst c
    have := H.fresh rfl
    subst this
    have h0 := H.cells
    refine ⟨?_, ?_, fun e => absurd e hne⟩
    · simp only [allR, List.nil_append, if_neg hr]; exact Few.single hr
    · rw [hc, ← h0]; simp [allR, rcells, hr]
  · have h1 := H.few
    have h2 := H.cells
    rw [allR, if_neg c] at h1 h2
    refine ⟨?_, ?_, fun e => absurd e hne⟩
    · rw [allR, if_neg hne]; exact h1.grow rs
    · rw [hc, ← h2, allR, if_neg hne]; simp [rcells]
theorem RunsQ.other {C : List (Int × Int)} {q : Nat} {o : List (List Int × Int)} {acc rs : List Int} {h h' : Int} (H : RunsQ C q o acc h) (hr : rs ≠ []) (hne : h' ≠ h) (hc : C.take (q + rs.length) = C.take q ++ rs.map (fun c => (c, h'))) : RunsQ C (q + rs.length) (allR o acc h) rs h' := by
  refine ⟨?_, ?_, fun e => absurd e hr⟩
  · rw [allR, if_neg hr]
    by_cases c : acc = []
    · subst c
      have := H.fresh rfl
      subst this
      exact Few.single hr
    · have h1 := H.few
      rw [allR, if_neg c] at h1 ⊢
      exact h1.snoc hr hne
  · rw [allR, if_neg hr, hc, ← H.cells]; simp [rcells]
theorem RunsQ.hid {C : List (Int × Int)} {q : Nat} {o : List (List Int × Int)} {acc : List Int} {h : Int} (H : RunsQ C q o acc h) : (allR o acc h).length ≤ q := by
  have h1 : ∀ (l : List (List Int × Int)), (∀ x ∈ l, x.1 ≠ []) → l.length ≤ (rcells l).length := by
    intro l
    induction l with
    | nil => intro _; simp
    | cons x t ih =>
      intro hx
      have := ih (fun y hy => hx y (List.mem_cons_of_mem _ hy))
      have h0 := List.length_pos_iff.2 (hx x (by simp))
      rw [rcells_cons, List.length_append, List.length_map, List.length_cons]
      omega
  have := h1 _ H.few.one
  rw [H.cells, List.length_take] at this
  omega
theorem RunsQ.acc {C : List (Int × Int)} {q : Nat} {o : List (List Int × Int)} {acc : List Int} {h : Int} (H : RunsQ C q o acc h) : acc.length ≤ q := by
  by_cases c : acc = []
  · subst c; simp
  · have := congrArg List.length H.cells
    rw [allR, if_neg c, List.length_take] at this
    simp [rcells] at this
    omega
end Go.Proofs.YteeigokkafcaaaaDoorRope
end
section
namespace Go.Proofs.YteeigokkafcaaaaDoorRope
open Go.RowKit Go.Proofs.YteeigokkafcaaaaDoorW.PrintWords Go.Proofs.YteeigokkafcaaaaDoorW.PrintMore Go.Proofs.YteeigokkafcaaaaDoor.Pr
set_option linter.unusedSimpArgs false
set_option linter.unusedVariables false
theorem Bld.row {B b : Nat} {acc : List Int} {W W' : World} (h : Bld B b acc W) {row : Option Nat} (hg : W.grownBy W' row) (hr : ∀ k, row = some k → ∃ c t, W.heap[k]? = some (Obj.cells c t (0, 0)) ∧ t ≠ 118 ∧ t ≠ 5) : Bld B b acc W' := by
  refine h.imp ?_ ?_ <;>
    · rintro ⟨hB, v', hv, hown, hne⟩
      refine ⟨hB, v', (hg.block b (new_lt hv) (fun e => ?_)).trans hv, hown.kept hg ?_, hne⟩
      · obtain ⟨c, t, hc, h1, _⟩ := hr b e.symm
        rw [hv] at hc
        injection hc with hc
        injection hc with _ hc _
        exact h1 hc.symm
      · rcases hvo : v'.ownBlock with _ | k
        · exact .inl rfl
        · refine .inr (fun e => ?_)
          obtain ⟨c, t, hc, _, h2⟩ := hr k e.symm
          obtain ⟨c', fz, hc'⟩ := Lib.ownsRowF_kind hown k hvo
          rw [hc] at hc'
          injection hc' with hc'
          injection hc' with _ hc' _
          exact h2 hc'
set_option maxRecDepth 100000 in
set_option maxHeartbeats 4000000 in
theorem reset_calls {B b : Nat} {acc : List Int} {W : World} (h : Bld B b acc W) : Calls Tryd.prog 64 #[.pointer (some ⟨b, 0, none⟩)] W fun e w' => e = .returned (.tuple #[]) ∧ Bld B b [] w' ∧ KpB B b W w' := by
  have hB := h.at.1
  have h' : ∃ p v, W.heap[b]? = some (.cells #[p, v] 118 (0, 0)) := by
    rcases h with ⟨_, v, hv, _⟩ | ⟨_, v, hv, _⟩ <;> exact ⟨_, v, hv⟩
  obtain ⟨p, v, hv⟩ := h'
  have y0 : W.cell? ⟨b, 0, none⟩ = some p := by simp [World.cell?, hv]
  have f0 : W.frozen? ⟨b, 0, none⟩ = false := by simp [World.frozen?, hv]
  have hv1 : (W.setCell ⟨b, 0, none⟩ (.pointer none)).heap[b]? = some (.cells #[.pointer none, v] 118 (0, 0)) := by simp [World.setCell, Array.getElem?_modify, hv]
  have y1 : (W.setCell ⟨b, 0, none⟩ (.pointer none)).cell? ⟨b, 1, none⟩ = some v := by simp [World.cell?, hv1]
  have f1 : (W.setCell ⟨b, 0, none⟩ (.pointer none)).frozen? ⟨b, 1, none⟩ = false := by simp [World.frozen?, hv1]
  have hv2 : ((W.setCell ⟨b, 0, none⟩ (.pointer none)).setCell ⟨b, 1, none⟩ (.slice none 0 0)).heap[b]? = some (.cells #[.pointer none, .slice none 0 0] 118 (0, 0)) := by
    simp [World.setCell, Array.getElem?_modify, hv]
  go_enter Tryd.func64, Tryd.ntmps64
  go_wp2
  go_end0
  refine ⟨rfl, .inl ⟨hB, _, hv2, ⟨by simp [utf, Lib.byteCells], .inl ⟨rfl, by simp [utf, Lib.byteCells]⟩⟩, by simp [Value.ownBlock]⟩, ⟨?_, ?_⟩⟩
  · exact ((Below.refl B W).setCell (p := ⟨b, 0, none⟩) hB _).setCell (p := ⟨b, 1, none⟩) hB _
  · exact Lib.OthersKept.setCell (Lib.OthersKept.setCell (Lib.OthersKept.refl 5 (some b) W) ⟨b, 0, none⟩ rfl _) ⟨b, 1, none⟩ rfl _
structure RunsS (B OUT b HID END : Nat) (w : World) (o : List (List Int × Int)) (acc : List Int) (hid : Int) (W : World) : Prop where
  out : ∃ v, W.heap[OUT]? = some (.cells #[v] 23 (0, 0)) ∧ Kd.R k58 58 W B (fun k => B ≤ k) v (sRuns o)
  bld : Bld B b acc W
  hc : W.heap[HID]? = some (.cells #[.int .i64 hid] 3 (0, 0))
  ec : W.heap[END]? = some (.cells #[.func (.func 61) #[] #[.pointer (some ⟨b, 0, none⟩), .pointer (some ⟨OUT, 0, none⟩), .pointer (some ⟨HID, 0, none⟩)]] 1 (0, 0))
  bel : Below B w W
  lo : B ≤ OUT
  lh : B ≤ HID
section
variable {B OUT b HID END : Nat} {w W W' : World} {o : List (List Int × Int)} {acc acc' : List Int} {hid : Int}
theorem RunsS.below (h : RunsS B OUT b HID END w o acc hid W) (hB : B ≤ W.heap.size) (hb : Below W.heap.size W W') : RunsS B OUT b HID END w o acc hid W' := by
  obtain ⟨v, hv, hR⟩ := h.out
  exact ⟨⟨v, (hb.block _ (new_lt hv)).trans hv, Kd.R_below hR hb⟩, h.bld.below hb, (hb.block _ (new_lt h.hc)).trans h.hc, (hb.block _ (new_lt h.ec)).trans h.ec, h.bel.trans (hb.mono hB), h.lo, h.lh⟩
theorem R58_kpb {ok : Nat → Prop} {base : Nat} {v : Value} (h : Kd.R k58 58 W base ok v (sRuns o)) (hk : KpB B b W W') (hb : ∃ c, W.heap[b]? = some (Obj.cells c 118 (0, 0))) : Kd.R k58 58 W' base ok v (sRuns o) := by
  refine Kd.R_mono (Kd.R_step (Kd.R_bound h) (fun k hk' hl => ?_)) (fun k hk => hk.1)
  obtain ⟨_, _, _, q, hq, cells, hc⟩ := hk'
  obtain rfl : q = 58 := by simpa using (show q ∈ [58] from hq)
  obtain ⟨c0, hb⟩ := hb
  rw [hc]
  exact hk.cells hc (by decide) (ty_ne hc hb (by decide))
theorem RunsS.kpb (h : RunsS B OUT b HID END w o acc hid W) (hk : KpB B b W W') (hb : Bld B b acc' W') : RunsS B OUT b HID END w o acc' hid W' := by
  obtain ⟨_, c0, hc0⟩ := h.bld.at
  obtain ⟨v, hv, hR⟩ := h.out
  exact ⟨⟨v, hk.cells hv (by decide) (ty_ne hv hc0 (by decide)), R58_kpb hR hk ⟨c0, hc0⟩⟩, hb, hk.cells h.hc (by decide) (ty_ne h.hc hc0 (by decide)), hk.cells h.ec (by decide) (ty_ne h.ec hc0 (by decide)), h.bel.trans hk.bl, h.lo, h.lh⟩
end
theorem R58_ne {ok : Nat → Prop} {W : World} {o : List (List Int × Int)} {base : Nat} {v : Value} (h : Kd.R k58 58 W base ok v (sRuns o)) {k : Nat} {c : Array Value} {t : Nat} (hk : W.heap[k]? = some (Obj.cells c t (0, 0))) (ht : t ≠ 58) : some k ≠ v.ownBlock := by
  intro e
  obtain ⟨cells, hc⟩ := Kd.N_typed (Kd.R_N h) k e.symm
  rw [hk] at hc
  injection hc with hc
  injection hc with _ hc _
  exact ht hc
theorem R58_typed {ok : Nat → Prop} {W : World} {o : List (List Int × Int)} {base : Nat} {v : Value} (h : Kd.R k58 58 W base ok v (sRuns o)) : ∀ k, v.ownBlock = some k → ∃ c t, W.heap[k]? = some (Obj.cells c t (0, 0)) ∧ t = 58 := fun k e => by
  obtain ⟨cells, hc⟩ := Kd.N_typed (Kd.R_N h) k e
  exact ⟨cells, 58, hc, rfl⟩
theorem RunsS.push {B OUT b HID END : Nat} {w W W4 : World} {o o' : List (List Int × Int)} {acc : List Int} {hid : Int} {v v4 : Value} (S : RunsS B OUT b HID END w o acc hid W) (hv : W.heap[OUT]? = some (.cells #[v] 23 (0, 0))) (hR : Kd.R k58 58 W B (fun k => B ≤ k) v (sRuns o)) (hR4 : Kd.R k58 58 W4 B (fun k => B ≤ k) v4 (sRuns o')) (hB : B ≤ W.heap.size) (hg : W.grownBy W4 v.ownBlock) :
    RunsS B OUT b HID END w o' acc hid (W4.setCell ⟨OUT, 0, none⟩ v4) ∧ KpW B W (W4.setCell ⟨OUT, 0, none⟩ v4) := by
  have hv4 := (hg.block _ (new_lt hv) (R58_ne hR hv (by decide))).trans hv
  have hB4 : Below B W W4 := ⟨hg.os, hg.tape, hg.output, hg.size, fun k hk => hg.block k (Nat.lt_of_lt_of_le hk hB) (fun e => by have h1 : B ≤ k := hR.1 k e.symm; omega)⟩
  have keep : ∀ (k : Nat) (c : Array Value) (t : Nat), W.heap[k]? = some (Obj.cells c t (0, 0)) → t ≠ 58 → t ≠ 23 → (W4.setCell ⟨OUT, 0, none⟩ v4).heap[k]? = some (Obj.cells c t (0, 0)) := by
    intro k c t hk h1 h2
    have h4 := (hg.block _ (new_lt hk) (R58_ne hR hk h1)).trans hk
    exact set_other h4 (ty_ne h4 hv4 h2)
  have hgs : W4.grownBy (W4.setCell ⟨OUT, 0, none⟩ v4) (some OUT) := ⟨rfl, rfl, rfl, by simp [World.setCell], fun i hi hne => Below.heap_setCell W4 ⟨OUT, 0, none⟩ v4 i (fun e => hne (by rw [show i = OUT from e]))⟩
  have hbl : Bld B b acc (W4.setCell ⟨OUT, 0, none⟩ v4) := by
    refine (S.bld.row hg (fun k e => ?_)).row hgs (fun k e => ?_)
    · obtain ⟨c, t, h1, h2⟩ := R58_typed hR k e
      exact ⟨c, t, h1, by rw [h2]; decide, by rw [h2]; decide⟩
    · injection e with e
      subst e
      exact ⟨_, 23, hv4, by decide, by decide⟩
  have hb' : Below B W (W4.setCell ⟨OUT, 0, none⟩ v4) := hB4.setCell (p := ⟨OUT, 0, none⟩) S.lo _
  refine ⟨⟨⟨v4, set1k hv4, ?_⟩, hbl, keep _ _ _ S.hc (by decide) (by decide), keep _ _ _ S.ec (by decide) (by decide), S.bel.trans hb', S.lo, S.lh⟩, ⟨hb', fun k c ty hty hk => keep k c ty hk (by rcases hty with rfl | rfl <;> decide) (by rcases hty with rfl | rfl <;> decide)⟩⟩
  refine Kd.R_mono (Kd.R_step (Kd.R_bound hR4) (fun k hk' hl => ?_)) (fun k hk => hk.1)
  obtain ⟨_, _, _, q, hq, cells, hc⟩ := hk'
  obtain rfl : q = 58 := by simpa using (show q ∈ [58] from hq)
  rw [hc]
  exact set_other hc (ty_ne hc hv4 (by decide))
theorem byteCells_utf_nil : (Lib.byteCells (utf [])).length = 0 := rfl
theorem byteCells_utf_pos {acc : List Int} (h : acc ≠ []) : 0 < (Lib.byteCells (utf acc)).length := by
  rw [Lib.byteCells_length]
  have := (utf_len acc).1
  have := List.length_pos_iff.2 h
  omega
set_option maxRecDepth 100000 in
set_option maxHeartbeats 16000000 in
theorem end_calls {B OUT b HID END : Nat} {w W : World} {o : List (List Int × Int)} {acc : List Int} {hid : Int} (S : RunsS B OUT b HID END w o acc hid W) (hB : B ≤ W.heap.size) (ho : o.length ≤ 1048576) (hacc : acc.length ≤ 1048576) :
    Calls Tryd.prog 61 #[.pointer (some ⟨b, 0, none⟩), .pointer (some ⟨OUT, 0, none⟩), .pointer (some ⟨HID, 0, none⟩)] W fun e w' => e = .returned (.tuple #[]) ∧ RunsS B OUT b HID END w (allR o acc hid) [] hid w' ∧ KpW B W w' := by
  obtain ⟨_, c0, hc0⟩ := S.bld.at
  by_cases hz : acc = []
  · subst hz
    rw [allR_nil]
    have hl := Tryd.Builder_Len_f B b _ W S.bld
    rw [byteCells_utf_nil] at hl
    go_enter Tryd.func61, Tryd.ntmps61
    go_wp2_with (first
      | (go_at_call 62; refine hl.mono ?_; rintro e w1 ⟨rfl, rfl⟩)
      | (go_at_call 64; refine (reset_calls S.bld).mono ?_; rintro e w2 ⟨rfl, hb2, k2⟩))
    go_end0
    exact ⟨rfl, S.kpb k2 hb2, k2.kpw hc0⟩
  · have hl := Tryd.Builder_Len_f B b _ W S.bld
    obtain ⟨n, hn⟩ : ∃ n, n = (Lib.byteCells (utf acc)).length := ⟨_, rfl⟩
    have hn0 := byteCells_utf_pos hz
    rw [← hn] at hl hn0
    have dn : decide (0 < n) = true := decide_eq_true hn0
    have hall : allR o acc hid = o ++ [(acc, hid)] := by rw [allR, if_neg hz]
    rw [hall]
    obtain ⟨v, hv, hR⟩ := S.out
    obtain ⟨A, c, rfl⟩ := Kd.R_slice hR
    have hlt := new_lt hv
    have hstr : ∀ W', Below W.heap.size W W' → Calls Tryd.prog 63 #[.pointer (some ⟨b, 0, none⟩)] W' fun e w' => e = .returned (.string (txt acc)) ∧ (Bld B b acc w' ∧ KpB B b W w') := fun W' hW => by
      refine (Tryd.Builder_String_any_k B b (utf acc) W' (S.bld.below hW) (Nat.le_trans hB hW.size)).mono ?_
      rintro e w' ⟨he, h1, h2, h3⟩
      exact ⟨he, h1, (KpB.of hW hB).trans ⟨h2, h3⟩⟩
    have HL : Hid (((sRuns o).length + 1) * 24 ≤ 140737488355328) := Lib.hid (by rw [show (sRuns o).length = o.length by simp [sRuns]]; omega)
    obtain ⟨y0, g0⟩ := cells1k hv
    obtain ⟨y1, _⟩ := cells1k S.hc
    have HSTR := Lib.hid hstr
    clear hn hn0 hz hall ho hacc hstr
    go_enter Tryd.func61, Tryd.ntmps61
    go_wp2_with (go_at_call 62; refine hl.mono ?_; rintro e w1 ⟨rfl, rfl⟩)
    go_region_law (first
      | (go_simp; go_at_call 63; refine (HSTR.out _ (by (repeat first | exact Below.refl _ _ | refine Below.drew ?_))).mono ?_; rintro e w3 ⟨rfl, hb3, k3⟩; have hv3 := k3.cells hv (by decide) (ty_ne hv hc0 (by decide)); have hh3 := k3.cells S.hc (by decide) (ty_ne S.hc hc0 (by decide)); have hz0 := cells1k hv3; have hz1 := cells1k hh3; obtain ⟨z0, zf⟩ := hz0; obtain ⟨z1, _⟩ := hz1; have q0 := pw_cell_below (below_alloc (Below.refl w3.heap.size w3) (.cells #[.string (txt acc), .int .i64 hid] 58)) z0; have hR3 := R58_kpb hR k3 ⟨_, hc0⟩)
      | (refine Kd.R_append_step k58 (w0 := w1) B (by rfl) (.tmp 5) (.tmp 9) 23 58 (.agg #[.string ByteArray.empty, .int .i64 0]) 24 rfl Tryd.underlying23 info58' rfl (by decide) (by decide) (.slice A (sRuns o).length c) (sRuns o) ⟨txt acc, hid⟩ [.string (txt acc), .int .i64 hid] (fun k => B ≤ k) (fun _ => False) rfl rfl (k58_mkM _ _ _ ⟨_, _⟩) (fun _ h => h.elim) (fun k hk => Nat.le_trans (Nat.le_trans hB k3.bl.size) hk) hR3 k3.bl (Nat.le_trans hB k3.bl.size) HL.out ?_; intro v4 w4 hR4 hB4 hg4 hat4; have hsl := Kd.R_slice hR4; obtain ⟨A4, c4, hvv⟩ := hsl; subst hvv; have hv4 := (hg4.block _ (new_lt hv3) (R58_ne hR3 hv3 (by decide))).trans hv3; have hx := cells1k hv4; obtain ⟨x0, x1⟩ := hx))
    all_goals
      have hR5 : Kd.R k58 58 w4 B (fun k => B ≤ k) (.slice A4 (sRuns o ++ [(⟨txt acc, hid⟩ : S58)]).length c4) (sRuns (o ++ [(acc, hid)])) := by rw [sRuns_snoc]; exact hR4
      obtain ⟨S5, k5⟩ := (S.kpb k3 hb3).push hv3 hR3 hR5 (Nat.le_trans hB k3.bl.size) hg4
      rw [List.length_append] at S5 k5
      obtain ⟨W5, hW5⟩ : ∃ W5, w4.setCell ⟨OUT, 0, none⟩ (.slice A4 ((sRuns o).length + [(⟨txt acc, hid⟩ : S58)].length) c4) = W5 := ⟨_, rfl⟩
      rw [hW5] at S5 k5
      have hW5' : w4.setCell ⟨OUT, 0, none⟩ (.slice A4 ((sRuns o).length + 1) c4) = W5 := hW5
      rw [hW5']
      clear hW5 hW5' hR4 hR5 hat4 hg4 hv4 x0 x1 q0 z0 zf z1 hR3 hh3 hv3 y0 g0 y1 hv hR HSTR hl
      simp only [Exit.then]
      go_at_K
      go_wp2_with (go_at_call 64; refine (reset_calls S5.bld).mono ?_; rintro e w6 ⟨rfl, hb6, k6⟩)
      go_end0
      obtain ⟨_, c1, hc1⟩ := S5.bld.at
      exact ⟨rfl, S5.kpb k6 hb6, (k3.kpw hc0).trans (k5.trans (k6.kpw hc1))⟩
end Go.Proofs.YteeigokkafcaaaaDoorRope
end
section
namespace Go.Proofs.YteeigokkafcaaaaDoorRope
open Go.RowKit Go.Proofs.YteeigokkafcaaaaDoorW.PrintWords Go.Proofs.YteeigokkafcaaaaDoorW.PrintMore
set_option linter.unusedSimpArgs false
set_option linter.unusedVariables false
theorem Rpo.mono {M M' : Nat → Prop} (hM : ∀ k, M k → M' k) {W : World} {t : Tree} : ∀ {v : Value}, Rpo M W t v → Rpo M' W t v := by
  induction t with
  | nil => intro v h; exact h
  | node l rs hid r plus ihl ihr =>
    rintro v ⟨a, vl, vr, A, c, rfl, hh, hc, hr, hA, h1, h2⟩
    exact ⟨a, vl, vr, A, c, rfl, hh, hc, hr, fun ad e => hM _ (hA ad e), ihl h1, ihr h2⟩
theorem Bld.set {B b : Nat} {acc : List Int} {W : World} (h : Bld B b acc W) {k : Nat} {c : Array Value} (v : Value) (hk : W.heap[k]? = some (Obj.cells c 3 (0, 0))) : Bld B b acc (W.setCell ⟨k, 0, none⟩ v) := by
  refine h.imp ?_ ?_ <;>
    · rintro ⟨hB, v', hv, hown, hne⟩
      refine ⟨hB, v', set_other hv (ty_ne hv hk (by decide)), hown.kept (row := some k) ⟨rfl, rfl, rfl, by simp [World.setCell], fun i hi hne => Below.heap_setCell W ⟨k, 0, none⟩ v i (fun e => hne (by rw [show i = k from e]))⟩ (.inr ?_), hne⟩
      intro e
      obtain ⟨c', fz, hc'⟩ := Lib.ownsRowF_kind hown k e
      rw [hk] at hc'
      injection hc' with hc'
      injection hc' with _ hc' _
      exact absurd hc' (by decide)
theorem inner71 {B b : Nat} {C : List (Int × Int)} (hC : ∀ c ∈ C, Rn c.1) : Inner B 71 C (.pointer (some ⟨b, 0, none⟩)) (fun ps W => Bld B b (ps.map (rnAt C)) W) where
  below ps W W' h hb := h.below hb
  set ps W k c v h hk := h.set v hk
  call ps x a rs A c W hx h hp hc h0 hl hr hA hB hrc := by
    have hrs : rs = (List.range' a rs.length).map (rnAt C) := by
      apply List.ext_getElem
      · simp
      · intro i h1 h2
        rw [List.getElem_map, List.getElem_range', rnAt, List.getD_eq_getElem?_getD]
        have := hc i h1
        rw [show a + 1 * i = a + i by omega, this]
        rfl
    have hrn : ∀ r ∈ rs, Rn r := by
      intro r hr'
      obtain ⟨i, hi, rfl⟩ := List.getElem_of_mem hr'
      have := hC _ (List.mem_of_getElem? (hc i hi))
      exact this
    refine (slice1_calls x hr hA hrn h hB (by rw [List.length_map]; exact hl)).mono ?_
    rintro e w' ⟨he, h', hk⟩
    obtain ⟨_, c0, hc0⟩ := h.at
    refine ⟨he, ?_, hk.kpi hc0⟩
    rw [List.map_append, ← hrs]
    exact h'
theorem fresh_bld (W : World) : Bld W.heap.size W.heap.size [] (W.alloc (.cells #[.pointer none, .slice none 0 0] 118)) := Lib.IsBuilderF.of (Lib.fresh_isBuilder 118 5 W)
set_option maxRecDepth 100000 in
set_option maxHeartbeats 8000000 in
theorem slice_yes {K0 : Nat → Prop} {W : World} {b : Nat} {t : Tree} (h : RopeAt K0 W b t) (hsz : t.cells.length ≤ 1048576) (hN : ∀ c ∈ t.cells, Rn c.1) {lo hi : Nat} (hlo : lo ≤ hi) (hhi : hi ≤ vis t.cells) :
    Calls Tryd.prog 31 #[.pointer (some ⟨b, 0, none⟩), .int .i64 (lo : Int), .int .i64 (hi : Int)] W fun e w' => e = .returned (.tuple #[.string (txt (((visR t.cells).drop lo).take (hi - lo))), .int .i64 0]) ∧ Below W.heap.size W w' := by
  obtain ⟨p0, hv, hE, hn, hlt⟩ := h.blk
  have ht := hE.t _ List.mem_cons_self
  have d0 : decide ((lo : Int) < 0) = false := decide_eq_false (by omega)
  have d1 : decide (hi < lo) = false := decide_eq_false (by omega)
  have d2 : decide (vis t.cells < hi) = false := decide_eq_false (by omega)
  have hrb : ∀ W', Below W.heap.size W W' → RopeAt K0 W' b t := fun W' hW => h.below hW
  have HRB := Lib.hid hrb
  have HLO := Lib.hid hlo
  have HHI := Lib.hid hhi
  have ht2 := Rpo.of (ht.rep.bound ht.good)
  have HT2 : Hid (Rpo (fun k => k < W.heap.size) W t (.pointer p0)) := Lib.hid (ht2.mono (fun k hk => hk.2))
  clear hrb hlo hhi ht2 h
  by_cases c : lo = hi
  · subst c
    go_enter Tryd.func31, Tryd.ntmps31
    go_wp2_with (first
      | (go_at_call 20; refine (shownR_calls (HRB.out _ (Below.refl _ _))).mono ?_; rintro e w1 ⟨rfl, hb1⟩; have fb := fresh_bld w1; have hba := below_alloc (Below.refl w1.heap.size w1) (.cells #[.pointer none, .slice none 0 0] 118))
      | (go_at_call 70; refine (between_none _ b lo 71 _).mono ?_; rintro e w2 ⟨rfl, hb2⟩; have fb2 := fb.below hb2)
      | (go_at_call 63; refine (Tryd.Builder_String_any_k _ _ _ _ fb2 (Nat.le_trans hba.size hb2.size)).mono ?_; rintro e w3 ⟨rfl, _, hb3, _⟩))
    go_ret2
    refine ⟨by simp [txt], ?_⟩
    exact hb1.trans ((hba.trans ((hb2.mono hba.size).trans hb3)).mono hb1.size)
  · have hlt' : lo < hi := Nat.lt_of_le_of_ne HLO.out c
    go_enter Tryd.func31, Tryd.ntmps31
    go_wp2_with (first
      | (go_at_call 20; refine (shownR_calls (HRB.out _ (Below.refl _ _))).mono ?_; rintro e w1 ⟨rfl, hb1⟩; have fb := fresh_bld w1; have hba := below_alloc (Below.refl w1.heap.size w1) (.cells #[.pointer none, .slice none 0 0] 118); have hbW := hb1.trans (hba.mono hb1.size))
      | (go_at_call 70; refine (between_71 (B := w1.heap.size) (HRB.out _ hbW) hsz hlt' HHI.out ((hbW.block _ hlt).trans hv) ((HT2.out.mono (fun k hk => Nat.lt_of_lt_of_le hk hb1.size)).below hbW) ht.good (Nat.lt_of_lt_of_le hlt hb1.size) hba.size (inner71 hN) fb).mono ?_; rintro e w2 ⟨rfl, fb2, hb2⟩; rw [vp_from_runes (Nat.le_trans HLO.out HHI.out)] at fb2; obtain ⟨S, hS⟩ : ∃ S, S = ((visR t.cells).drop lo).take (hi - lo) := ⟨_, rfl⟩; rw [← hS] at fb2; have HS := Lib.hid hS; clear hS)
      | (go_at_call 63; refine (Tryd.Builder_String_any_k _ _ _ _ fb2 (Nat.le_trans hba.size hb2.size)).mono ?_; rintro e w3 ⟨rfl, _, hb3, _⟩))
    go_ret2
    refine ⟨?_, hbW.trans ((hb2.trans hb3).mono hb1.size)⟩
    rw [← HS.out]
    rfl
set_option maxRecDepth 100000 in
set_option maxHeartbeats 8000000 in
theorem text_calls {K0 : Nat → Prop} {W : World} {b : Nat} {t : Tree} (h : RopeAt K0 W b t) (hsz : t.cells.length ≤ 1048576) (hN : ∀ c ∈ t.cells, Rn c.1) :
    Calls Tryd.prog 30 #[.pointer (some ⟨b, 0, none⟩)] W fun e w' => e = .returned (.string (txt (visR t.cells))) ∧ Below W.heap.size W w' := by
  obtain ⟨S, hS⟩ : ∃ S, S = visR t.cells := ⟨_, rfl⟩
  have hsl : ∀ W', Below W.heap.size W W' → Calls Tryd.prog 31 #[.pointer (some ⟨b, 0, none⟩), .int .i64 0, .int .i64 (vis t.cells : Int)] W' fun e w' => e = .returned (.tuple #[.string (txt S), .int .i64 0]) ∧ Below W'.heap.size W' w' := by
    intro W' hW
    refine (slice_yes (h.below hW) hsz hN (lo := 0) (Nat.zero_le _) (Nat.le_refl _)).mono ?_
    rintro e w2 ⟨he, hb⟩
    rw [List.drop_zero, Nat.sub_zero, List.take_of_length_le (by rw [visR_len]; exact Nat.le_refl _), ← hS] at he
    exact ⟨he, hb⟩
  have HSL := Lib.hid hsl
  rw [← hS]
  clear hS hsl
  go_enter Tryd.func30, Tryd.ntmps30
  go_wp2_with (first
    | (go_at_call 20; refine (shownR_calls h).mono ?_; rintro e w1 ⟨rfl, hb1⟩)
    | (go_at_call 31; refine (HSL.out _ hb1).mono ?_; rintro e w2 ⟨rfl, hb2⟩))
  go_ret
  exact ⟨rfl, hb1.trans (hb2.mono hb1.size)⟩
end Go.Proofs.YteeigokkafcaaaaDoorRope
end
section
namespace Go.Proofs.YteeigokkafcaaaaDoorRope
open Go.RowKit Go.Proofs.YteeigokkafcaaaaDoorW.PrintWords Go.Proofs.YteeigokkafcaaaaDoorW.PrintMore Go.Proofs.YteeigokkafcaaaaDoor.Pr
set_option linter.unusedSimpArgs false
set_option linter.unusedVariables false
theorem RunsS.sethid {B OUT b HID END : Nat} {w W : World} {o : List (List Int × Int)} {acc : List Int} {hid : Int} (S : RunsS B OUT b HID END w o acc hid W) (h : Int) : RunsS B OUT b HID END w o acc h (W.setCell ⟨HID, 0, none⟩ (.int .i64 h)) ∧ KpW B W (W.setCell ⟨HID, 0, none⟩ (.int .i64 h)) := by
  obtain ⟨v, hv, hR⟩ := S.out
  have hk := KpW.set (v := .int .i64 h) S.lh S.hc
  refine ⟨⟨⟨v, set_other hv (ty_ne hv S.hc (by decide)), ?_⟩, S.bld.set _ S.hc, set1k S.hc, set_other S.ec (ty_ne S.ec S.hc (by decide)), S.bel.trans hk.b, S.lo, S.lh⟩, hk⟩
  refine Kd.R_mono (Kd.R_step (Kd.R_bound hR) (fun k hk' hl => ?_)) (fun k hk => hk.1)
  obtain ⟨_, _, _, q, hq, cells, hc⟩ := hk'
  obtain rfl : q = 58 := by simpa using (show q ∈ [58] from hq)
  rw [hc]
  exact set_other hc (ty_ne hc S.hc (by decide))
set_option maxRecDepth 100000 in
set_option maxHeartbeats 16000000 in
theorem runs2_same {B OUT b HID END : Nat} {w W : World} {o : List (List Int × Int)} {acc : List Int} {h : Int} (S : RunsS B OUT b HID END w o acc h W) (hB : B ≤ W.heap.size) (at_ : Int) {rs : List Int} {A : Option Addr} {c : Nat} (hr : RunesAt W A rs) (hA : ∀ ad, A = some ad → ad.block < B) (hrn : ∀ r ∈ rs, Rn r) (hal : acc.length + rs.length ≤ 1048576) :
    Calls Tryd.prog 66 #[.int .i64 at_, .agg #[.slice A rs.length c, .int .i64 h], .pointer (some ⟨HID, 0, none⟩), .pointer (some ⟨END, 0, none⟩), .pointer (some ⟨b, 0, none⟩)] W fun e w' => e = .returned (.bool true) ∧ RunsS B OUT b HID END w o (acc ++ rs) h w' ∧ KpW B W w' := by
  have HRN := Lib.hid hrn
  have HAL := Lib.hid hal
  have bl : (rs.length : Int) ≤ 1048576 := by omega
  obtain ⟨W1, hW1⟩ : ∃ W1, W.alloc (.cells #[.slice A rs.length c, .int .i64 h] 113) = W1 := ⟨_, rfl⟩
  have hb1 : Below W.heap.size W W1 := by rw [← hW1]; exact below_alloc (Below.refl _ W) _
  have z0 : W1.cell? ⟨W.heap.size, 0, none⟩ = some (.slice A rs.length c) := by rw [← hW1]; simp
  have z1 : W1.cell? ⟨W.heap.size, 1, none⟩ = some (.int .i64 h) := by rw [← hW1]; simp
  have S1 := S.below hB hb1
  have k1 := KpW.of hb1 hB
  have y1 := (cells1k S1.hc).1
  clear hrn hal
  go_enter Tryd.func66, Tryd.ntmps66
  go_wp2
  go_loopw [21] (fun i wr => ∃ k : Nat, k ≤ rs.length ∧ i = .int .i64 (k : Int) ∧ RunsS B OUT b HID END w o (acc ++ rs.take k) h wr ∧ KpW B W wr) (fun i _ => rs.length - (intOf i).toNat)
  case atStart => exact ⟨0, Nat.zero_le _, rfl, by simpa using S1, k1⟩
  case round =>
    obtain ⟨k, hkl, rfl, hI, hK⟩ := hrel
    by_cases hlt : k < rs.length
    · obtain ⟨ad, hAd, y0⟩ := Kd.at_int (hr.kept hA hK) (k : Int) (by omega) (by omega)
      subst hAd
      have e1 : rd rs (k : Int) = rs[k] := by
        show rs.getD (k : Int).toNat 0 = rs[k]
        rw [Int.toNat_natCast, List.getD_eq_getElem?_getD, List.getElem?_eq_getElem hlt]
        rfl
      rw [e1, Int.toNat_natCast] at y0
      have hR := HRN.out _ (List.getElem_mem hlt)
      have hbt := byte_take (acc := acc) hlt
      have hlen : (Lib.byteCells (utf (acc ++ rs.take k))).length + 4 ≤ 140737488355328 := by
        have := byte_len (acc ++ rs.take k)
        rw [List.length_append, List.length_take] at this
        have := HAL.out
        (try simp only [List.length_nil] at *)
        omega
      obtain ⟨r, hr'⟩ : ∃ r, r = rs[k] := ⟨_, rfl⟩
      rw [← hr'] at y0 hR hbt
      have HBT := Lib.hid hbt
      have hBw : B ≤ wr.heap.size := Nat.le_trans hB hK.b.size
      clear hbt hr' e1
      obtain ⟨r0, r1, r2⟩ := hR
      have r3 : -2147483648 ≤ r := by omega
      have r4 : r ≤ 2147483647 := by omega
      clear r0 r1 r2
      go_wp2_with (go_at_call 67; refine (Tryd.Builder_WriteRune_k B b _ r r3 r4 _ hI.bld hlen hBw).mono ?_; rintro e w2 ⟨rfl, h2, b2, k2⟩)
      go_roundw
      case rel =>
        obtain ⟨_, c9, hc9⟩ := hI.bld.at
        have h3 : Bld B b (acc ++ rs.take (k + 1)) w2 := by unfold Bld; rw [← HBT.out]; exact .inr h2
        exact ⟨k + 1, hlt, by go_num, hI.kpb ⟨b2, k2⟩ h3, hK.trans (KpB.kpw ⟨b2, k2⟩ hc9)⟩
      case measure => simp [intOf]; omega
    · obtain rfl : k = rs.length := by omega
      rw [List.take_length] at hI
      clear hlt hkl
      have d1 : decide (rs.length < rs.length) = false := decide_eq_false (Nat.lt_irrefl _)
      go_wp2
      go_ret
      exact ⟨rfl, hI, hK⟩
set_option maxRecDepth 100000 in
set_option maxHeartbeats 16000000 in
theorem runs2_other {B OUT b HID END : Nat} {w W : World} {o : List (List Int × Int)} {acc : List Int} {hid h : Int} (S : RunsS B OUT b HID END w o acc hid W) (hne : h ≠ hid) (hB : B ≤ W.heap.size) (at_ : Int) {rs : List Int} {A : Option Addr} {c : Nat} (hr : RunesAt W A rs) (hA : ∀ ad, A = some ad → ad.block < B) (hrn : ∀ r ∈ rs, Rn r) (ho : o.length ≤ 1048576) (hac : acc.length ≤ 1048576) (hal : rs.length ≤ 1048576) :
    Calls Tryd.prog 66 #[.int .i64 at_, .agg #[.slice A rs.length c, .int .i64 h], .pointer (some ⟨HID, 0, none⟩), .pointer (some ⟨END, 0, none⟩), .pointer (some ⟨b, 0, none⟩)] W fun e w' => e = .returned (.bool true) ∧ RunsS B OUT b HID END w (allR o acc hid) rs h w' ∧ KpW B W w' := by
  have HRN := Lib.hid hrn
  have HAL := Lib.hid hal
  have bl : (rs.length : Int) ≤ 1048576 := by omega
  have dn : (h == hid) = false := beq_eq_false_iff_ne.mpr hne
  obtain ⟨W1, hW1⟩ : ∃ W1, W.alloc (.cells #[.slice A rs.length c, .int .i64 h] 113) = W1 := ⟨_, rfl⟩
  have hb1 : Below W.heap.size W W1 := by rw [← hW1]; exact below_alloc (Below.refl _ W) _
  have hbx : W1.heap[W.heap.size]? = some (.cells #[.slice A rs.length c, .int .i64 h] 113 (0, 0)) := by rw [← hW1]; exact heap_new _ _
  have z0 : W1.cell? ⟨W.heap.size, 0, none⟩ = some (.slice A rs.length c) := by rw [← hW1]; simp
  have z1 : W1.cell? ⟨W.heap.size, 1, none⟩ = some (.int .i64 h) := by rw [← hW1]; simp
  have S1 := S.below hB hb1
  have hB1 := Nat.le_trans hB hb1.size
  have k1 := KpW.of hb1 hB
  have y1 := (cells1k S1.hc).1
  have y2 := (cells1k S1.ec).1
  have hend := end_calls S1 hB1 ho hac
  have HEND := Lib.hid hend
  clear hrn hal ho hac hend hne
  go_enter Tryd.func66, Tryd.ntmps66
  go_wp2_with (go_at_call 61; refine HEND.out.mono ?_; rintro e w3 ⟨rfl, S3, k3⟩; have hbx3 := k3.n _ _ _ (.inr rfl) hbx; have hz3 := cells2 hbx3; obtain ⟨u0, u1⟩ := hz3; have hy3 := cells1k S3.hc; obtain ⟨y3, f3⟩ := hy3; have h4 := S3.sethid h; obtain ⟨S4, k4⟩ := h4; have hbx4 := k4.n _ _ _ (.inr rfl) hbx3; have hz4 := cells2 hbx4; obtain ⟨t0, t1⟩ := hz4)
  have kA := k1.trans (k3.trans k4)
  go_loopw [21] (fun i wr => ∃ k : Nat, k ≤ rs.length ∧ i = .int .i64 (k : Int) ∧ RunsS B OUT b HID END w (allR o acc hid) (([] : List Int) ++ rs.take k) h wr ∧ KpW B W wr) (fun i _ => rs.length - (intOf i).toNat)
  case atStart => exact ⟨0, Nat.zero_le _, rfl, by simpa using S4, kA⟩
  case round =>
    obtain ⟨k, hkl, rfl, hI, hK⟩ := hrel
    by_cases hlt : k < rs.length
    · obtain ⟨ad, hAd, y0⟩ := Kd.at_int (hr.kept hA hK) (k : Int) (by omega) (by omega)
      subst hAd
      have e1 : rd rs (k : Int) = rs[k] := by
        show rs.getD (k : Int).toNat 0 = rs[k]
        rw [Int.toNat_natCast, List.getD_eq_getElem?_getD, List.getElem?_eq_getElem hlt]
        rfl
      rw [e1, Int.toNat_natCast] at y0
      have hR := HRN.out _ (List.getElem_mem hlt)
      have hbt := byte_take (acc := ([] : List Int)) hlt
      have hlen : (Lib.byteCells (utf (([] : List Int) ++ rs.take k))).length + 4 ≤ 140737488355328 := by
        have := byte_len (([] : List Int) ++ rs.take k)
        rw [List.length_append, List.length_take] at this
        have := HAL.out
        (try simp only [List.length_nil] at *)
        omega
      obtain ⟨r, hr'⟩ : ∃ r, r = rs[k] := ⟨_, rfl⟩
      rw [← hr'] at y0 hR hbt
      have HBT := Lib.hid hbt
      have hBw : B ≤ wr.heap.size := Nat.le_trans hB hK.b.size
      clear hbt hr' e1
      obtain ⟨r0, r1, r2⟩ := hR
      have r3 : -2147483648 ≤ r := by omega
      have r4 : r ≤ 2147483647 := by omega
      clear r0 r1 r2
      go_wp2_with (go_at_call 67; refine (Tryd.Builder_WriteRune_k B b _ r r3 r4 _ hI.bld hlen hBw).mono ?_; rintro e w2 ⟨rfl, h2, b2, k2⟩)
      go_roundw
      case rel =>
        obtain ⟨_, c9, hc9⟩ := hI.bld.at
        have h3 : Bld B b (([] : List Int) ++ rs.take (k + 1)) w2 := by unfold Bld; rw [← HBT.out]; exact .inr h2
        exact ⟨k + 1, hlt, by go_num, hI.kpb ⟨b2, k2⟩ h3, hK.trans (KpB.kpw ⟨b2, k2⟩ hc9)⟩
      case measure => simp [intOf]; omega
    · obtain rfl : k = rs.length := by omega
      rw [List.take_length] at hI
      clear hlt hkl
      have d1 : decide (rs.length < rs.length) = false := decide_eq_false (Nat.lt_irrefl _)
      go_wp2
      go_ret
      exact ⟨rfl, hI, hK⟩
end Go.Proofs.YteeigokkafcaaaaDoorRope
end
section
namespace Go.Proofs.YteeigokkafcaaaaDoorRope
open Go.RowKit Go.Proofs.YteeigokkafcaaaaDoorW.PrintWords Go.Proofs.YteeigokkafcaaaaDoorW.PrintMore Go.Proofs.YteeigokkafcaaaaDoor.Pr
set_option linter.unusedSimpArgs false
set_option linter.unusedVariables false
theorem visR_snoc {cs : List (Int × Int)} {i : Nat} (h : i < cs.length) : visR (cs.take (i + 1)) = visR (cs.take i) ++ if cs[i].2 = 0 then [cs[i].1] else [] := by
  rw [List.take_succ_eq_append_getElem h]
  unfold visR
  rw [List.filter_append, List.map_append]
  congr 1
  by_cases c : cs[i].2 = 0
  · simp [c]
  · simp [c]
set_option maxRecDepth 100000 in
set_option maxHeartbeats 4000000 in
theorem textS_calls {cs : List (Int × Int)} (hb : cs.length ≤ 1048576) (hN : ∀ c ∈ cs, Rn c.1) {w : World} {A : Option Addr} {c : Nat} (hA : Kd.C k36 w A cs.length (sCells cs)) : Calls Tryd.prog 32 #[.slice A cs.length c, .int .i64 0, .int .i64 (cs.length : Int)] w fun e w' => e = .returned (.string (txt (visR cs))) ∧ Below w.heap.size w w' := by
  have HB := Lib.hid hb
  have hlb : (cs.length : Int) ≤ 1048576 := by omega
  clear hb
  go_enter Tryd.func32, Tryd.ntmps32
  go_wp2
  go_loopw [7, 8] (fun s i wr => ∃ j : Nat, j ≤ cs.length ∧ i = .int .i64 (j : Int) ∧ s = .string (txt (visR (cs.take j))) ∧ Below w.heap.size w wr) (fun _ i _ => cs.length - (intOf i).toNat)
  case atStart => exact ⟨0, Nat.zero_le _, rfl, rfl, Below.refl _ _⟩
  case round =>
    obtain ⟨j, hj, rfl, rfl, hD⟩ := hrel
    by_cases hlt : j < cs.length
    · obtain ⟨ad, hAd, y0, y1⟩ := row_cell (Kd.C_below hA hD) hlt
      subst hAd
      have hsn := visR_snoc hlt
      have hr := hN _ (List.getElem_mem hlt)
      obtain ⟨⟨r, h⟩, hrh⟩ : ∃ x, cs[j] = x := ⟨_, rfl⟩
      rw [hrh] at y0 y1 hsn hr
      dsimp only at y0 y1 hsn hr
      clear hrh
      have hz1 := txt_size_le (visR (cs.take j))
      have hz3 := vis_le (cs.take j)
      rw [List.length_take] at hz3
      rw [visR_len] at hz1
      have hz2 := txt_size_le [r]
      simp only [List.length_singleton] at hz2
      have hbs : (((txt (visR (cs.take j))).size : Int) + ((txt [r]).size : Int)) ≤ 9223372036854775807 := by have := HB.out; omega
      have hen := encode_txt hr
      by_cases c0 : h = 0
      · rw [if_pos c0] at hsn
        have d0 : (h == 0) = true := beq_iff_eq.mpr c0
        have HS := Lib.hid hsn
        clear hsn hz1 hz2 hz3 c0 hr
        go_wp2
        go_roundw
        case rel => exact ⟨j + 1, hlt, by go_num, by rw [HS.out, txt_append], hD⟩
        case measure => simp [intOf]; omega
      · rw [if_neg c0, List.append_nil] at hsn
        have d0 : (h == 0) = false := beq_eq_false_iff_ne.mpr c0
        have HS := Lib.hid hsn
        clear hsn hz1 hz2 hz3 c0 hr hbs hen
        go_wp2
        go_roundw
        case rel => exact ⟨j + 1, hlt, by go_num, by rw [HS.out], hD⟩
        case measure => simp [intOf]; omega
    · obtain rfl : j = cs.length := by omega
      have d1 : decide (cs.length < cs.length) = false := decide_eq_false (Nat.lt_irrefl _)
      rw [List.take_length]
      clear hlt hj
      go_wp2
      go_ret
      exact ⟨rfl, hD⟩
end Go.Proofs.YteeigokkafcaaaaDoorRope
end
section
namespace Go.Proofs.YteeigokkafcaaaaDoorRope
open Go.RowKit Go.Proofs.YteeigokkafcaaaaDoorW.PrintWords Go.Proofs.YteeigokkafcaaaaDoorW.PrintMore Go.Proofs.YteeigokkafcaaaaDoor.Pr
set_option linter.unusedSimpArgs false
set_option linter.unusedVariables false
def RopeHas (W : World) (b : Nat) (cs : List (Int × Int)) : Prop := ∃ K t, RopeAt K W b t ∧ t.cells = cs
theorem RopeHas.below {W W' : World} {b : Nat} {cs : List (Int × Int)} (h : RopeHas W b cs) (hb : Below W.heap.size W W') : RopeHas W' b cs := by
  obtain ⟨K, t, h, hc⟩ := h
  exact ⟨K, t, h.below hb, hc⟩
theorem BarsAt.grown {W W' : World} {b : Nat} (h : BarsAt W) (hg : W.grownBy W' (some b)) (hb : b ≠ 0) : BarsAt W' := by
  have hl := h.lt
  obtain ⟨t, fr, h⟩ := h
  exact ⟨t, fr, (hg.block 0 hl (fun e => hb (by injection e with e; exact e.symm))).trans h⟩
def Row (S : Nat → Prop) (W : World) (A : Option Addr) (c : Nat) (cs : List (Int × Int)) : Prop := ∃ base, Kd.R k36 36 W base (fun k => ¬ S k) (.slice A cs.length c) (sCells cs)
section
variable {S : Nat → Prop} {W W' : World} {A : Option Addr} {c : Nat} {cs : List (Int × Int)}
theorem Row.below (h : Row S W A c cs) (hb : Below W.heap.size W W') : Row S W' A c cs := by
  obtain ⟨base, h⟩ := h
  exact ⟨base, Kd.R_below h hb⟩
theorem Row.grown {b : Nat} (h : Row S W A c cs) (hg : W.grownBy W' (some b)) (hb : S b) : Row S W' A c cs := by
  obtain ⟨base, h⟩ := h
  exact ⟨base, Kd.R_step h (fun k hk hl => hg.block k hl (fun e => hk (by injection e with e; rw [e]; exact hb)))⟩
theorem Row.rd (h : Row S W A c cs) : Kd.C k36 W A cs.length (sCells cs) := by
  obtain ⟨base, h⟩ := h
  have := (Kd.R_reads' h).2.2
  rwa [sCells_len] at this
theorem Row.cap (h : Row S W A c cs) : cs.length ≤ c := by
  obtain ⟨base, h⟩ := h
  exact (Kd.R_reads' h).2.1
theorem Row.of {n : Nat} (h : Kd.R k36 36 W n (fun k => n ≤ k) (.slice A cs.length c) (sCells cs)) (hS : ∀ k, S k → k < n ∨ W.heap.size ≤ k) : Row S W A c cs :=
  ⟨n, Kd.R_mono (Kd.R_bound h) (fun k hk hs => by rcases hS k hs with h' | h' <;> omega)⟩
end
section
variable {W : World} {b : Nat} {cs : List (Int × Int)}
theorem rope_total (h : RopeHas W b cs) : Calls Tryd.prog 19 #[.pointer (some ⟨b, 0, none⟩)] W fun e w' => e = .returned (.int .i64 (cs.length : Int)) ∧ Below W.heap.size W w' := by
  obtain ⟨K, t, h, rfl⟩ := h
  exact total_calls h
theorem rope_shown (h : RopeHas W b cs) : Calls Tryd.prog 20 #[.pointer (some ⟨b, 0, none⟩)] W fun e w' => e = .returned (.int .i64 (vis cs : Int)) ∧ Below W.heap.size W w' := by
  obtain ⟨K, t, h, rfl⟩ := h
  exact shownR_calls h
theorem rope_slice (h : RopeHas W b cs) (hsz : cs.length ≤ 1048576) (hN : ∀ c ∈ cs, Rn c.1) {lo hi : Nat} (hlo : lo ≤ hi) (hhi : hi ≤ vis cs) : Calls Tryd.prog 31 #[.pointer (some ⟨b, 0, none⟩), .int .i64 (lo : Int), .int .i64 (hi : Int)] W fun e w' => e = .returned (.tuple #[.string (txt (((visR cs).drop lo).take (hi - lo))), .int .i64 0]) ∧ Below W.heap.size W w' := by
  obtain ⟨K, t, h, rfl⟩ := h
  exact slice_yes h hsz hN hlo hhi
theorem rope_text (h : RopeHas W b cs) (hsz : cs.length ≤ 1048576) (hN : ∀ c ∈ cs, Rn c.1) : Calls Tryd.prog 30 #[.pointer (some ⟨b, 0, none⟩)] W fun e w' => e = .returned (.string (txt (visR cs))) ∧ Below W.heap.size W w' := by
  obtain ⟨K, t, h, rfl⟩ := h
  exact text_calls h hsz hN
theorem rope_bump (h : RopeHas W b cs) {l : List (Nat × Nat)} {by_ : Int} (hby : by_ = 1 ∨ by_ = -1) (hN : Norm l cs.length) (hok : BumpOk cs l by_) (hsz : cs.length ≤ 1048576) {A : Option Addr} {c : Nat} (hA : Kd.C k133 W A l.length (sRng l)) (hc : l.length ≤ c) : Calls Tryd.prog 39 #[.pointer (some ⟨b, 0, none⟩), .slice A l.length c, .int .i64 by_] W fun e w' => e = .returned (.int .i64 0) ∧ RopeHas w' b (bumpC cs l by_) ∧ W.grownBy w' (some b) := by
  obtain ⟨K, t, h, rfl⟩ := h
  rcases hby with rfl | rfl
  · refine (bump_up h hN hok hsz hA hc).mono ?_
    rintro e w' ⟨t', he, h', hc, hg⟩
    exact ⟨he, ⟨_, t', h', hc⟩, hg⟩
  · refine (bump_down h hN hok hsz hA hc).mono ?_
    rintro e w' ⟨t', he, h', hc, hg⟩
    exact ⟨he, ⟨_, t', h', hc⟩, hg⟩
end
end Go.Proofs.YteeigokkafcaaaaDoorRope
end
section
namespace Go.Proofs.YteeigokkafcaaaaDoorRope
open Go.RowKit Go.Proofs.YteeigokkafcaaaaDoorW.PrintWords Go.Proofs.YteeigokkafcaaaaDoorW.PrintMore Go.Proofs.YteeigokkafcaaaaDoor.Pr
set_option linter.unusedSimpArgs false
set_option linter.unusedVariables false
theorem run_store_fn {P : Program} {w : World} (a : Addr) (m : Mode) (f : Fn) {x1 : _} {x2 : _} : (store a (.func f x1 x2) m).run P w = stored P w a (.func f x1 x2) m := run_store P w a _ m rfl
attribute [local go_sem] run_store_fn
theorem At.take {C : List (Int × Int)} {q : Nat} {s : List (Int × Int)} (h : At C q s) : C.take (q + s.length) = C.take q ++ s := by
  obtain ⟨X, Y, rfl, rfl⟩ := h
  have e1 : List.take X.length (X ++ s ++ Y) = X := by rw [List.append_assoc, List.take_left]
  have e2 : List.take (X.length + s.length) (X ++ s ++ Y) = X ++ s := by
    rw [show X.length + s.length = (X ++ s).length by simp, List.take_left]
  rw [e1, e2]
def RunsJ (B OUT b HID END : Nat) (w : World) (C : List (Int × Int)) (q : Nat) (W : World) : Prop := ∃ o acc hid, RunsQ C q o acc hid ∧ q ≤ C.length ∧ RunsS B OUT b HID END w o acc hid W
theorem see66 {B OUT b HID END : Nat} {w : World} {C : List (Int × Int)} (hC : C.length ≤ 1048576) (hN : ∀ c ∈ C, Rn c.1) (at_ : Nat) (p : Pc) (W : World) (hj : RunsJ B OUT b HID END w C at_ W) (ha : At C at_ p.cells) (hr : RunesAt W p.A p.rs) (hA : ∀ ad, p.A = some ad → ad.block < B) (hne : p.rs ≠ []) (hB : B ≤ W.heap.size) :
    Calls Tryd.prog 66 #[.int .i64 (at_ : Int), .agg #[.slice p.A p.rs.length p.c, .int .i64 p.hid], .pointer (some ⟨HID, 0, none⟩), .pointer (some ⟨END, 0, none⟩), .pointer (some ⟨b, 0, none⟩)] W fun e w' => (e = .returned (.bool true) ∧ RunsJ B OUT b HID END w C (at_ + p.rs.length) w' ∧ KpW B W w') ∨ (e = .returned (.bool false) ∧ False) := by
  obtain ⟨o, acc, hid, hq, hqC, S⟩ := hj
  have hle := ha.le
  have htk := ha.take
  have hpl : p.cells.length = p.rs.length := by simp [Pc.cells]
  rw [hpl] at hle htk
  have hrn : ∀ r ∈ p.rs, Rn r := by
    intro r hr'
    have : (r, p.hid) ∈ C := by
      obtain ⟨X, Y, hXY, _⟩ := ha
      rw [hXY]
      simp only [List.mem_append]
      exact .inl (.inr (List.mem_map.2 ⟨r, hr', rfl⟩))
    exact hN _ this
  have h1 := hq.hid
  have h2 := hq.acc
  by_cases c : p.hid = hid
  · subst c
    refine (runs2_same S hB at_ hr hA hrn (by omega)).mono ?_
    rintro e w' ⟨he, S', k'⟩
    exact .inl ⟨he, ⟨_, _, _, hq.same hne htk, hle, S'⟩, k'⟩
  · have h3 : o.length ≤ (allR o acc hid).length := by
      unfold allR
      split <;> simp
    refine (runs2_other S c hB at_ hr hA hrn (by omega) (by omega) (by omega)).mono ?_
    rintro e w' ⟨he, S', k'⟩
    exact .inl ⟨he, ⟨_, _, _, hq.other hne c htk, hle, S'⟩, k'⟩
set_option maxRecDepth 100000 in
set_option maxHeartbeats 16000000 in
theorem runs_of {K0 : Nat → Prop} {W : World} {b0 : Nat} {t : Tree} (h : RopeAt K0 W b0 t) (hsz : t.cells.length ≤ 1048576) (hN : ∀ c ∈ t.cells, Rn c.1) :
    Calls Tryd.prog 23 #[.pointer (some ⟨b0, 0, none⟩)] W fun e w' => ∃ A c L, e = .returned (.slice A (sRuns L).length c) ∧ Kd.R k58 58 w' W.heap.size (fun k => W.heap.size ≤ k) (.slice A (sRuns L).length c) (sRuns L) ∧ Few L ∧ rcells L = t.cells ∧ Below W.heap.size W w' := by
  obtain ⟨p0, hv, hE, hn, hlt⟩ := h.blk
  have ht := hE.t _ List.mem_cons_self
  have ht2 := Rpo.of (ht.rep.bound ht.good)
  have ht3 : Rpo (fun k => k < W.heap.size) W t (.pointer p0) := ht2.mono (fun k hk => hk.2)
  have y00 : W.cell? ⟨b0, 0, none⟩ = some (.pointer p0) := by simp [World.cell?, hv]
  obtain ⟨fv, hfv⟩ : ∃ fv : Value, fv = .func (.func 61) #[] #[.pointer (some ⟨W.heap.size + 1, 0, none⟩), .pointer (some ⟨W.heap.size, 0, none⟩), .pointer (some ⟨W.heap.size + 1 + 1, 0, none⟩)] := ⟨_, rfl⟩
  obtain ⟨W5, hW5⟩ : ∃ W5, ((((W.alloc (.cells #[.slice none 0 0] 23)).alloc (.cells #[.pointer none, .slice none 0 0] 118)).alloc (.cells #[.int .i64 0] 3)).alloc (.cells #[.func (.func 61) #[] #[.pointer (some ⟨W.heap.size + 1, 0, none⟩), .pointer (some ⟨W.heap.size, 0, none⟩), .pointer (some ⟨W.heap.size + 1 + 1, 0, none⟩)]] 1)) = W5 := ⟨_, rfl⟩
  have hb5 : Below W.heap.size W W5 := by rw [← hW5]; exact below_alloc (below_alloc (below_alloc (below_alloc (Below.refl _ W) _) _) _) _
  have o1 : W5.heap[W.heap.size]? = some (Obj.cells #[.slice none 0 0] 23 (0, 0)) := by
    rw [← hW5]; exact ((below_alloc (below_alloc (below_alloc (Below.refl _ _) _) _) _).block _ (by simp)).trans (heap_new W _)
  have o2 : W5.heap[W.heap.size + 1]? = some (Obj.cells #[.pointer none, .slice none 0 0] 118 (0, 0)) := by
    rw [← hW5]
    have := heap_new (W.alloc (.cells #[.slice none 0 0] 23)) (.cells #[.pointer none, .slice none 0 0] 118)
    rw [World.size_alloc] at this
    exact ((below_alloc (below_alloc (Below.refl _ _) _) _).block _ (by simp)).trans this
  have o3 : W5.heap[W.heap.size + 1 + 1]? = some (Obj.cells #[.int .i64 0] 3 (0, 0)) := by
    rw [← hW5]
    have := heap_new ((W.alloc (.cells #[.slice none 0 0] 23)).alloc (.cells #[.pointer none, .slice none 0 0] 118)) (.cells #[.int .i64 0] 3)
    rw [World.size_alloc, World.size_alloc] at this
    exact ((below_alloc (Below.refl _ _) _).block _ (by simp)).trans this
  have o4 : W5.heap[W.heap.size + 1 + 1 + 1]? = some (Obj.cells #[.func (.func 61) #[] #[.pointer (some ⟨W.heap.size + 1, 0, none⟩), .pointer (some ⟨W.heap.size, 0, none⟩), .pointer (some ⟨W.heap.size + 1 + 1, 0, none⟩)]] 1 (0, 0)) := by
    rw [← hW5]
    have := heap_new (((W.alloc (.cells #[.slice none 0 0] 23)).alloc (.cells #[.pointer none, .slice none 0 0] 118)).alloc (.cells #[.int .i64 0] 3)) (.cells #[.func (.func 61) #[] #[.pointer (some ⟨W.heap.size + 1, 0, none⟩), .pointer (some ⟨W.heap.size, 0, none⟩), .pointer (some ⟨W.heap.size + 1 + 1, 0, none⟩)]] 1)
    rwa [World.size_alloc, World.size_alloc, World.size_alloc] at this
  have S5 : RunsS W.heap.size W.heap.size (W.heap.size + 1) (W.heap.size + 1 + 1) (W.heap.size + 1 + 1 + 1) W [] [] 0 W5 :=
    ⟨⟨_, o1, Kd.R_nil _ _ _ _ _⟩, .inl ⟨Nat.le_succ _, _, o2, ⟨rfl, .inl ⟨rfl, rfl⟩⟩, by simp [Value.ownBlock]⟩, o3, o4, hb5, Nat.le_refl _, by omega⟩
  have y5 := pw_cell_below hb5 y00
  have hwk := walk_66 (B := W.heap.size) (C := t.cells) (lo := 0) (J := RunsJ W.heap.size W.heap.size (W.heap.size + 1) (W.heap.size + 1 + 1) (W.heap.size + 1 + 1 + 1) W t.cells) (Jx := fun _ => False) (k0 := .pointer (some ⟨W.heap.size + 1 + 1, 0, none⟩)) (k1 := .pointer (some ⟨W.heap.size + 1 + 1 + 1, 0, none⟩)) (k2 := .pointer (some ⟨W.heap.size + 1, 0, none⟩)) hsz (Nat.zero_le _)
    (fun at_ p W' hj _ ha hr hA _ hne _ hB' => see66 hsz hN at_ p W' hj ha hr hA hne hB')
    (fun at_ n W' hj hn => by rw [show at_ + n = at_ by omega]; exact hj)
    (fun at_ W' W'' hj hb' => by obtain ⟨o, acc, hid, hq, hqC, S⟩ := hj; exact ⟨o, acc, hid, hq, hqC, S.below (Nat.le_trans S.bel.size (Nat.le_refl _)) hb'⟩)
    t.size t (.pointer p0) W5 0 (Nat.le_refl _) (ht3.below hb5) ht.good hb5.size (At.all _) ⟨[], [], 0, RunsQ.zero _, Nat.zero_le _, S5⟩
  rw [Nat.zero_add] at hwk
  replace hwk := hwk.mono (fun e w' h => h.elim id (fun h => h.2.elim))
  have HWK := Lib.hid hwk
  have HSZ := Lib.hid hsz
  clear hwk o1 o2 o3 o4 S5 hfv fv hsz
  go_enter Tryd.func23, Tryd.ntmps23
  go_wp2_with (first
    | (go_at_call 65; refine HWK.out.mono ?_; rintro e w6 ⟨rfl, hj6, k6⟩; obtain ⟨o, acc, hid, hq, _, S6⟩ := hj6; have y6 := (cells1k S6.ec).1; have hB6 := S6.bel.size; have h1 := hq.hid; have h2 := hq.acc; have h3 : o.length ≤ (allR o acc hid).length := (by unfold allR; split <;> simp); have hend := end_calls S6 hB6 (by have := HSZ.out; omega) (by have := HSZ.out; omega); have HEND := Lib.hid hend; clear h1 h2 h3 hend)
    | (go_at_call 61; refine HEND.out.mono ?_; rintro e w7 ⟨rfl, S7, k7⟩; have ho7 := S7.out; obtain ⟨v7, hv7, hR7⟩ := ho7; have hs7 := Kd.R_slice hR7; obtain ⟨A7, c7, hvv⟩ := hs7; subst hvv; have y7 := (cells1k hv7).1))
  go_ret
  refine ⟨A7, c7, allR o acc hid, rfl, hR7, hq.few, ?_, S7.bel⟩
  rw [hq.cells, List.take_length]
theorem rope_runs {W : World} {b : Nat} {cs : List (Int × Int)} (h : RopeHas W b cs) (hsz : cs.length ≤ 1048576) (hN : ∀ c ∈ cs, Rn c.1) : Calls Tryd.prog 23 #[.pointer (some ⟨b, 0, none⟩)] W fun e w' => ∃ A c L, e = .returned (.slice A L.length c) ∧ Kd.R k58 58 w' W.heap.size (fun k => W.heap.size ≤ k) (.slice A L.length c) (sRuns L) ∧ Few L ∧ rcells L = cs ∧ Below W.heap.size W w' := by
  obtain ⟨K, t, h, rfl⟩ := h
  refine (runs_of h hsz hN).mono ?_
  rintro e w' ⟨A, c, L, he, hR, hf, hc, hb⟩
  rw [show (sRuns L).length = L.length by simp [sRuns]] at he hR
  exact ⟨A, c, L, he, hR, hf, hc, hb⟩
end Go.Proofs.YteeigokkafcaaaaDoorRope
end
section
namespace Go.Proofs.YteeigokkafcaaaaDoorRope
open Go.RowKit Go.Proofs.YteeigokkafcaaaaDoorW.PrintWords Go.Proofs.YteeigokkafcaaaaDoorW.PrintMore Go.Proofs.YteeigokkafcaaaaDoor.Pr
set_option linter.unusedSimpArgs false
set_option linter.unusedVariables false
def flat (l : List (Nat × Nat)) : List Nat := l.flatMap (fun r => List.range' r.1 (r.2 - r.1))
theorem flat_append (a b : List (Nat × Nat)) : flat (a ++ b) = flat a ++ flat b := by simp [flat]
theorem flat_one (r : Nat × Nat) : flat [r] = List.range' r.1 (r.2 - r.1) := by simp [flat]
structure Rngs (l : List (Nat × Nat)) (ps : List Nat) : Prop where
  one : ∀ r ∈ l, r.1 < r.2
  two : l.Pairwise (fun a b => a.2 < b.1)
  all : flat l = ps
theorem Rngs.nil : Rngs [] [] := ⟨by simp, List.Pairwise.nil, rfl⟩
theorem Rngs.grow {L : List (Nat × Nat)} {b : Nat × Nat} {ps : List Nat} {x n : Nat} (h : Rngs (L ++ [b]) ps) (hb : b.2 = x) (hn : 0 < n) : Rngs (L ++ [(b.1, x + n)]) (ps ++ List.range' x n) := by
  have h1 := h.one b (by simp)
  have ht := List.pairwise_append.1 h.two
  refine ⟨fun r hr => ?_, List.pairwise_append.2 ⟨ht.1, by simp, fun a ha y hy => ?_⟩, ?_⟩
  · rcases List.mem_append.1 hr with hr | hr
    · exact h.one r (List.mem_append_left _ hr)
    · rw [List.mem_singleton.1 hr]; dsimp only; omega
  · rw [List.mem_singleton.1 hy]; exact ht.2.2 a ha b (by simp)
  · rw [flat_append, flat_one, ← h.all, flat_append, flat_one, List.append_assoc]
    congr 1
    dsimp only
    rw [show x + n - b.1 = (b.2 - b.1) + n by omega, ← List.range'_append_1, show b.1 + (b.2 - b.1) = x by omega]
theorem Rngs.put {l : List (Nat × Nat)} {ps : List Nat} {x n : Nat} (h : Rngs l ps) (hl : ∀ r ∈ l, r.2 < x) (hn : 0 < n) : Rngs (l ++ [(x, x + n)]) (ps ++ List.range' x n) := by
  refine ⟨fun r hr => ?_, List.pairwise_append.2 ⟨h.two, by simp, fun a ha y hy => ?_⟩, ?_⟩
  · rcases List.mem_append.1 hr with hr | hr
    · exact h.one r hr
    · rw [List.mem_singleton.1 hr]; dsimp only; omega
  · rw [List.mem_singleton.1 hy]; exact hl a ha
  · rw [flat_append, flat_one, ← h.all]
    dsimp only
    rw [Nat.add_sub_cancel_left]
end Go.Proofs.YteeigokkafcaaaaDoorRope
end
section
namespace Go.Proofs.YteeigokkafcaaaaDoorRope
open Go.RowKit Go.Proofs.YteeigokkafcaaaaDoorW.PrintWords Go.Proofs.YteeigokkafcaaaaDoorW.PrintMore Go.Proofs.YteeigokkafcaaaaDoor.Pr
set_option linter.unusedSimpArgs false
set_option linter.unusedVariables false
structure VisS (B OUT : Nat) (l : List (Nat × Nat)) (W : World) : Prop where
  out : ∃ v, W.heap[OUT]? = some (.cells #[v] 61 (0, 0)) ∧ Kd.R k133 133 W B (fun k => B ≤ k) v (sRng l)
  lo : B ≤ OUT
theorem R133_typed {ok : Nat → Prop} {W : World} {o : List (Nat × Nat)} {base : Nat} {v : Value} (h : Kd.R k133 133 W base ok v (sRng o)) : ∀ k, v.ownBlock = some k → ∃ c t, W.heap[k]? = some (Obj.cells c t (0, 0)) ∧ t = 133 := fun k e => by
  obtain ⟨cells, hc⟩ := Kd.N_typed (Kd.R_N h) k e
  exact ⟨cells, 133, hc, rfl⟩
theorem R133_ne {ok : Nat → Prop} {W : World} {o : List (Nat × Nat)} {base : Nat} {v : Value} (h : Kd.R k133 133 W base ok v (sRng o)) {k : Nat} {c : Array Value} {t : Nat} (hk : W.heap[k]? = some (Obj.cells c t (0, 0))) (ht : t ≠ 133) : some k ≠ v.ownBlock := by
  intro e
  obtain ⟨cells, t', hc, rfl⟩ := R133_typed h k e.symm
  rw [hk] at hc
  injection hc with hc
  injection hc with _ hc _
  exact ht hc
theorem R133_other {ok : Nat → Prop} {W W' : World} {o : List (Nat × Nat)} {base : Nat} {v : Value} (h : Kd.R k133 133 W base ok v (sRng o)) (hk : ∀ (k : Nat) (c : Array Value), W.heap[k]? = some (Obj.cells c 133 (0, 0)) → W'.heap[k]? = some (Obj.cells c 133 (0, 0))) : Kd.R k133 133 W' base ok v (sRng o) := by
  refine Kd.R_mono (Kd.R_step (Kd.R_bound h) (fun k hk' hl => ?_)) (fun k hk => hk.1)
  obtain ⟨_, _, _, q, hq, cells, hc⟩ := hk'
  obtain rfl : q = 133 := by simpa using (show q ∈ [133] from hq)
  rw [hc]
  exact hk k cells hc
theorem sRng_app2 (a b : List (Nat × Nat)) : sRng (a ++ b) = sRng a ++ sRng b := by simp [sRng]
theorem VisS.below {B OUT : Nat} {l : List (Nat × Nat)} {W W' : World} (h : VisS B OUT l W) (hb : Below W.heap.size W W') : VisS B OUT l W' := by
  obtain ⟨v, hv, hR⟩ := h.out
  exact ⟨⟨v, (hb.block _ (new_lt hv)).trans hv, Kd.R_below hR hb⟩, h.lo⟩
theorem VisS.set {B OUT : Nat} {l : List (Nat × Nat)} {W : World} (h : VisS B OUT l W) {k : Nat} {c : Array Value} (u : Value) (hk : W.heap[k]? = some (Obj.cells c 3 (0, 0))) : VisS B OUT l (W.setCell ⟨k, 0, none⟩ u) := by
  obtain ⟨v, hv, hR⟩ := h.out
  exact ⟨⟨v, set_other hv (ty_ne hv hk (by decide)), R133_other hR (fun i c hi => set_other hi (ty_ne hi hk (by decide)))⟩, h.lo⟩
theorem VisS.push {B OUT : Nat} {l l' : List (Nat × Nat)} {W W4 : World} {v v4 : Value} (h : VisS B OUT l W) (hB : B ≤ W.heap.size) (hv : W.heap[OUT]? = some (.cells #[v] 61 (0, 0))) (hR : Kd.R k133 133 W B (fun k => B ≤ k) v (sRng l)) (hR4 : Kd.R k133 133 W4 B (fun k => B ≤ k) v4 (sRng l')) (hg : W.grownBy W4 v.ownBlock) :
    VisS B OUT l' (W4.setCell ⟨OUT, 0, none⟩ v4) ∧ KpI B W (W4.setCell ⟨OUT, 0, none⟩ v4) := by
  have hv4 := (hg.block _ (new_lt hv) (R133_ne hR hv (by decide))).trans hv
  have hB4 : Below B W W4 := ⟨hg.os, hg.tape, hg.output, hg.size, fun k hk => hg.block k (Nat.lt_of_lt_of_le hk hB) (fun e => by have h1 : B ≤ k := hR.1 k e.symm; omega)⟩
  refine ⟨⟨⟨v4, set1k hv4, R133_other hR4 (fun i c hi => set_other hi (ty_ne hi hv4 (by decide)))⟩, h.lo⟩, ⟨hB4.setCell (p := ⟨OUT, 0, none⟩) h.lo _, fun k c ty hty hk => ?_⟩⟩
  have h1 : ty ≠ 133 := by rcases hty with rfl | rfl | rfl | rfl <;> decide
  have h2 : ty ≠ 61 := by rcases hty with rfl | rfl | rfl | rfl <;> decide
  have h4 := (hg.block _ (new_lt hk) (R133_ne hR hk h1)).trans hk
  exact set_other h4 (ty_ne h4 hv4 h2)
set_option maxRecDepth 100000 in
set_option maxHeartbeats 16000000 in
theorem vis1_none {B OUT : Nat} {W : World} (S : VisS B OUT [] W) (hB : B ≤ W.heap.size) {a n : Nat} (ha : a + n ≤ 2097152) (A : Option Addr) (c : Nat) :
    Calls Tryd.prog 74 #[.int .i64 (a : Int), .slice A n c, .pointer (some ⟨OUT, 0, none⟩)] W fun e w' => e = .returned (.tuple #[]) ∧ VisS B OUT [(a, a + n)] w' ∧ KpI B W w' := by
  obtain ⟨v, hv, hR⟩ := S.out
  obtain ⟨A0, c0, rfl⟩ := Kd.R_slice hR
  obtain ⟨y0, g0⟩ := cells1k hv
  have HL : Hid (((sRng []).length + 1) * 16 ≤ 140737488355328) := Lib.hid (by decide)
  have b1 : (a : Int) + (n : Int) ≤ 2097152 := by omega
  have e1 : (a : Int) + (n : Int) = ((a + n : Nat) : Int) := by omega
  have wz : IntKind.i64.wrap ((a : Int) + (n : Int)) = ((a + n : Nat) : Int) := by rw [← e1]; exact (IntWalk.i64_left _).trans (w64 (by omega) (by omega))
  have we : wrap64 ((a : Int) + (n : Int)) = ((a + n : Nat) : Int) := by rw [← e1]; exact w64 (by omega) (by omega)
  have hz : (sRng []).length = 0 := rfl
  rw [hz] at y0 hv hR
  clear ha e1 b1
  go_enter Tryd.func74, Tryd.ntmps74
  go_wp2_with (((with_reducible refine gate_builtin (b := .append) (xs := #[.tmp 29, .tmp 36]) rfl ?_); at_builtin; refine Kd.R_append k133 (w0 := W) B rfl (.tmp 29) (.tmp 36) 61 133 (.agg #[.int .i64 0, .int .i64 0]) 16 rfl Tryd.underlying61 info133 rfl (by decide) (by decide) (.slice A0 0 c0) (sRng []) ⟨(a : Int), ((a + n : Nat) : Int)⟩ [.int .i64 (a : Int), .int .i64 ((a + n : Nat) : Int)] (fun k => B ≤ k) (fun _ => False) rfl rfl (k133_mkM _ _ _ ⟨_, _⟩) (fun _ h => h.elim) (fun k hk => Nat.le_trans hB hk) hR (Below.refl _ _) hB HL.out ?_; intro v4 w4 hR4 hB4 hg4 hat4; have hsl := Kd.R_slice hR4; obtain ⟨A4, c4, hvv⟩ := hsl; subst hvv; have hv4 := (hg4.block _ (new_lt hv) (R133_ne hR hv (by decide))).trans hv; have hx := cells1k hv4; obtain ⟨x0, x1⟩ := hx))
  go_end0
  exact ⟨rfl, S.push hB hv hR (show Kd.R k133 133 w4 B (fun k => B ≤ k) (.slice A4 1 c4) (sRng [(a, a + n)]) from hR4) hg4⟩
set_option maxRecDepth 100000 in
set_option maxHeartbeats 16000000 in
theorem vis1_other {B OUT : Nat} {W : World} {L : List (Nat × Nat)} {r : Nat × Nat} (S : VisS B OUT (L ++ [r]) W) (hB : B ≤ W.heap.size) {a n : Nat} (ha : a + n ≤ 2097152) (hL : L.length ≤ 2097152) (hr : r.2 ≠ a) (A : Option Addr) (c : Nat) :
    Calls Tryd.prog 74 #[.int .i64 (a : Int), .slice A n c, .pointer (some ⟨OUT, 0, none⟩)] W fun e w' => e = .returned (.tuple #[]) ∧ VisS B OUT (L ++ [r] ++ [(a, a + n)]) w' ∧ KpI B W w' := by
  obtain ⟨v, hv, hR⟩ := S.out
  obtain ⟨A0, c0, rfl⟩ := Kd.R_slice hR
  obtain ⟨l, hl⟩ : ∃ l, l = L ++ [r] := ⟨_, rfl⟩
  have hll : (sRng l).length = L.length + 1 := by rw [sRng_len, hl]; simp
  have hat := at_T133 (Kd.R_reads' hR).2.2 (L.length : Int) (by omega) (by rw [sRng_len, List.length_append, List.length_singleton]; omega)
  rw [rd_sRng (l := L ++ [r]) (i := L.length) (by simp)] at hat
  simp only [List.getElem_append_right (Nat.le_refl _), Nat.sub_self, List.getElem_cons_zero, Int.toNat_natCast] at hat
  obtain ⟨ad, hAd, x0, x1⟩ := hat
  subst hAd
  rw [← hl] at hv hR ⊢ S
  have HL : Hid (((sRng l).length + 1) * 16 ≤ 140737488355328) := Lib.hid (by rw [hll]; omega)
  rw [hll] at hv hR
  obtain ⟨y0, g0⟩ := cells1k hv
  have hHLL := Lib.hid hll
  have HLL := Lib.hid hl
  have bm : ((L.length + 1 : Nat) : Int) ≤ 2097153 := by omega
  obtain ⟨m, hm⟩ : ∃ m, m = L.length + 1 := ⟨_, rfl⟩
  have d0 : decide (0 < m) = true := decide_eq_true (by omega)
  have wk : IntKind.i64.wrap ((m : Int) - 1) = (L.length : Int) := ((IntWalk.i64_left _).trans (w64 (by omega) (by omega))).trans (by omega)
  have wk2 : wrap64 ((m : Int) - 1) = (L.length : Int) := (w64 (by omega) (by omega)).trans (by omega)
  have p0 : (0 ≤ (L.length : Int)) = True := eq_true (by omega)
  have p1 : ((L.length : Int) < (m : Int)) = True := eq_true (by omega)
  have dq : ((r.2 : Int) == (a : Int)) = false := beq_eq_false_iff_ne.mpr (by omega)
  have dq2 : (r.2 == a) = false := beq_eq_false_iff_ne.mpr hr
  rw [← hm] at y0 hv hR bm hHLL
  have b1 : (a : Int) + (n : Int) ≤ 2097152 := by omega
  have e1 : (a : Int) + (n : Int) = ((a + n : Nat) : Int) := by omega
  have wz : IntKind.i64.wrap ((a : Int) + (n : Int)) = ((a + n : Nat) : Int) := by rw [← e1]; exact (IntWalk.i64_left _).trans (w64 (by omega) (by omega))
  have we : wrap64 ((a : Int) + (n : Int)) = ((a + n : Nat) : Int) := by rw [← e1]; exact w64 (by omega) (by omega)
  clear ha e1 b1 hl hll hL hm hr
  go_enter Tryd.func74, Tryd.ntmps74
  go_wp2_with (((with_reducible refine gate_builtin (b := .append) (xs := #[.tmp 29, .tmp 36]) rfl ?_); at_builtin; refine Kd.R_append k133 (w0 := W) B rfl (.tmp 29) (.tmp 36) 61 133 (.agg #[.int .i64 0, .int .i64 0]) 16 rfl Tryd.underlying61 info133 rfl (by decide) (by decide) (.slice (some ad) m c0) (sRng l) ⟨(a : Int), ((a + n : Nat) : Int)⟩ [.int .i64 (a : Int), .int .i64 ((a + n : Nat) : Int)] (fun k => B ≤ k) (fun _ => False) rfl rfl (k133_mkM _ _ _ ⟨_, _⟩) (fun _ h => h.elim) (fun k hk => Nat.le_trans hB hk) hR (Below.refl _ _) hB HL.out ?_; intro v4 w4 hR4 hB4 hg4 hat4; have hsl := Kd.R_slice hR4; obtain ⟨A4, c4, hvv⟩ := hsl; subst hvv; have hv4 := (hg4.block _ (new_lt hv) (R133_ne hR hv (by decide))).trans hv; have hx := cells1k hv4; obtain ⟨x0, x1⟩ := hx))
  go_end0
  have hl1 : (sRng l ++ [(⟨(a : Int), ((a + n : Nat) : Int)⟩ : S133)]).length = m + 1 := by rw [List.length_append, hHLL.out]; rfl
  rw [hl1] at hR4
  rw [hHLL.out]
  exact ⟨rfl, S.push hB hv hR (show Kd.R k133 133 w4 B (fun k => B ≤ k) (.slice A4 (m + 1) c4) (sRng (l ++ [(a, a + n)])) from by rw [sRng_app2]; exact hR4) hg4⟩
set_option maxRecDepth 100000 in
set_option maxHeartbeats 16000000 in
theorem vis1_grow {B OUT : Nat} {W : World} {L : List (Nat × Nat)} {r : Nat × Nat} (S : VisS B OUT (L ++ [r]) W) (hB : B ≤ W.heap.size) {a n : Nat} (ha : a + n ≤ 2097152) (hL : L.length ≤ 2097152) (hr : r.2 = a) (A : Option Addr) (c : Nat) :
    Calls Tryd.prog 74 #[.int .i64 (a : Int), .slice A n c, .pointer (some ⟨OUT, 0, none⟩)] W fun e w' => e = .returned (.tuple #[]) ∧ VisS B OUT (L ++ [(r.1, a + n)]) w' ∧ KpI B W w' := by
  obtain ⟨v, hv, hR⟩ := S.out
  obtain ⟨A0, c0, rfl⟩ := Kd.R_slice hR
  obtain ⟨l, hl⟩ : ∃ l, l = L ++ [r] := ⟨_, rfl⟩
  have hll : (sRng l).length = L.length + 1 := by rw [sRng_len, hl]; simp
  have hat := at_T133 (Kd.R_reads' hR).2.2 (L.length : Int) (by omega) (by rw [sRng_len, List.length_append, List.length_singleton]; omega)
  rw [rd_sRng (l := L ++ [r]) (i := L.length) (by simp)] at hat
  simp only [List.getElem_append_right (Nat.le_refl _), Nat.sub_self, List.getElem_cons_zero, Int.toNat_natCast] at hat
  obtain ⟨ad, hAd, x0, x1⟩ := hat
  have hfm := Kd.R_form hR (by rw [sRng_len]; simp)
  obtain ⟨g, cap, hgv, hgB, hglt, hgc⟩ := hfm
  injection hgv with hgv _ hgc2
  subst hgv
  injection hAd with hAd
  subst hAd
  have hset : (sRng (L ++ [r])).set L.length ⟨(r.1 : Int), ((a + n : Nat) : Int)⟩ = sRng (L ++ [(r.1, a + n)]) := by
    rw [sRng_app2, List.set_append_right _ _ (by rw [sRng_len]; exact Nat.le_refl _), sRng_len, Nat.sub_self, sRng_app2]
    rfl
  have hel := Kd.R_elem hR z133 (L.length : Int) (by omega) (by rw [sRng_len, List.length_append, List.length_singleton]; omega)
  obtain ⟨ce, hcl, hM, hcc, hfr⟩ := hel
  obtain rfl := k133_openM hM
  have hrd : (sRng (L ++ [r])).getD (L.length : Int).toNat z133 = ⟨(r.1 : Int), (r.2 : Int)⟩ := by
    have := rd_sRng (l := L ++ [r]) (i := L.length) (by simp)
    rw [show rd_T133 (sRng (L ++ [r])) (L.length : Int) = (sRng (L ++ [r])).getD (L.length : Int).toNat z133 from rfl] at this
    rw [this]
    simp
  rw [hrd] at hcl hcc hM
  have HP := Kd.R_seg hR (L.length : Int) (by omega) (by rw [sRng_len, List.length_append, List.length_singleton]; omega) (seg := [.int .i64 ((a + n : Nat) : Int)]) (j := 1) hcl hcc (show 2 ≤ 2 from by decide) (x' := (⟨(r.1 : Int), ((a + n : Nat) : Int)⟩ : S133)) (k133_mkM _ _ _ (⟨(r.1 : Int), ((a + n : Nat) : Int)⟩ : S133)) (fun _ hk => hk)
  rw [Int.toNat_natCast, hset] at HP
  have hf := hfr 1
  rw [Int.toNat_natCast] at hf
  rw [show k133.sz = 2 from rfl] at HP hf
  obtain ⟨hR4, hg4⟩ := HP
  have e3 : W.setCells g (L.length * 2 + 1) [.int .i64 ((a + n : Nat) : Int)] = W.setCell ⟨g, L.length * 2 + 1, none⟩ (.int .i64 ((a + n : Nat) : Int)) := rfl
  rw [e3] at hR4 hg4
  simp only [add_plain] at x0 x1
  have hll2 : (sRng (L ++ [(r.1, a + n)])).length = L.length + 1 := by rw [sRng_len]; simp
  have hll1 : (sRng (L ++ [r])).length = L.length + 1 := by rw [sRng_len]; simp
  rw [hll1] at hv hR hR4
  obtain ⟨y0, g0⟩ := cells1k hv
  have bm : ((L.length + 1 : Nat) : Int) ≤ 2097153 := by omega
  obtain ⟨m, hm⟩ : ∃ m, m = L.length + 1 := ⟨_, rfl⟩
  have d0 : decide (0 < m) = true := decide_eq_true (by omega)
  have wk : IntKind.i64.wrap ((m : Int) - 1) = (L.length : Int) := ((IntWalk.i64_left _).trans (w64 (by omega) (by omega))).trans (by omega)
  have wk2 : wrap64 ((m : Int) - 1) = (L.length : Int) := (w64 (by omega) (by omega)).trans (by omega)
  have p0 : (0 ≤ (L.length : Int)) = True := eq_true (by omega)
  have p1 : ((L.length : Int) < (m : Int)) = True := eq_true (by omega)
  have dq : ((r.2 : Int) == (a : Int)) = true := beq_iff_eq.mpr (by omega)
  have dq2 : (r.2 == a) = true := beq_iff_eq.mpr hr
  rw [← hm] at y0 hv hR hR4 bm hll1 hll2
  have b1 : (a : Int) + (n : Int) ≤ 2097152 := by omega
  have e1 : (a : Int) + (n : Int) = ((a + n : Nat) : Int) := by omega
  have wz : IntKind.i64.wrap ((a : Int) + (n : Int)) = ((a + n : Nat) : Int) := by rw [← e1]; exact (IntWalk.i64_left _).trans (w64 (by omega) (by omega))
  have we : wrap64 ((a : Int) + (n : Int)) = ((a + n : Nat) : Int) := by rw [← e1]; exact w64 (by omega) (by omega)
  have HR4 := Lib.hid hR4
  have HG4 := Lib.hid hg4
  have HR := Lib.hid hR
  have HLo := Lib.hid S.lo
  have HE1 := Lib.hid e1
  clear ha e1 b1 hl hll hL hm hr hR4 hg4 hR hrd hcl hcc hM hfr hset e3 S hll1 hll2 hgc
  go_enter Tryd.func74, Tryd.ntmps74
  go_wp2
  refine bodyPost_ret (results_none rfl _ _ _) rfl ?_
  try rw [HE1.out]
  have hgne : ∀ (k : Nat) (c : Array Value) (t : Nat), W.heap[k]? = some (Obj.cells c t (0, 0)) → t ≠ 133 → some k ≠ some g := fun k c t hk ht => R133_ne HR.out hk ht
  refine ⟨rfl, ⟨⟨_, (HG4.out.block _ (new_lt hv) (hgne _ _ _ hv (by decide))).trans hv, HR4.out⟩, HLo.out⟩, ⟨(Below.refl B W).setCell (p := ⟨g, L.length * 2 + 1, none⟩) hgB _, fun k c ty hty hk => ?_⟩⟩
  exact (HG4.out.block _ (new_lt hk) (hgne _ _ _ hk (by rcases hty with rfl | rfl | rfl | rfl <;> decide))).trans hk
end Go.Proofs.YteeigokkafcaaaaDoorRope
end
section
namespace Go.Proofs.YteeigokkafcaaaaDoorRope
open Go.RowKit Go.Proofs.YteeigokkafcaaaaDoorW.PrintWords Go.Proofs.YteeigokkafcaaaaDoorW.PrintMore Go.Proofs.YteeigokkafcaaaaDoor.Pr
set_option linter.unusedSimpArgs false
set_option linter.unusedVariables false
def VisI (B OUT : Nat) (ps : List Nat) (W : World) : Prop := ∃ l, Rngs l ps ∧ l.length ≤ ps.length ∧ VisS B OUT l W
theorem Rngs.below {L : List (Nat × Nat)} {ps : List Nat} {x : Nat} (h : Rngs L ps) (hx : ∀ p ∈ ps, p < x) : ∀ r ∈ L, r.2 ≤ x := by
  intro r hr
  have hb := h.one r hr
  have : r.2 - 1 ∈ ps := by
    rw [← h.all]
    refine List.mem_flatMap.2 ⟨r, hr, ?_⟩
    rw [List.mem_range'_1]
    omega
  have := hx _ this
  omega
theorem inner74 {B OUT : Nat} {C : List (Int × Int)} (hC : C.length ≤ 1048576) : Inner B 74 C (.pointer (some ⟨OUT, 0, none⟩)) (VisI B OUT) where
  below ps W W' h hb := by
    obtain ⟨l, h1, h2, h3⟩ := h
    exact ⟨l, h1, h2, h3.below hb⟩
  set ps W k c v h hk := by
    obtain ⟨l, h1, h2, h3⟩ := h
    exact ⟨l, h1, h2, h3.set v hk⟩
  call ps x a rs A c W hx h hp hc h0 hl hr hA hB hrc := by
    subst hx
    obtain ⟨l, h1, h2, h3⟩ := h
    have ha : a + rs.length ≤ C.length := by
      have := hc (rs.length - 1) (by omega)
      have := (List.getElem?_eq_some_iff.1 this).1
      omega
    rcases List.eq_nil_or_concat l with rfl | ⟨L, r, rfl⟩
    · refine (vis1_none h3 hB (by omega) A c).mono ?_
      rintro e w' ⟨he, h', hk⟩
      exact ⟨he, ⟨_, h1.put (by simp) h0, by simp; omega, h'⟩, hk⟩
    · rw [List.concat_eq_append] at h1 h2 h3
      have hLl : L.length + 1 ≤ ps.length := by simpa using h2
      by_cases c0 : r.2 = a
      · refine (vis1_grow h3 hB (by omega) (by omega) c0 A c).mono ?_
        rintro e w' ⟨he, h', hk⟩
        refine ⟨he, ⟨_, ?_, by simp; omega, h'⟩, hk⟩
        have := h1.grow (x := r.2) (n := rs.length) rfl h0
        rwa [c0] at this
      · refine (vis1_other h3 hB (by omega) (by omega) c0 A c).mono ?_
        rintro e w' ⟨he, h', hk⟩
        refine ⟨he, ⟨_, h1.put (fun q hq => ?_) h0, by simp; omega, h'⟩, hk⟩
        have hle := h1.below hp q hq
        rcases List.mem_append.1 hq with hq' | hq'
        · have := (List.pairwise_append.1 h1.two).2.2 q hq' r (by simp)
          have := h1.one r (by simp)
          have := h1.below hp r (by simp)
          omega
        · rw [List.mem_singleton.1 hq'] at hle ⊢
          omega
set_option maxRecDepth 100000 in
set_option maxHeartbeats 8000000 in
theorem vis_of {K0 : Nat → Prop} {W : World} {b : Nat} {t : Tree} (h : RopeAt K0 W b t) (hsz : t.cells.length ≤ 1048576) {lo hi : Nat} (hlo : lo ≤ hi) (hhi : hi ≤ vis t.cells) (hn : hi ≤ 32768) :
    Calls Tryd.prog 36 #[.pointer (some ⟨b, 0, none⟩), .int .i64 (lo : Int), .int .i64 (hi : Int)] W fun e w' => ∃ A c l, e = .returned (.tuple #[.slice A (sRng l).length c, .int .i64 0]) ∧ Kd.R k133 133 w' W.heap.size (fun k => W.heap.size ≤ k) (.slice A (sRng l).length c) (sRng l) ∧ Rngs l ((vp t.cells (nth0 t.cells lo) t.cells.length).take (hi - lo)) ∧ l.length ≤ hi - lo ∧ Below W.heap.size W w' := by
  obtain ⟨p0, hv, hE, hn0, hlt⟩ := h.blk
  have ht := hE.t _ List.mem_cons_self
  have d0 : decide ((lo : Int) < 0) = false := decide_eq_false (by omega)
  have d1 : decide (hi < lo) = false := decide_eq_false (by omega)
  have d2 : decide (vis t.cells < hi) = false := decide_eq_false (by omega)
  have hrb : ∀ W', Below W.heap.size W W' → RopeAt K0 W' b t := fun W' hW => h.below hW
  have HRB := Lib.hid hrb
  have HLO := Lib.hid hlo
  have HHI := Lib.hid hhi
  have HNN := Lib.hid hn
  have ht2 := Rpo.of (ht.rep.bound ht.good)
  have HT2 : Hid (Rpo (fun k => k < W.heap.size) W t (.pointer p0)) := Lib.hid (ht2.mono (fun k hk => hk.2))
  clear hrb hlo hhi ht2 h hn
  by_cases c : lo = hi
  · subst c
    go_enter Tryd.func36, Tryd.ntmps36
    go_wp2_with (first
      | (go_at_call 20; refine (shownR_calls (HRB.out _ (Below.refl _ _))).mono ?_; rintro e w1 ⟨rfl, hb1⟩; have hba := below_alloc (Below.refl w1.heap.size w1) (.cells #[.slice none 0 0] 61); have bO : (w1.alloc (.cells #[.slice none 0 0] 61)).heap[w1.heap.size]? = some (Obj.cells #[.slice none 0 0] 61 (0, 0)) := heap_new _ _)
      | (go_at_call 70; refine (between_none _ b lo 74 _).mono ?_; rintro e w2 ⟨rfl, hb2⟩; have bO2 := (hb2.block _ (new_lt bO)).trans bO; have y2 := (cells1k bO2).1))
    go_ret2
    have hbW := hb1.trans ((hba.trans (hb2.mono hba.size)).mono hb1.size)
    rw [Nat.sub_self, List.take_zero]
    exact ⟨none, 0, [], rfl, Kd.R_nil _ _ _ _ _, Rngs.nil, Nat.le_refl _, hbW⟩
  · have hlt' : lo < hi := Nat.lt_of_le_of_ne HLO.out c
    have HC := Lib.hid hsz
    go_enter Tryd.func36, Tryd.ntmps36
    go_wp2_with (first
      | (go_at_call 20; refine (shownR_calls (HRB.out _ (Below.refl _ _))).mono ?_; rintro e w1 ⟨rfl, hb1⟩; have bO : (w1.alloc (.cells #[.slice none 0 0] 61)).heap[w1.heap.size]? = some (Obj.cells #[.slice none 0 0] 61 (0, 0)) := heap_new _ _; have hba := below_alloc (Below.refl w1.heap.size w1) (.cells #[.slice none 0 0] 61); have hbW := hb1.trans (hba.mono hb1.size))
      | (go_at_call 70; refine (between_74 (B := w1.heap.size) (In := VisI w1.heap.size w1.heap.size) (HRB.out _ hbW) hsz hlt' HHI.out ((hbW.block _ hlt).trans hv) ((HT2.out.mono (fun k hk => Nat.lt_of_lt_of_le hk hb1.size)).below hbW) ht.good (Nat.lt_of_lt_of_le hlt hb1.size) hba.size (inner74 HC.out) ⟨[], Rngs.nil, Nat.le_refl _, ⟨⟨_, bO, Kd.R_nil _ _ _ _ _⟩, Nat.le_refl _⟩⟩).mono ?_; rintro e w2 ⟨rfl, hI2, hb2⟩; have hI3 := hI2; obtain ⟨l, hl1, hl2, hl3⟩ := hI3; have ho := hl3.out; obtain ⟨v2, hv2, hR2⟩ := ho; have hs2 := Kd.R_slice hR2; obtain ⟨A2, c2, hvv⟩ := hs2; subst hvv; have y2 := (cells1k hv2).1; have hll : (sRng l).length ≤ hi - lo := (by rw [sRng_len]; rw [List.length_take] at hl2; omega); have dn : decide ((32768 : Int) < ((sRng l).length : Int)) = false := (decide_eq_false (by have := HNN.out; omega)); have dn3 : ((32768 : Int) < ((sRng l).length : Int)) = False := (eq_false (by have := HNN.out; omega)); have HLL := Lib.hid hll; clear hll))
    go_ret2
    refine ⟨A2, c2, l, rfl, Kd.R_mono (Kd.R_lower hR2 hb1.size) (fun k hk => Nat.le_trans hb1.size hk), hl1, by have := HLL.out; rwa [sRng_len] at this, hbW.trans (hb2.mono hb1.size)⟩
theorem rope_visible {W : World} {b : Nat} {cs : List (Int × Int)} (h : RopeHas W b cs) (hsz : cs.length ≤ 32768) {lo hi : Nat} (hlo : lo ≤ hi) (hhi : hi ≤ vis cs) :
    Calls Tryd.prog 36 #[.pointer (some ⟨b, 0, none⟩), .int .i64 (lo : Int), .int .i64 (hi : Int)] W fun e w' => ∃ A c l, e = .returned (.tuple #[.slice A l.length c, .int .i64 0]) ∧ Kd.R k133 133 w' W.heap.size (fun k => W.heap.size ≤ k) (.slice A l.length c) (sRng l) ∧ Rngs l ((vp cs (nth0 cs lo) cs.length).take (hi - lo)) ∧ l.length ≤ hi - lo ∧ Below W.heap.size W w' := by
  obtain ⟨K, t, h, rfl⟩ := h
  have := vis_le t.cells
  refine (vis_of h (by omega) hlo hhi (by omega)).mono ?_
  rintro e w' ⟨A, c, l, he, hR, h1, h2, hb⟩
  rw [sRng_len] at he hR
  exact ⟨A, c, l, he, hR, h1, h2, hb⟩
end Go.Proofs.YteeigokkafcaaaaDoorRope
end
section
namespace Go.Proofs.YteeigokkafcaaaaDoor.Pr
open Go.RowKit Go.Proofs.YteeigokkafcaaaaDoorW.PrintWords Go.Proofs.YteeigokkafcaaaaDoorW.PrintLast Go.Proofs.YteeigokkafcaaaaDoorW.PrintMore
attribute [local go_sem] max2_int min2_int max_two min_two max_three min_three max_four min_four
set_option linter.unusedVariables false
set_option linter.unusedSimpArgs false
theorem eqA58 (d : Nat) (w : World) (x0 y0 : ByteArray) (x1 y1 : Int) :
  (Op.equalIn (d + 2) 58 (.agg #[.string x0, .int .i64 x1]) (.agg #[.string y0, .int .i64 y1])).run Tryd.prog w = .ok (x0.toList == y0.toList && (x1 == y1)) w := by
 refine eqA_of Tryd.underlying58 (by kernel_rfl) ?_
 refine eqf_cons (by rfl) (by go_simp; rfl) (by go_simp; rfl) (by go_simp) ?_
 exact eqf_last (by rfl) (by go_simp; rfl) (by go_simp; rfl) (by go_simp)
end Go.Proofs.YteeigokkafcaaaaDoor.Pr
end
section
namespace Go.Proofs.YteeigokkafcaaaaDoor.Pr
open Go.RowKit Go.Proofs.YteeigokkafcaaaaDoorW.PrintWords Go.Proofs.YteeigokkafcaaaaDoorW.PrintLast Go.Proofs.YteeigokkafcaaaaDoorW.PrintMore
attribute [local go_sem] max2_int min2_int max_two min_two max_three min_three max_four min_four
set_option linter.unusedVariables false
set_option linter.unusedSimpArgs false
attribute [local go_sem high] eqA58
mutual
def redraftlaw03_chosen.l0 : Nat → List (S36) → Int → Int → Bool → List (S133) → Int → Option ((List (S133)))
 | 0, _, _, _, _, _, _ => none
 | k + 1, x0, x1, x2, x3, x9, x10 => if x10 < (x0.length : Int) then ((redraftlaw03_rest.f x1 7).bind fun t164 => ((redraftlaw03_rest.f x2 11).bind fun t165 => ((redraftlaw03_rest.f (wrap64 ((wrap64 (x10 * t164)) + t165)) 11).bind fun t166 => (if t166 < 5 then (if x3 = true then (if 0 ≤ x10 then (redraftlaw03_chosen.j1 k x0 x1 x2 x3 x9 x10 (((rd_T36 x0 x10).f1) == 0)) else (none)) else (redraftlaw03_chosen.j1 k x0 x1 x2 x3 x9 x10 false)) else (redraftlaw03_chosen.j1 k x0 x1 x2 x3 x9 x10 true))))) else (some x9)
def redraftlaw03_chosen.j1 : Nat → List (S36) → Int → Int → Bool → List (S133) → Int → Bool → Option ((List (S133)))
 | 0, _, _, _, _, _, _, _ => none
 | k + 1, x0, x1, x2, x3, x9, x10, x40 => if x40 = true then (redraftlaw03_chosen.l0 k x0 x1 x2 x3 x9 (wrap64 (x10 + 1))) else (if (x9.length : Int) > 0 then (if 0 ≤ (wrap64 ((x9.length : Int) - 1)) then (if (wrap64 ((x9.length : Int) - 1)) < (x9.length : Int) then (if ((rd_T133 x9 (wrap64 ((x9.length : Int) - 1))).f1) = x10 then (redraftlaw03_chosen.l0 k x0 x1 x2 x3 (x9.set ((wrap64 ((x9.length : Int) - 1)) : Int).toNat (⟨(rd_T133 x9 (wrap64 ((x9.length : Int) - 1))).f0, wrap64 (x10 + 1)⟩ : S133)) (wrap64 (x10 + 1))) else (if x9.length < 8796093022208 then (redraftlaw03_chosen.l0 k x0 x1 x2 x3 (x9 ++ [(⟨x10, wrap64 (x10 + 1)⟩ : S133)]) (wrap64 (x10 + 1))) else (none))) else (none)) else (none)) else (if x9.length < 8796093022208 then (redraftlaw03_chosen.l0 k x0 x1 x2 x3 (x9 ++ [(⟨x10, wrap64 (x10 + 1)⟩ : S133)]) (wrap64 (x10 + 1))) else (none)))
end
def redraftlaw03_chosen.f (k : Nat) (l0 : List (S36)) (a1 : Int) (a2 : Int) (a3 : Bool) : Option ((List (S133))) := redraftlaw03_chosen.l0 k l0 a1 a2 a3 ([] : List (S133)) 0
theorem redraftlaw03_chosen.mono_l : ∀ k, (∀ y0 y1 y2 y3 y4 y5, LeO (redraftlaw03_chosen.l0 k y0 y1 y2 y3 y4 y5) (redraftlaw03_chosen.l0 (k + 1) y0 y1 y2 y3 y4 y5)) ∧ (∀ y0 y1 y2 y3 y4 y5 y6, LeO (redraftlaw03_chosen.j1 k y0 y1 y2 y3 y4 y5 y6) (redraftlaw03_chosen.j1 (k + 1) y0 y1 y2 y3 y4 y5 y6))
 | 0 => ⟨fun _ _ _ _ _ _ r h => by simp [redraftlaw03_chosen.l0] at h, fun _ _ _ _ _ _ _ r h => by simp [redraftlaw03_chosen.j1] at h⟩
 | k + 1 => by
  obtain ⟨ih0, ih1⟩ := redraftlaw03_chosen.mono_l k
  refine ⟨?_, ?_⟩
  ·intro y0 y1 y2 y3 y4 y5
   unfold redraftlaw03_chosen.l0
   repeat' first
   | (with_reducible exact ih0 _ _ _ _ _ _)
   | (with_reducible exact ih1 _ _ _ _ _ _ _)
   | (with_reducible exact LeO.refl _)
   | (with_reducible exact LeO.none _)
   | (with_reducible refine LeO.ite ?_ ?_)
   | (with_reducible refine LeO.bind ?_ (fun _ => ?_))
   | exact ih0 _ _ _ _ _ _
   | exact ih1 _ _ _ _ _ _ _
   | exact LeO.none _
   | refine LeO.ite ?_ ?_
   | refine LeO.bind ?_ (fun _ => ?_)
  ·intro y0 y1 y2 y3 y4 y5 y6
   unfold redraftlaw03_chosen.j1
   repeat' first
   | (with_reducible exact ih0 _ _ _ _ _ _)
   | (with_reducible exact ih1 _ _ _ _ _ _ _)
   | (with_reducible exact LeO.refl _)
   | (with_reducible exact LeO.none _)
   | (with_reducible refine LeO.ite ?_ ?_)
   | (with_reducible refine LeO.bind ?_ (fun _ => ?_))
   | exact ih0 _ _ _ _ _ _
   | exact ih1 _ _ _ _ _ _ _
   | exact LeO.none _
   | refine LeO.ite ?_ ?_
   | refine LeO.bind ?_ (fun _ => ?_)
theorem redraftlaw03_chosen.mono : ∀ a0 a1 a2 a3 k, LeO (redraftlaw03_chosen.f k a0 a1 a2 a3) (redraftlaw03_chosen.f (k + 1) a0 a1 a2 a3) := by
 intro a0 a1 a2 a3 k
 obtain ⟨ih0, ih1⟩ := redraftlaw03_chosen.mono_l k
 unfold redraftlaw03_chosen.f
 repeat' first
   | (with_reducible exact ih0 _ _ _ _ _ _)
   | (with_reducible exact ih1 _ _ _ _ _ _ _)
   | (with_reducible exact LeO.refl _)
   | (with_reducible exact LeO.none _)
   | (with_reducible refine LeO.ite ?_ ?_)
   | (with_reducible refine LeO.bind ?_ (fun _ => ?_))
   | exact ih0 _ _ _ _ _ _
   | exact ih1 _ _ _ _ _ _ _
   | exact LeO.none _
   | refine LeO.ite ?_ ?_
   | refine LeO.bind ?_ (fun _ => ?_)
set_option maxHeartbeats 8000000 in
set_option maxRecDepth 100000 in
theorem redraftlaw03_chosen.calls (k : Nat) (A0 : Option Addr) (c0 : Nat) (l0 : List (S36)) (a1 : Int) (a2 : Int) (a3 : Bool) (r : List (S133)) (w : World) (hr0 : Kd.C k36 w A0 l0.length l0) (hc0 : l0.length ≤ c0) (h : redraftlaw03_chosen.f k l0 a1 a2 a3 = some r) :
  Calls Tryd.prog 68 #[.slice A0 l0.length c0, .int .i64 a1, .int .i64 a2, .bool a3] w fun e w' => ∃ v0_ : Value, e = .returned (v0_) ∧ Kd.R k133 133 w' w.heap.size (fun _ => True) v0_ r ∧ Below w.heap.size w w' := by
 have hu133 := Tryd.underlying133
 have HR0 := Aside0.mk hr0
 have HC0 := Aside0.mk hc0
 clear hr0 hc0
 have HB := Aside0.mk (Below.refl w.heap.size w)
 have H : (redraftlaw03_chosen.l0 k l0 a1 a2 a3 ([] : List (S133)) 0) = some r := h
 clear h
 have H' := Aside0.mk H
 clear H
 go_enter Tryd.func68, Tryd.ntmps68
 go_wp2
 go_loopg [9, 10] k (fun kq v9 v10 w' => ∃ (x9_1 : List (S133)) (x10_1 : Int), v10 = .int .i64 x10_1 ∧ Aside0 (redraftlaw03_chosen.l0 kq l0 a1 a2 a3 x9_1 x10_1 = some r) ∧ Aside0 (kq ≤ k) ∧ Aside0 (Kd.R k133 133 w' w.heap.size (fun _ => True) v9 x9_1) ∧ Aside0 (Below w.heap.size w w'))
 case atStart => exact ⟨(([] : List (S133))), (0), (by first | rfl | (simp; done) | (simp [*]; done)), H', ⟨Nat.le_refl _⟩, ⟨by first | exact Kd.R_nil _ _ _ _ _ | exact Kd.N_nil _ _ _ _ _ | exact Kd.V_nil _ _ _ _ _ | exact Kd.Q_nil _ _ _ _ _ | exact Kd.S_nil _ _ _ _ _⟩, ⟨by repeat (first | (with_reducible first | exact HB.out | apply below_alloc | apply pw_below_drewN | apply below_drew1) | exact HB.out)⟩⟩
 case round =>
  clear H'
  try clear p2
  obtain ⟨x9_1, x10_1, rfl, HA, HK1, HO_9, HB⟩ := hrel
  cases gk with
  | zero => exact absurd HA.out (by simp [redraftlaw03_chosen.l0])
  | succ k1 =>
   have H := HA.out
   clear HA
   simp only [redraftlaw03_chosen.l0] at H
   by_cases c5 : x10_1 < (l0.length : Int)
   ·rw [if_pos c5] at H
    have c5b0 : decide (x10_1 < (l0.length : Int)) = true := decide_eq_true c5
    clear c5
    replace H := Option.bind_eq_some_iff.mp H
    obtain ⟨t164, A60, H⟩ := H
    replace H : ((redraftlaw03_rest.f a2 11).bind fun t165 => ((redraftlaw03_rest.f (wrap64 ((wrap64 (x10_1 * t164)) + t165)) 11).bind fun t166 => (if t166 < 5 then (if a3 = true then (if 0 ≤ x10_1 then (redraftlaw03_chosen.j1 k1 l0 a1 a2 a3 x9_1 x10_1 (((rd_T36 l0 x10_1).f1) == 0)) else (none)) else (redraftlaw03_chosen.j1 k1 l0 a1 a2 a3 x9_1 x10_1 false)) else (redraftlaw03_chosen.j1 k1 l0 a1 a2 a3 x9_1 x10_1 true)))) = some r := H
    have A6 := Aside0.mk A60
    clear A60
    replace H := Option.bind_eq_some_iff.mp H
    obtain ⟨t165, A70, H⟩ := H
    replace H : ((redraftlaw03_rest.f (wrap64 ((wrap64 (x10_1 * t164)) + t165)) 11).bind fun t166 => (if t166 < 5 then (if a3 = true then (if 0 ≤ x10_1 then (redraftlaw03_chosen.j1 k1 l0 a1 a2 a3 x9_1 x10_1 (((rd_T36 l0 x10_1).f1) == 0)) else (none)) else (redraftlaw03_chosen.j1 k1 l0 a1 a2 a3 x9_1 x10_1 false)) else (redraftlaw03_chosen.j1 k1 l0 a1 a2 a3 x9_1 x10_1 true))) = some r := H
    have A7 := Aside0.mk A70
    clear A70
    replace H := Option.bind_eq_some_iff.mp H
    obtain ⟨t166, A80, H⟩ := H
    replace H : (if t166 < 5 then (if a3 = true then (if 0 ≤ x10_1 then (redraftlaw03_chosen.j1 k1 l0 a1 a2 a3 x9_1 x10_1 (((rd_T36 l0 x10_1).f1) == 0)) else (none)) else (redraftlaw03_chosen.j1 k1 l0 a1 a2 a3 x9_1 x10_1 false)) else (redraftlaw03_chosen.j1 k1 l0 a1 a2 a3 x9_1 x10_1 true)) = some r := H
    have A8 := Aside0.mk A80
    clear A80
    have HC9 := Aside0.mk H
    clear H
    go_upto_region 6 with (first | ((with_reducible refine gate_callee (f := 28) rfl ?_); refine goesL_ (some 21) rfl rfl Tryd.func28 (by kernel_rfl) rfl #[.int .i64 a1, .int .i64 7] rfl (by (try simp only [List.map_toArray, List.map_cons, List.map_nil]); first | done | rfl | (simp only [List.length_drop, List.length_take]; rfl)) ?_; (with_reducible refine (redraftlaw03_rest.calls a1 7 t164 _ A6.out).mono ?_); rintro e w' ⟨rfl, ⟨nd, rfl⟩⟩; refine ⟨_, rfl, ?_⟩) | ((with_reducible refine gate_callee (f := 28) rfl ?_); refine goesL_ (some 24) rfl rfl Tryd.func28 (by kernel_rfl) rfl #[.int .i64 a2, .int .i64 11] rfl (by (try simp only [List.map_toArray, List.map_cons, List.map_nil]); first | done | rfl | (simp only [List.length_drop, List.length_take]; rfl)) ?_; (with_reducible refine (redraftlaw03_rest.calls a2 11 t165 _ A7.out).mono ?_); rintro e w' ⟨rfl, ⟨nd, rfl⟩⟩; refine ⟨_, rfl, ?_⟩) | ((with_reducible refine gate_callee (f := 28) rfl ?_); refine goesL_ (some 26) rfl rfl Tryd.func28 (by kernel_rfl) rfl #[.int .i64 (wrap64 ((wrap64 (x10_1 * t164)) + t165)), .int .i64 11] rfl (by (try simp only [List.map_toArray, List.map_cons, List.map_nil]); first | done | rfl | (simp only [List.length_drop, List.length_take]; rfl)) ?_; (with_reducible refine (redraftlaw03_rest.calls (wrap64 ((wrap64 (x10_1 * t164)) + t165)) 11 t166 _ A8.out).mono ?_); rintro e w' ⟨rfl, ⟨nd, rfl⟩⟩; refine ⟨_, rfl, ?_⟩))
    (try simp only [Act.put, List.setIfInBounds_toArray, List.set_cons_zero, List.set_cons_succ])
    go_cut [11, 40] (fun v11 v40 wc => ∃ (kq : Nat) (x40_8 : Bool), v40 = .bool x40_8 ∧ Aside0 (redraftlaw03_chosen.j1 kq l0 a1 a2 a3 x9_1 x10_1 x40_8 = some r) ∧ Aside0 (kq ≤ k1) ∧ Aside0 (Kd.R k133 133 wc w.heap.size (fun _ => True) u9 x9_1) ∧ Aside0 (Below w.heap.size w wc))
    case first =>
     have H := HC9.out
     clear HC9
     by_cases c10 : t166 < 5
     ·rw [if_pos c10] at H
      have c10b0 : decide (t166 < 5) = true := decide_eq_true c10
      clear c10
      (first | rw [c10b0] | (simp only [i64_w, i32_w]; rw [c10b0]) | skip)
      by_cases c11 : a3 = true
      ·subst c11
       have H1 : (if 0 ≤ x10_1 then (redraftlaw03_chosen.j1 k1 l0 a1 a2 true x9_1 x10_1 (((rd_T36 l0 x10_1).f1) == 0)) else (none)) = some r := by rw [if_pos rfl] at H; exact H
       clear H
       have H := H1
       clear H1
       by_cases c12 : 0 ≤ x10_1
       ·rw [if_pos c12] at H
        have c12b0 : decide (0 ≤ x10_1) = true := decide_eq_true c12
        clear c12
        have H' := Aside0.mk H
        clear H
        have p167 : 0 ≤ (x10_1 : Int) := of_decide_eq_true (by first | (with_reducible assumption) | assumption)
        have q167 : x10_1 < (l0.length : Int) := of_decide_eq_true (by first | (with_reducible assumption) | assumption)
        obtain ⟨ad167, e167, hx167_0, hx167_1⟩ := at_T36 HR0.out x10_1 p167 q167
        cases e167
        replace hx167_0 := (HB.out.cell (World.block_lt_of_cell? w _ hx167_0)).trans hx167_0
        replace hx167_1 := (HB.out.cell (World.block_lt_of_cell? w _ hx167_1)).trans hx167_1
        replace p167 := eq_true p167
        replace q167 := eq_true q167
        go_wp2
        go_meet
        case rel => exact ⟨_, ((((rd_T36 l0 x10_1).f1) == 0)), (by first | rfl | (simp; done) | (simp [*]; done)), H', ⟨by have := HK1.out; first | omega | exact Nat.le_refl _⟩, ⟨by (with_reducible repeat (first | apply Kd.R_alloc | apply Kd.R_drewN | apply Kd.R_drew)); exact HO_9.out⟩, ⟨by repeat (first | (with_reducible first | exact HB.out | apply below_alloc | apply pw_below_drewN | apply below_drew1) | exact HB.out)⟩⟩
       ·rw [if_neg c12] at H
        exact absurd H (by simp)
      ·replace c11 := Bool.eq_false_iff.mpr c11
       subst c11
       have H1 : (redraftlaw03_chosen.j1 k1 l0 a1 a2 false x9_1 x10_1 false) = some r := by rw [if_neg (show ¬ (false = true) by decide)] at H; exact H
       clear H
       have H := H1
       clear H1
       have H' := Aside0.mk H
       clear H
       go_wp2
       go_meet
       case rel => exact ⟨_, (false), (by first | rfl | (simp; done) | (simp [*]; done)), H', ⟨by have := HK1.out; first | omega | exact Nat.le_refl _⟩, ⟨by (with_reducible repeat (first | apply Kd.R_alloc | apply Kd.R_drewN | apply Kd.R_drew)); exact HO_9.out⟩, ⟨by repeat (first | (with_reducible first | exact HB.out | apply below_alloc | apply pw_below_drewN | apply below_drew1) | exact HB.out)⟩⟩
     ·rw [if_neg c10] at H
      have c10b0 : decide (t166 < 5) = false := decide_eq_false c10
      clear c10
      (first | rw [c10b0] | (simp only [i64_w, i32_w]; rw [c10b0]) | skip)
      have H' := Aside0.mk H
      clear H
      go_wp2
      go_meet
      case rel => exact ⟨_, (true), (by first | rfl | (simp; done) | (simp [*]; done)), H', ⟨by have := HK1.out; first | omega | exact Nat.le_refl _⟩, ⟨by (with_reducible repeat (first | apply Kd.R_alloc | apply Kd.R_drewN | apply Kd.R_drew)); exact HO_9.out⟩, ⟨by repeat (first | (with_reducible first | exact HB.out | apply below_alloc | apply pw_below_drewN | apply below_drew1) | exact HB.out)⟩⟩
    case rest =>
     clear HC9
     try clear c1
     try clear p1
     try clear q1
     try clear hx1
     try clear c2
     try clear p2
     try clear c5
     try clear c5b0
     try clear c6
     try clear p6
     try clear c10
     try clear c10b0
     try clear c11
     try clear c12
     try clear c12b0
     try clear hx167_0
     try clear hx167_1
     try clear p167
     try clear p2
     try clear q167
     obtain ⟨kq, x40_8, rfl, HA, HJ8, HO_9, HB⟩ := hcut
     cases kq with
     | zero => exact absurd HA.out (by simp [redraftlaw03_chosen.j1])
     | succ kj8 =>
      have H := HA.out
      clear HA
      simp only [redraftlaw03_chosen.j1] at H
      by_cases c13 : x40_8 = true
      ·subst c13
       have H1 : (redraftlaw03_chosen.l0 kj8 l0 a1 a2 a3 x9_1 (wrap64 (x10_1 + 1))) = some r := by rw [if_pos rfl] at H; exact H
       clear H
       have H := H1
       clear H1
       have H' := Aside0.mk H
       clear H
       go_wp2
       go_roundg kj8
       case measure => have := HK1.out; have := HJ8.out; omega
       case rel => exact ⟨(x9_1), (wrap64 (x10_1 + 1)), (by first | rfl | (simp; done) | (simp [*]; done)), H', ⟨by have := HK1.out; have := HJ8.out; omega⟩, ⟨by (with_reducible repeat (first | apply Kd.R_alloc | apply Kd.R_drewN | apply Kd.R_drew)); exact HO_9.out⟩, ⟨by repeat (first | (with_reducible first | exact HB.out | apply below_alloc | apply pw_below_drewN | apply below_drew1) | exact HB.out)⟩⟩
      ·replace c13 := Bool.eq_false_iff.mpr c13
       subst c13
       have H1 : (if (x9_1.length : Int) > 0 then (if 0 ≤ (wrap64 ((x9_1.length : Int) - 1)) then (if (wrap64 ((x9_1.length : Int) - 1)) < (x9_1.length : Int) then (if ((rd_T133 x9_1 (wrap64 ((x9_1.length : Int) - 1))).f1) = x10_1 then (redraftlaw03_chosen.l0 kj8 l0 a1 a2 a3 (x9_1.set ((wrap64 ((x9_1.length : Int) - 1)) : Int).toNat (⟨(rd_T133 x9_1 (wrap64 ((x9_1.length : Int) - 1))).f0, wrap64 (x10_1 + 1)⟩ : S133)) (wrap64 (x10_1 + 1))) else (if x9_1.length < 8796093022208 then (redraftlaw03_chosen.l0 kj8 l0 a1 a2 a3 (x9_1 ++ [(⟨x10_1, wrap64 (x10_1 + 1)⟩ : S133)]) (wrap64 (x10_1 + 1))) else (none))) else (none)) else (none)) else (if x9_1.length < 8796093022208 then (redraftlaw03_chosen.l0 kj8 l0 a1 a2 a3 (x9_1 ++ [(⟨x10_1, wrap64 (x10_1 + 1)⟩ : S133)]) (wrap64 (x10_1 + 1))) else (none))) = some r := by rw [if_neg (show ¬ (false = true) by decide)] at H; exact H
       clear H
       have H := H1
       clear H1
       by_cases c14 : (x9_1.length : Int) > 0
       ·rw [if_pos c14] at H
        have c14b0 : decide (0 < (x9_1.length : Int)) = true := decide_eq_true c14
        have c14b1 : decide (0 < x9_1.length) = true := decide_eq_true (by omega)
        clear c14
        obtain ⟨ji15, hji15⟩ : ∃ j_ : Int, (wrap64 ((x9_1.length : Int) - 1)) = j_ := ⟨_, rfl⟩
        replace H : (if 0 ≤ (ji15) then (if (ji15) < (x9_1.length : Int) then (if ((rd_T133 x9_1 (ji15)).f1) = x10_1 then (redraftlaw03_chosen.l0 kj8 l0 a1 a2 a3 (x9_1.set ((ji15) : Int).toNat (⟨(rd_T133 x9_1 (ji15)).f0, wrap64 (x10_1 + 1)⟩ : S133)) (wrap64 (x10_1 + 1))) else (if x9_1.length < 8796093022208 then (redraftlaw03_chosen.l0 kj8 l0 a1 a2 a3 (x9_1 ++ [(⟨x10_1, wrap64 (x10_1 + 1)⟩ : S133)]) (wrap64 (x10_1 + 1))) else (none))) else (none)) else (none)) = some r := by first | (rw [hji15] at H; exact H) | (simp only [hji15] at H ⊢; exact H)
        have hji15w : (IntKind.i64.wrap ((x9_1.length : Int) - 1)) = ji15 := (i64_w _).trans hji15
        by_cases c16 : 0 ≤ (ji15)
        ·rw [if_pos c16] at H
         have c16b0 : decide (0 ≤ (ji15)) = true := decide_eq_true c16
         clear c16
         by_cases c17 : (ji15) < (x9_1.length : Int)
         ·rw [if_pos c17] at H
          have c17b0 : decide ((ji15) < (x9_1.length : Int)) = true := decide_eq_true c17
          clear c17
          by_cases c18 : ((rd_T133 x9_1 (ji15)).f1) = x10_1
          ·rw [if_pos c18] at H
           have c18b0 : (((rd_T133 x9_1 (ji15)).f1) == x10_1) = true := beq_iff_eq.mpr c18
           have c18b1 : (((rd_T133 x9_1 (ji15)).f1) != x10_1) = false := bne_eq_false_iff_eq.mpr c18
           clear c18
           obtain ⟨y169, hy169⟩ : ∃ y_ : List (S133), y_ = (x9_1.set ((ji15) : Int).toNat (⟨(rd_T133 x9_1 (ji15)).f0, wrap64 (x10_1 + 1)⟩ : S133)) := ⟨_, rfl⟩
           replace H : (redraftlaw03_chosen.l0 kj8 l0 a1 a2 a3 y169 (wrap64 (x10_1 + 1))) = some r := by first | (rw [hy169]; with_reducible exact H) | (have H2_ := (Option.bind_some _ _).symm.trans H; rw [hy169]; with_reducible exact H2_) | (have H2_ := (Option.bind_some _ _).symm.trans H; with_reducible exact H2_) | with_reducible exact H | (rw [hy169]; exact H) | exact H
           have Ny169 := Aside0.mk hy169
           clear hy169
           have H' := Aside0.mk H
           clear H
           obtain ⟨Ao20, co20, eo20⟩ := Kd.R_slice HO_9.out
           subst eo20
           have p168 : 0 ≤ ((ji15) : Int) := of_decide_eq_true (by first | (with_reducible assumption) | assumption)
           have q168 : (ji15) < (x9_1.length : Int) := of_decide_eq_true (by first | (with_reducible assumption) | assumption)
           obtain ⟨ad168, e168, hx168_0, hx168_1⟩ := at_T133 (Kd.R_reads' HO_9.out).2.2 (ji15) p168 q168
           cases e168
           replace p168 := eq_true p168
           replace q168 := eq_true q168
           have p19 : 0 ≤ ((ji15) : Int) := of_decide_eq_true (by first | (with_reducible assumption) | assumption)
           have q19 : ((ji15) : Int) < ((x9_1.length : Int) : Int) := of_decide_eq_true (by first | (with_reducible assumption) | assumption)
           obtain ⟨go19, co19, eo19, gb19, gl19, cl19, HG19⟩ := Kd.R_form HO_9.out (by omega)
           (first | cases eo19 | (injection eo19 with ea_ en_ ec_; (first | subst ea_ | (injection ea_ with ea_; subst ea_)); subst ec_; clear en_))
           have GB19 := Aside0.mk gb19
           have GG19 := Aside0.mk HG19
           clear gb19 gl19 HG19
           (first | simp only [add_plain] at hx168_0 | skip)
           (first | simp only [add_plain] at hx168_1 | skip)
           obtain ⟨ce19, hcl19, hM19, hcc19, hfr19⟩ := Kd.R_elem HO_9.out z133 ((ji15) : Int) p19 q19
           obtain rfl := k133_openM hM19
           have hx19_0 : wc.cell? ⟨go19, ((ji15) : Int).toNat * 2, none⟩ = some (.int .i64 ((rd_T133 x9_1 (ji15)).f0)) := hcc19 0 _ rfl
           have hx19_1 : wc.cell? ⟨go19, ((ji15) : Int).toNat * 2 + 1, none⟩ = some (.int .i64 ((rd_T133 x9_1 (ji15)).f1)) := hcc19 1 _ rfl
           have hf19_0 : wc.frozen? ⟨go19, ((ji15) : Int).toNat * 2, none⟩ = false := hfr19 0
           have hf19_1 : wc.frozen? ⟨go19, ((ji15) : Int).toNat * 2 + 1, none⟩ = false := hfr19 1
           clear hcl19 hcc19 hfr19 hM19
           replace p19 := eq_true p19
           replace q19 := eq_true q19
           have HX21 := Aside0.mk (show Kd.R k133 133 wc w.heap.size (fun _ => True) (.slice (some ⟨go19, 0, none⟩) x9_1.length co20) x9_1 from (by (with_reducible repeat (first | apply Kd.R_alloc | apply Kd.R_drewN | apply Kd.R_drew)); exact HO_9.out))
           obtain ⟨ce21, hcl21, hM21, hcc21, hfr21⟩ := Kd.R_elem HX21.out z133 ((ji15) : Int) (of_decide_eq_true (by first | (with_reducible assumption) | assumption)) (by have h_ : ((ji15) : Int) < ((x9_1.length : Int) : Int) := of_decide_eq_true (by first | (with_reducible assumption) | assumption); first | exact h_ | (have e_ := (Kd.R_reads' HO_9.out).1; omega) | simpa using h_)
           obtain rfl := k133_openM hM21
           have HP21 := Kd.R_seg HX21.out ((ji15) : Int) (of_decide_eq_true (by first | (with_reducible assumption) | assumption)) (by have h_ : ((ji15) : Int) < ((x9_1.length : Int) : Int) := of_decide_eq_true (by first | (with_reducible assumption) | assumption); first | exact h_ | (have e_ := (Kd.R_reads' HO_9.out).1; omega) | simpa using h_) (seg := [.int .i64 (wrap64 (x10_1 + 1))]) (j := 1) hcl21 hcc21 (show 2 ≤ 2 from by decide) (x' := (⟨(rd_T133 x9_1 (ji15)).f0, wrap64 (x10_1 + 1)⟩ : S133)) (k133_mkM _ _ _ (⟨(rd_T133 x9_1 (ji15)).f0, wrap64 (x10_1 + 1)⟩ : S133) ) (fun _ hk => hk)
           have hx21_1 := hcc21 1 _ rfl
           (try simp only [show (k133).sz = 2 from rfl, Nat.mul_one, Nat.add_zero] at hx21_1)
           have hf21_1 := hfr21 1
           (try simp only [show (k133).sz = 2 from rfl, Nat.mul_one, Nat.add_zero] at hf21_1)
           clear hcl21 hcc21 hfr21 hM21
           go_wp2_with (first | ((with_reducible refine gate_store (t := 3) (p := 61) rfl ?_); refine store_event (t := 3) (p := 61) (v := ?vo_w22) (w1 := (wc.setCell ⟨go19, ((ji15) : Int).toNat * 2 + 1, none⟩ (.int .i64 (wrap64 (x10_1 + 1))))) ?hg ?ho ?hn ?hr ?_; (case ho => rfl); (case hg => rfl); (case hn => rfl); (case hr => first | (go_simp; done) | (go_simp; rfl)); intro w22 hw; have hg : wc.grownBy w22 (some go19) := (by rw [hw]; exact HP21.2); have hp_ : Kd.R k133 133 w22 w.heap.size (fun _ => True) (.slice (some ⟨go19, 0, none⟩) x9_1.length co20) y169 := (by rw [hw, Ny169.out]; exact HP21.1); clear HP21; have n0_ := Aside0.mk (hp_); have n1_ := Aside0.mk ((by rw [hw]; exact below_set (HB.out) GB19.out : Below w.heap.size w w22)); clear HO_9; clear HB; have HO_9 := n0_; have HB := n1_; clear n0_ n1_; clear hg hw hp_))
           go_roundg kj8
           case measure => have := HK1.out; have := HJ8.out; omega
           case rel => exact ⟨(y169), (wrap64 (x10_1 + 1)), (by first | rfl | (simp; done) | (simp [*]; done)), H', ⟨by have := HK1.out; have := HJ8.out; omega⟩, ⟨by (with_reducible repeat (first | apply Kd.R_alloc | apply Kd.R_drewN | apply Kd.R_drew)); exact HO_9.out⟩, ⟨by repeat (first | (with_reducible first | exact HB.out | apply below_alloc | apply pw_below_drewN | apply below_drew1) | exact HB.out)⟩⟩
          ·rw [if_neg c18] at H
           have c18b0 : (((rd_T133 x9_1 (ji15)).f1) == x10_1) = false := beq_eq_false_iff_ne.mpr c18
           have c18b1 : (((rd_T133 x9_1 (ji15)).f1) != x10_1) = true := bne_iff_ne.mpr c18
           by_cases c23 : x9_1.length < 8796093022208
           ·rw [if_pos c23] at H
            have LMc23 := Aside0.mk c23
            clear c23
            obtain ⟨y170, hy170⟩ : ∃ y_ : List (S133), y_ = (x9_1 ++ [(⟨x10_1, wrap64 (x10_1 + 1)⟩ : S133)]) := ⟨_, rfl⟩
            replace H : (redraftlaw03_chosen.l0 kj8 l0 a1 a2 a3 y170 (wrap64 (x10_1 + 1))) = some r := by first | (rw [hy170]; with_reducible exact H) | (have H2_ := (Option.bind_some _ _).symm.trans H; rw [hy170]; with_reducible exact H2_) | (have H2_ := (Option.bind_some _ _).symm.trans H; with_reducible exact H2_) | with_reducible exact H | (rw [hy170]; exact H) | exact H
            have Ny170 := Aside0.mk hy170
            clear hy170
            have H' := Aside0.mk H
            clear H
            obtain ⟨Ao24, co24, eo24⟩ := Kd.R_slice HO_9.out
            subst eo24
            have p168 : 0 ≤ ((ji15) : Int) := of_decide_eq_true (by first | (with_reducible assumption) | assumption)
            have q168 : (ji15) < (x9_1.length : Int) := of_decide_eq_true (by first | (with_reducible assumption) | assumption)
            obtain ⟨ad168, e168, hx168_0, hx168_1⟩ := at_T133 (Kd.R_reads' HO_9.out).2.2 (ji15) p168 q168
            cases e168
            replace p168 := eq_true p168
            replace q168 := eq_true q168
            go_wp2_with (first | ((with_reducible refine gate_builtin (b := .append) (xs := #[.tmp 62, .tmp 67]) rfl ?_); at_builtin; refine Kd.R_append k133 (w0 := w) w.heap.size rfl (.tmp 62) (.tmp 67) 61 133 (.agg #[(.int .i64 0), (.int .i64 0)]) 16 rfl Tryd.underlying61 info133 rfl (by decide) (by omega) (.slice (some ad168) x9_1.length co24) x9_1 (⟨x10_1, wrap64 (x10_1 + 1)⟩ : S133) [.int .i64 x10_1, .int .i64 (wrap64 (x10_1 + 1))] (fun _ => True) (fun _ => False) rfl rfl ?aP (fun _ hk => hk.elim) ?aF ?aO ?aB ?aS ?aL ?_; (case aP => exact k133_mkM _ _ _ (⟨x10_1, wrap64 (x10_1 + 1)⟩ : S133)); (case aB => exact (by repeat (first | (with_reducible first | exact HB.out | apply below_alloc | apply pw_below_drewN | apply below_drew1) | exact HB.out))); (case aF => exact (fun _ _ => trivial)); (case aO => exact (by (with_reducible repeat (first | apply Kd.R_alloc | apply Kd.R_drewN | apply Kd.R_drew)); exact HO_9.out)); (case aS => exact (below_size (by repeat (first | (with_reducible first | exact HB.out | apply below_alloc | apply pw_below_drewN | apply below_drew1) | exact HB.out)))); (case aL => have := LMc23.out; omega); intro v171 w25 ho hb hg hat; rw [← Ny170.out] at ho; have n0_ := Aside0.mk (hb); have n1_ := Aside0.mk (ho); clear HB; clear HO_9; have HB := n0_; have HO172 := n1_; clear n0_ n1_; clear ho hb hg hat))
            go_roundg kj8
            case measure => have := HK1.out; have := HJ8.out; omega
            case rel => exact ⟨(y170), (wrap64 (x10_1 + 1)), (by first | rfl | (simp; done) | (simp [*]; done)), H', ⟨by have := HK1.out; have := HJ8.out; omega⟩, ⟨by (with_reducible repeat (first | apply Kd.R_alloc | apply Kd.R_drewN | apply Kd.R_drew)); exact HO172.out⟩, ⟨by repeat (first | (with_reducible first | exact HB.out | apply below_alloc | apply pw_below_drewN | apply below_drew1) | exact HB.out)⟩⟩
           ·rw [if_neg c23] at H
            exact absurd H (by simp)
         ·rw [if_neg c17] at H
          exact absurd H (by simp)
        ·rw [if_neg c16] at H
         exact absurd H (by simp)
       ·rw [if_neg c14] at H
        have c14b0 : decide (0 < (x9_1.length : Int)) = false := decide_eq_false c14
        have c14b1 : decide (0 < x9_1.length) = false := decide_eq_false (by omega)
        clear c14
        by_cases c26 : x9_1.length < 8796093022208
        ·rw [if_pos c26] at H
         have LMc26 := Aside0.mk c26
         clear c26
         obtain ⟨y173, hy173⟩ : ∃ y_ : List (S133), y_ = (x9_1 ++ [(⟨x10_1, wrap64 (x10_1 + 1)⟩ : S133)]) := ⟨_, rfl⟩
         replace H : (redraftlaw03_chosen.l0 kj8 l0 a1 a2 a3 y173 (wrap64 (x10_1 + 1))) = some r := by first | (rw [hy173]; with_reducible exact H) | (have H2_ := (Option.bind_some _ _).symm.trans H; rw [hy173]; with_reducible exact H2_) | (have H2_ := (Option.bind_some _ _).symm.trans H; with_reducible exact H2_) | with_reducible exact H | (rw [hy173]; exact H) | exact H
         have Ny173 := Aside0.mk hy173
         clear hy173
         have H' := Aside0.mk H
         clear H
         obtain ⟨Ao27, co27, eo27⟩ := Kd.R_slice HO_9.out
         subst eo27
         go_wp2_with (first | ((with_reducible refine gate_builtin (b := .append) (xs := #[.tmp 62, .tmp 67]) rfl ?_); at_builtin; refine Kd.R_append k133 (w0 := w) w.heap.size rfl (.tmp 62) (.tmp 67) 61 133 (.agg #[(.int .i64 0), (.int .i64 0)]) 16 rfl Tryd.underlying61 info133 rfl (by decide) (by omega) (.slice Ao27 x9_1.length co27) x9_1 (⟨x10_1, wrap64 (x10_1 + 1)⟩ : S133) [.int .i64 x10_1, .int .i64 (wrap64 (x10_1 + 1))] (fun _ => True) (fun _ => False) rfl rfl ?aP (fun _ hk => hk.elim) ?aF ?aO ?aB ?aS ?aL ?_; (case aP => exact k133_mkM _ _ _ (⟨x10_1, wrap64 (x10_1 + 1)⟩ : S133)); (case aB => exact (by repeat (first | (with_reducible first | exact HB.out | apply below_alloc | apply pw_below_drewN | apply below_drew1) | exact HB.out))); (case aF => exact (fun _ _ => trivial)); (case aO => exact (by (with_reducible repeat (first | apply Kd.R_alloc | apply Kd.R_drewN | apply Kd.R_drew)); exact HO_9.out)); (case aS => exact (below_size (by repeat (first | (with_reducible first | exact HB.out | apply below_alloc | apply pw_below_drewN | apply below_drew1) | exact HB.out)))); (case aL => have := LMc26.out; omega); intro v174 w28 ho hb hg hat; rw [← Ny173.out] at ho; have n0_ := Aside0.mk (hb); have n1_ := Aside0.mk (ho); clear HB; clear HO_9; have HB := n0_; have HO175 := n1_; clear n0_ n1_; clear ho hb hg hat))
         go_roundg kj8
         case measure => have := HK1.out; have := HJ8.out; omega
         case rel => exact ⟨(y173), (wrap64 (x10_1 + 1)), (by first | rfl | (simp; done) | (simp [*]; done)), H', ⟨by have := HK1.out; have := HJ8.out; omega⟩, ⟨by (with_reducible repeat (first | apply Kd.R_alloc | apply Kd.R_drewN | apply Kd.R_drew)); exact HO175.out⟩, ⟨by repeat (first | (with_reducible first | exact HB.out | apply below_alloc | apply pw_below_drewN | apply below_drew1) | exact HB.out)⟩⟩
        ·rw [if_neg c26] at H
         exact absurd H (by simp)
   ·rw [if_neg c5] at H
    have c5b0 : decide (x10_1 < (l0.length : Int)) = false := decide_eq_false c5
    clear c5
    obtain rfl := Option.some.inj H
    go_wp2
    go_ret
    exact ⟨_, by first | rfl | (simp [errW_none, errW_some] <;> rfl) | (simp [*, errW_none, errW_some] <;> rfl), by (with_reducible repeat (first | apply Kd.R_alloc | apply Kd.R_drewN | apply Kd.R_drew)); exact HO_9.out, by repeat (first | (with_reducible first | exact HB.out | apply below_alloc | apply pw_below_drewN | apply below_drew1) | exact HB.out)⟩
def redraftlaw03_EqRuns.l0 : Nat → List (S58) → List (S58) → Int → Option (Bool)
 | 0, _, _, _ => none
 | k + 1, x0, x1, x5 => if x5 < (x0.length : Int) then (if 0 ≤ x5 then (if x5 < (x1.length : Int) then (if (!((((rd_T58 x0 x5).f0).toList) == (((rd_T58 x1 x5).f0).toList)) || (!(((rd_T58 x0 x5).f1) == ((rd_T58 x1 x5).f1)))) = true then (some false) else (redraftlaw03_EqRuns.l0 k x0 x1 (wrap64 (x5 + 1)))) else (none)) else (none)) else (some true)
def redraftlaw03_EqRuns.f (k : Nat) (l0 : List (S58)) (l1 : List (S58)) : Option (Bool) := if (l0.length : Int) = (l1.length : Int) then (redraftlaw03_EqRuns.l0 k l0 l1 0) else (some false)
theorem redraftlaw03_EqRuns.mono_l : ∀ k, (∀ y0 y1 y2, LeO (redraftlaw03_EqRuns.l0 k y0 y1 y2) (redraftlaw03_EqRuns.l0 (k + 1) y0 y1 y2))
 | 0 => fun _ _ _ r h => by simp [redraftlaw03_EqRuns.l0] at h
 | k + 1 => by
  have ih0 := redraftlaw03_EqRuns.mono_l k
  ·intro y0 y1 y2
   unfold redraftlaw03_EqRuns.l0
   repeat' first
   | (with_reducible exact ih0 _ _ _)
   | (with_reducible exact LeO.refl _)
   | (with_reducible exact LeO.none _)
   | (with_reducible refine LeO.ite ?_ ?_)
   | (with_reducible refine LeO.bind ?_ (fun _ => ?_))
   | exact ih0 _ _ _
   | exact LeO.none _
   | refine LeO.ite ?_ ?_
   | refine LeO.bind ?_ (fun _ => ?_)
theorem redraftlaw03_EqRuns.mono : ∀ a0 a1 k, LeO (redraftlaw03_EqRuns.f k a0 a1) (redraftlaw03_EqRuns.f (k + 1) a0 a1) := by
 intro a0 a1 k
 have ih0 := redraftlaw03_EqRuns.mono_l k
 unfold redraftlaw03_EqRuns.f
 repeat' first
   | (with_reducible exact ih0 _ _ _)
   | (with_reducible exact LeO.refl _)
   | (with_reducible exact LeO.none _)
   | (with_reducible refine LeO.ite ?_ ?_)
   | (with_reducible refine LeO.bind ?_ (fun _ => ?_))
   | exact ih0 _ _ _
   | exact LeO.none _
   | refine LeO.ite ?_ ?_
   | refine LeO.bind ?_ (fun _ => ?_)
set_option maxHeartbeats 8000000 in
set_option maxRecDepth 100000 in
theorem redraftlaw03_EqRuns.calls (k : Nat) (A0 : Option Addr) (c0 : Nat) (l0 : List (S58)) (A1 : Option Addr) (c1 : Nat) (l1 : List (S58)) (r : Bool) (w : World) (hr0 : Kd.C k58 w A0 l0.length l0) (hc0 : l0.length ≤ c0) (hr1 : Kd.C k58 w A1 l1.length l1) (hc1 : l1.length ≤ c1) (h : redraftlaw03_EqRuns.f k l0 l1 = some r) :
  Calls Tryd.prog 35 #[.slice A0 l0.length c0, .slice A1 l1.length c1] w fun e w' => e = .returned (.bool r) ∧ Drawn0 w w' := by
 have hu58 := Tryd.underlying58
 have HR0 := Aside0.mk hr0
 have HC0 := Aside0.mk hc0
 clear hr0 hc0
 have HR1 := Aside0.mk hr1
 have HC1 := Aside0.mk hc1
 clear hr1 hc1
 have H : (if (l0.length : Int) = (l1.length : Int) then (redraftlaw03_EqRuns.l0 k l0 l1 0) else (some false)) = some r := h
 clear h
 by_cases c3 : (l0.length : Int) = (l1.length : Int)
 ·rw [if_pos c3] at H
  have c3b0 : ((l0.length : Int) == (l1.length : Int)) = true := beq_iff_eq.mpr c3
  have c3b1 : ((l0.length : Int) != (l1.length : Int)) = false := bne_eq_false_iff_eq.mpr c3
  have c3b2 : (l0.length == l1.length) = true := by first | simpa using c3 | (simp at c3 ⊢; omega)
  clear c3
  have H' := Aside0.mk H
  clear H
  go_enter Tryd.func35, Tryd.ntmps35
  go_wp2
  repeat (go_quiet (fail); try go_wp2)
  go_loopg [5] k (fun kq v5 w' => ∃ (x5_1 : Int), v5 = .int .i64 x5_1 ∧ Aside0 (redraftlaw03_EqRuns.l0 kq l0 l1 x5_1 = some r) ∧ Aside0 (kq ≤ k) ∧ Drawn0 w w')
  case atStart => exact ⟨(0), (by first | rfl | (simp; done) | (simp [*]; done)), H', ⟨Nat.le_refl _⟩, by repeat (first | exact Drawn0.refl _ | apply Drawn0.step)⟩
  case round =>
   clear H'
   try clear c1
   try clear p2
   try clear c3
   try clear c3b0
   try clear c3b1
   try clear c3b2
   obtain ⟨x5_1, rfl, HA, HK1, ⟨m1, rfl⟩⟩ := hrel
   cases gk with
   | zero => exact absurd HA.out (by simp [redraftlaw03_EqRuns.l0])
   | succ k1 =>
    have H := HA.out
    clear HA
    simp only [redraftlaw03_EqRuns.l0] at H
    by_cases c4 : x5_1 < (l0.length : Int)
    ·rw [if_pos c4] at H
     have c4b0 : decide (x5_1 < (l0.length : Int)) = true := decide_eq_true c4
     clear c4
     by_cases c5 : 0 ≤ x5_1
     ·rw [if_pos c5] at H
      have c5b0 : decide (0 ≤ x5_1) = true := decide_eq_true c5
      clear c5
      by_cases c6 : x5_1 < (l1.length : Int)
      ·rw [if_pos c6] at H
       have c6b0 : decide (x5_1 < (l1.length : Int)) = true := decide_eq_true c6
       clear c6
       by_cases c7 : (!((((rd_T58 l0 x5_1).f0).toList) == (((rd_T58 l1 x5_1).f0).toList)) || (!(((rd_T58 l0 x5_1).f1) == ((rd_T58 l1 x5_1).f1)))) = true
       ·rw [if_pos c7] at H
        have c7b0 : (!((((rd_T58 l0 x5_1).f0).toList) == (((rd_T58 l1 x5_1).f0).toList)) || (!(((rd_T58 l0 x5_1).f1) == ((rd_T58 l1 x5_1).f1)))) = true := c7
        clear c7
        obtain rfl := Option.some.inj H
        have p185 : 0 ≤ (x5_1 : Int) := of_decide_eq_true (by first | (with_reducible assumption) | assumption)
        have q185 : x5_1 < (l0.length : Int) := of_decide_eq_true (by first | (with_reducible assumption) | assumption)
        obtain ⟨ad185, e185, hx185_0, hx185_1⟩ := at_T58 HR0.out x5_1 p185 q185
        cases e185
        replace p185 := eq_true p185
        replace q185 := eq_true q185
        have p186 : 0 ≤ (x5_1 : Int) := of_decide_eq_true (by first | (with_reducible assumption) | assumption)
        have q186 : x5_1 < (l1.length : Int) := of_decide_eq_true (by first | (with_reducible assumption) | assumption)
        obtain ⟨ad186, e186, hx186_0, hx186_1⟩ := at_T58 HR1.out x5_1 p186 q186
        cases e186
        replace p186 := eq_true p186
        replace q186 := eq_true q186
        go_wp2
        repeat (go_quiet (fail); try go_wp2)
        go_ret
        exact ⟨by first | rfl | (simp; done) | (simp [*]; done), by repeat (first | exact Drawn0.refl _ | apply Drawn0.step)⟩
       ·rw [if_neg c7] at H
        have c7b0 : (!((((rd_T58 l0 x5_1).f0).toList) == (((rd_T58 l1 x5_1).f0).toList)) || (!(((rd_T58 l0 x5_1).f1) == ((rd_T58 l1 x5_1).f1)))) = false := by simpa using c7
        clear c7
        have H' := Aside0.mk H
        clear H
        have p185 : 0 ≤ (x5_1 : Int) := of_decide_eq_true (by first | (with_reducible assumption) | assumption)
        have q185 : x5_1 < (l0.length : Int) := of_decide_eq_true (by first | (with_reducible assumption) | assumption)
        obtain ⟨ad185, e185, hx185_0, hx185_1⟩ := at_T58 HR0.out x5_1 p185 q185
        cases e185
        replace p185 := eq_true p185
        replace q185 := eq_true q185
        have p186 : 0 ≤ (x5_1 : Int) := of_decide_eq_true (by first | (with_reducible assumption) | assumption)
        have q186 : x5_1 < (l1.length : Int) := of_decide_eq_true (by first | (with_reducible assumption) | assumption)
        obtain ⟨ad186, e186, hx186_0, hx186_1⟩ := at_T58 HR1.out x5_1 p186 q186
        cases e186
        replace p186 := eq_true p186
        replace q186 := eq_true q186
        go_wp2
        repeat (go_quiet (fail); try go_wp2)
        go_roundg k1
        case measure => have := HK1.out; omega
        case rel => exact ⟨(wrap64 (x5_1 + 1)), (by first | rfl | (simp; done) | (simp [*]; done)), H', ⟨by have := HK1.out; omega⟩, by repeat (first | exact Drawn0.refl _ | apply Drawn0.step)⟩
      ·rw [if_neg c6] at H
       exact absurd H (by simp)
     ·rw [if_neg c5] at H
      exact absurd H (by simp)
    ·rw [if_neg c4] at H
     have c4b0 : decide (x5_1 < (l0.length : Int)) = false := decide_eq_false c4
     clear c4
     obtain rfl := Option.some.inj H
     go_wp2
     repeat (go_quiet (fail); try go_wp2)
     go_ret
     exact ⟨by first | rfl | (simp; done) | (simp [*]; done), by repeat (first | exact Drawn0.refl _ | apply Drawn0.step)⟩
 ·rw [if_neg c3] at H
  have c3b0 : ((l0.length : Int) == (l1.length : Int)) = false := beq_eq_false_iff_ne.mpr c3
  have c3b1 : ((l0.length : Int) != (l1.length : Int)) = true := bne_iff_ne.mpr c3
  have c3b2 : (l0.length == l1.length) = false := by first | simpa using c3 | (simp at c3 ⊢; omega)
  obtain rfl := Option.some.inj H
  go_enter Tryd.func35, Tryd.ntmps35
  go_wp2
  repeat (go_quiet (fail); try go_wp2)
  go_ret
  exact ⟨by first | rfl | (simp; done) | (simp [*]; done), by repeat (first | exact Drawn0.refl _ | apply Drawn0.step)⟩
def span_Count.l0 : Nat → Int → List (S133) → Int → Int → Option (Int × Int)
 | 0, _, _, _, _ => none
 | k + 1, x6, x17, x18, x19 => if x19 < x18 then (if 0 ≤ x19 then (if x19 < (x17.length : Int) then (span_Count.l0 k (wrap64 (x6 + (wrap64 (((rd_T133 x17 x19).f1) - ((rd_T133 x17 x19).f0))))) x17 x18 (wrap64 (x19 + 1))) else (none)) else (none)) else (some (x6, 0))
def span_Count.f (k : Nat) (l0 : List (S133)) : Option (Int × Int) := (span_Check.f k l0).bind fun bt187 => (if bt187.2 = 0 then (span_Count.l0 k 0 l0 (l0.length : Int) 0) else (some (0, bt187.2)))
theorem span_Count.mono_l : ∀ k, (∀ y0 y1 y2 y3, LeO (span_Count.l0 k y0 y1 y2 y3) (span_Count.l0 (k + 1) y0 y1 y2 y3))
 | 0 => fun _ _ _ _ r h => by simp [span_Count.l0] at h
 | k + 1 => by
  have ih0 := span_Count.mono_l k
  ·intro y0 y1 y2 y3
   unfold span_Count.l0
   repeat' first
   | (with_reducible exact ih0 _ _ _ _)
   | (with_reducible exact span_Check.mono _ _)
   | (with_reducible exact LeO.refl _)
   | (with_reducible exact LeO.none _)
   | (with_reducible refine LeO.ite ?_ ?_)
   | (with_reducible refine LeO.bind ?_ (fun _ => ?_))
   | exact ih0 _ _ _ _
   | exact span_Check.mono _ _
   | exact LeO.none _
   | refine LeO.ite ?_ ?_
   | refine LeO.bind ?_ (fun _ => ?_)
theorem span_Count.mono : ∀ a0 k, LeO (span_Count.f k a0) (span_Count.f (k + 1) a0) := by
 intro a0 k
 have ih0 := span_Count.mono_l k
 unfold span_Count.f
 repeat' first
   | (with_reducible exact ih0 _ _ _ _)
   | (with_reducible exact span_Check.mono _ _)
   | (with_reducible exact LeO.refl _)
   | (with_reducible exact LeO.none _)
   | (with_reducible refine LeO.ite ?_ ?_)
   | (with_reducible refine LeO.bind ?_ (fun _ => ?_))
   | exact ih0 _ _ _ _
   | exact span_Check.mono _ _
   | exact LeO.none _
   | refine LeO.ite ?_ ?_
   | refine LeO.bind ?_ (fun _ => ?_)
set_option maxHeartbeats 8000000 in
set_option maxRecDepth 100000 in
theorem span_Count.calls (k : Nat) (A0 : Option Addr) (c0 : Nat) (l0 : List (S133)) (r1 : Int) (r2 : Int) (w : World) (hr0 : Kd.C k133 w A0 l0.length l0) (hc0 : l0.length ≤ c0) (h : span_Count.f k l0 = some (r1, r2)) :
  Calls Tryd.prog 38 #[.slice A0 l0.length c0] w fun e w' => e = .returned (.tuple #[.int .i64 r1, .int .i64 r2]) ∧ Below w.heap.size w w' := by
 have hu133 := Tryd.underlying133
 have HR0 := Aside0.mk hr0
 have HC0 := Aside0.mk hc0
 clear hr0 hc0
 have HB := Aside0.mk (Below.refl w.heap.size w)
 have H : ((span_Check.f k l0).bind fun bt187 => (if bt187.2 = 0 then (span_Count.l0 k 0 l0 (l0.length : Int) 0) else (some (0, bt187.2)))) = some (r1, r2) := h
 clear h
 replace H := Option.bind_eq_some_iff.mp H
 obtain ⟨⟨t187, t188⟩, A20, H⟩ := H
 replace H : (if t188 = 0 then (span_Count.l0 k 0 l0 (l0.length : Int) 0) else (some (0, t188))) = some (r1, r2) := H
 have A2 := Aside0.mk A20
 clear A20
 by_cases c3 : t188 = 0
 ·rw [if_pos c3] at H
  have c3b0 : (t188 == 0) = true := beq_iff_eq.mpr c3
  have c3b1 : (t188 != 0) = false := bne_eq_false_iff_eq.mpr c3
  clear c3
  have H' := Aside0.mk H
  clear H
  go_enter Tryd.func38, Tryd.ntmps38
  go_wp2_with (first | ((with_reducible refine gate_callee (f := 37) rfl ?_); refine goesL_ (some 11) rfl rfl Tryd.func37 (by kernel_rfl) rfl #[.slice A0 l0.length c0] rfl (by (try simp only [List.map_toArray, List.map_cons, List.map_nil]); first | done | rfl | (simp only [List.length_drop, List.length_take]; rfl)) ?_; (with_reducible refine (span_Check.calls k _ _ l0 t187 t188 _ ?side1 ?side2 A2.out).mono ?_); (case side1 => repeat (first | exact HR0.out | (with_reducible refine Kd.C_alloc ?_ _) | (with_reducible refine Kd.C_drewN ?_ _) | (with_reducible refine Kd.C_drew ?_))); (case side2 => exact HC0.out); rintro e w4 ⟨rfl, hb⟩; refine ⟨_, rfl, ?_⟩; have n0_ := Aside0.mk (below_step (by repeat (first | (with_reducible first | exact HB.out | apply below_alloc | apply pw_below_drewN | apply below_drew1) | exact HB.out)) hb); clear HB; have HB := n0_; clear n0_; (try clear hb); (try clear hb2); (try clear hk); (try clear hi)))
  go_loopg [6, 19] k (fun kq v6 v19 w' => ∃ (x6_1 : Int) (x19_1 : Int), v6 = .int .i64 x6_1 ∧ v19 = .int .i64 x19_1 ∧ Aside0 (span_Count.l0 kq x6_1 l0 (l0.length : Int) x19_1 = some (r1, r2)) ∧ Aside0 (kq ≤ k) ∧ Aside0 (Below w.heap.size w w'))
  case atStart => exact ⟨(0), (0), (by first | rfl | (simp; done) | (simp [*]; done)), (by first | rfl | (simp; done) | (simp [*]; done)), H', ⟨Nat.le_refl _⟩, ⟨by repeat (first | (with_reducible first | exact HB.out | apply below_alloc | apply pw_below_drewN | apply below_drew1) | exact HB.out)⟩⟩
  case round =>
   clear H'
   try clear p2
   try clear c3
   try clear c3b0
   try clear c3b1
   obtain ⟨x6_1, x19_1, rfl, rfl, HA, HK1, HB⟩ := hrel
   cases gk with
   | zero => exact absurd HA.out (by simp [span_Count.l0])
   | succ k1 =>
    have H := HA.out
    clear HA
    simp only [span_Count.l0] at H
    by_cases c5 : x19_1 < (l0.length : Int)
    ·rw [if_pos c5] at H
     have c5b0 : decide (x19_1 < (l0.length : Int)) = true := decide_eq_true c5
     clear c5
     by_cases c6 : 0 ≤ x19_1
     ·rw [if_pos c6] at H
      have c6b0 : decide (0 ≤ x19_1) = true := decide_eq_true c6
      clear c6
      by_cases c7 : x19_1 < (l0.length : Int)
      ·rw [if_pos c7] at H
       have c7b0 : decide (x19_1 < (l0.length : Int)) = true := decide_eq_true c7
       clear c7
       have H' := Aside0.mk H
       clear H
       have p189 : 0 ≤ (x19_1 : Int) := of_decide_eq_true (by first | (with_reducible assumption) | assumption)
       have q189 : x19_1 < (l0.length : Int) := of_decide_eq_true (by first | (with_reducible assumption) | assumption)
       obtain ⟨ad189, e189, hx189_0, hx189_1⟩ := at_T133 HR0.out x19_1 p189 q189
       cases e189
       replace hx189_0 := (HB.out.cell (World.block_lt_of_cell? w _ hx189_0)).trans hx189_0
       replace hx189_1 := (HB.out.cell (World.block_lt_of_cell? w _ hx189_1)).trans hx189_1
       replace p189 := eq_true p189
       replace q189 := eq_true q189
       go_wp2_with (first | ((with_reducible refine gate_dst (N := 8) rfl ?_); refine box_event ?hg (N := 8) ?hd (cs := #[.int .i64 0, .int .i64 0]) (t := 133) ?hr ?_; (case hd => rfl); (case hg => rfl); (case hr => first | (go_simp; done) | (go_simp; rfl)); intro gb190 hg w8 hbox hb; have n0_ := Aside0.mk (below_step (by repeat (first | (with_reducible first | exact HB.out | apply below_alloc | apply pw_below_drewN | apply below_drew1) | exact HB.out)) hb); have n1_ := Aside0.mk (hbox); have n2_ := Aside0.mk ((by rw [hg]; exact (below_size (by repeat (first | (with_reducible first | exact HB.out | apply below_alloc | apply pw_below_drewN | apply below_drew1) | exact HB.out))) : w.heap.size ≤ gb190)); have n3_ := Aside0.mk ((by rw [hg]; exact (below_size (by repeat (first | (with_reducible first | exact HB.out | apply below_alloc | apply pw_below_drewN | apply below_drew1) | exact HB.out))) : w.heap.size ≤ gb190)); clear HB; have HB := n0_; have BK190 := n1_; have GW190 := n2_; have GE190 := n3_; clear n0_ n1_ n2_ n3_; clear hb hbox hg; have hcz9_0 : w8.cell? ⟨gb190, 0, none⟩ = some (.int .i64 0) := (blk_cell BK190.out 0).trans rfl; have hcz9_1 : w8.cell? ⟨gb190, 1, none⟩ = some (.int .i64 0) := (blk_cell BK190.out 1).trans rfl; have hfz9_0 := blk_frozen BK190.out 0; have hfz9_1 := blk_frozen BK190.out 1))
       go_roundg k1
       case measure => have := HK1.out; omega
       case rel => exact ⟨(wrap64 (x6_1 + (wrap64 (((rd_T133 l0 x19_1).f1) - ((rd_T133 l0 x19_1).f0))))), (wrap64 (x19_1 + 1)), (by first | rfl | (simp; done) | (simp [*]; done)), (by first | rfl | (simp; done) | (simp [*]; done)), H', ⟨by have := HK1.out; omega⟩, ⟨by repeat (first | (with_reducible first | exact HB.out | apply below_alloc | apply pw_below_drewN | apply below_drew1 | refine below_set ?_ GE190.out) | exact HB.out)⟩⟩
      ·rw [if_neg c7] at H
       exact absurd H (by simp)
     ·rw [if_neg c6] at H
      exact absurd H (by simp)
    ·rw [if_neg c5] at H
     have c5b0 : decide (x19_1 < (l0.length : Int)) = false := decide_eq_false c5
     clear c5
     simp only [Option.some.injEq, Prod.mk.injEq] at H
     obtain ⟨rfl, rfl⟩ := H
     go_wp2
     go_ret2
     exact ⟨by first | rfl | (simp [errW_none, errW_some] <;> rfl) | (simp [*, errW_none, errW_some] <;> rfl), by repeat (first | (with_reducible first | exact HB.out | apply below_alloc | apply pw_below_drewN | apply below_drew1) | exact HB.out)⟩
 ·rw [if_neg c3] at H
  have c3b0 : (t188 == 0) = false := beq_eq_false_iff_ne.mpr c3
  have c3b1 : (t188 != 0) = true := bne_iff_ne.mpr c3
  simp only [Option.some.injEq, Prod.mk.injEq] at H
  obtain ⟨rfl, rfl⟩ := H
  go_enter Tryd.func38, Tryd.ntmps38
  go_wp2_with (first | ((with_reducible refine gate_callee (f := 37) rfl ?_); refine goesL_ (some 11) rfl rfl Tryd.func37 (by kernel_rfl) rfl #[.slice A0 l0.length c0] rfl (by (try simp only [List.map_toArray, List.map_cons, List.map_nil]); first | done | rfl | (simp only [List.length_drop, List.length_take]; rfl)) ?_; (with_reducible refine (span_Check.calls k _ _ l0 t187 t188 _ ?side1 ?side2 A2.out).mono ?_); (case side1 => repeat (first | exact HR0.out | (with_reducible refine Kd.C_alloc ?_ _) | (with_reducible refine Kd.C_drewN ?_ _) | (with_reducible refine Kd.C_drew ?_))); (case side2 => exact HC0.out); rintro e w10 ⟨rfl, hb⟩; refine ⟨_, rfl, ?_⟩; have n0_ := Aside0.mk (below_step (by repeat (first | (with_reducible first | exact HB.out | apply below_alloc | apply pw_below_drewN | apply below_drew1) | exact HB.out)) hb); clear HB; have HB := n0_; clear n0_; (try clear hb); (try clear hb2); (try clear hk); (try clear hi)))
  go_ret2
  exact ⟨by first | rfl | (simp [errW_none, errW_some] <;> rfl) | (simp [*, errW_none, errW_some] <;> rfl), by repeat (first | (with_reducible first | exact HB.out | apply below_alloc | apply pw_below_drewN | apply below_drew1) | exact HB.out)⟩
def redraftlaw03_at.f (a0 : Int) : Option (Int) := some (Int.tmod (wrap64 ((Int.tmod a0 3) + 3)) 3)
set_option maxHeartbeats 8000000 in
set_option maxRecDepth 100000 in
theorem redraftlaw03_at.calls (a0 : Int) (r : Int) (w : World) (h : redraftlaw03_at.f a0 = some r) :
  Calls Tryd.prog 79 #[.int .i64 a0] w fun e w' => e = .returned (.int .i64 r) ∧ Drawn0 w w' := by
 have H : (some (Int.tmod (wrap64 ((Int.tmod a0 3) + 3)) 3)) = some r := h
 clear h
 obtain rfl := Option.some.inj H
 go_enter Tryd.func79, Tryd.ntmps79
 go_wp2
 go_ret
 exact ⟨by first | rfl | (simp; done) | (simp [*]; done), by repeat (first | exact Drawn0.refl _ | apply Drawn0.step)⟩
end Go.Proofs.YteeigokkafcaaaaDoor.Pr
end
section
namespace Go.Proofs.YteeigokkafcaaaaDoorRope
open Go.RowKit Go.Proofs.YteeigokkafcaaaaDoorW.PrintWords Go.Proofs.YteeigokkafcaaaaDoorW.PrintMore Go.Proofs.YteeigokkafcaaaaDoor.Pr
set_option linter.unusedSimpArgs false
set_option linter.unusedVariables false
def cnt (l : List (Nat × Nat)) (q : Nat) : Nat := (l.filter (fun r => decide (r.1 ≤ q ∧ q < r.2))).length
theorem cnt_cons (r : Nat × Nat) (l : List (Nat × Nat)) (q : Nat) : cnt (r :: l) q = (if r.1 ≤ q ∧ q < r.2 then 1 else 0) + cnt l q := by
  unfold cnt
  by_cases c : r.1 ≤ q ∧ q < r.2
  · rw [List.filter_cons_of_pos (by simpa using c), if_pos c, List.length_cons]; omega
  · rw [List.filter_cons_of_neg (by simpa using c), if_neg c]; omega
theorem bump1_get {cs : List (Int × Int)} {r : Nat × Nat} {b : Int} (h1 : r.1 ≤ r.2) (h2 : r.2 ≤ cs.length) (q : Nat) : (bump1 cs r b)[q]? = cs[q]?.map (fun c => (c.1, c.2 + (if r.1 ≤ q ∧ q < r.2 then b else 0))) := by
  have l1 : (cs.take r.1).length = r.1 := by rw [List.length_take]; omega
  have l2 : (((cs.take r.2).drop r.1).map (fun c => (c.1, c.2 + b))).length = r.2 - r.1 := by rw [List.length_map, List.length_drop, List.length_take]; omega
  unfold bump1
  by_cases c1 : q < r.1
  · rw [List.append_assoc, List.getElem?_append_left (by omega), List.getElem?_take_of_lt c1]
    simp only [show ¬ (r.1 ≤ q ∧ q < r.2) by omega, if_false, Int.add_zero]
    cases cs[q]? <;> rfl
  · by_cases c2 : q < r.2
    · rw [List.append_assoc, List.getElem?_append_right (by omega), l1, List.getElem?_append_left (by omega), List.getElem?_map, List.getElem?_drop, List.getElem?_take_of_lt (by omega), show r.1 + (q - r.1) = q by omega]
      simp only [show (r.1 ≤ q ∧ q < r.2) from ⟨by omega, c2⟩, and_self, if_true]
    · rw [List.getElem?_append_right (by rw [List.length_append]; omega), List.getElem?_drop, List.length_append, l1, l2, show r.2 + (q - (r.1 + (r.2 - r.1))) = q by omega]
      simp only [show ¬ (r.1 ≤ q ∧ q < r.2) by omega, if_false, Int.add_zero]
      cases cs[q]? <;> rfl
theorem bumpC_get {b : Int} : ∀ (l : List (Nat × Nat)) (cs : List (Int × Int)), (∀ r ∈ l, r.1 ≤ r.2 ∧ r.2 ≤ cs.length) → ∀ q : Nat, (bumpC cs l b)[q]? = cs[q]?.map (fun c => (c.1, c.2 + b * (cnt l q : Int)))
  | [], cs, _, q => by
    simp only [bumpC, List.foldl_nil, cnt, List.filter_nil, List.length_nil]
    cases cs[q]? <;> simp
  | r :: l, cs, h, q => by
    have hr := h r (by simp)
    have hl := bump1_len (b := b) hr.1 hr.2
    have ih := bumpC_get (b := b) l (bump1 cs r b) (fun x hx => by rw [hl]; exact h x (List.mem_cons_of_mem _ hx)) q
    have e : bumpC cs (r :: l) b = bumpC (bump1 cs r b) l b := rfl
    rw [e, ih, bump1_get hr.1 hr.2, cnt_cons]
    cases cs[q]? with
    | none => rfl
    | some c =>
      simp only [Option.map_some]
      congr 2
      by_cases k : r.1 ≤ q ∧ q < r.2
      · simp only [k, and_self, if_true]
        rw [show ((1 + cnt l q : Nat) : Int) = 1 + (cnt l q : Int) by omega, Int.mul_add, Int.mul_one, Int.add_assoc]
      · simp only [k, if_false, Int.add_zero, Nat.zero_add]
theorem bumpC_len2 {b : Int} {l : List (Nat × Nat)} {cs : List (Int × Int)} (h : ∀ r ∈ l, r.1 ≤ r.2 ∧ r.2 ≤ cs.length) : (bumpC cs l b).length = cs.length := by
  have key : ∀ q : Nat, (bumpC cs l b)[q]? = none ↔ cs[q]? = none := by
    intro q
    rw [bumpC_get l cs h]
    cases cs[q]? <;> simp
  have k1 := key (bumpC cs l b).length
  have k2 := key cs.length
  simp only [List.getElem?_eq_none_iff] at k1 k2
  omega
theorem flat_cons (r : Nat × Nat) (l : List (Nat × Nat)) : flat (r :: l) = List.range' r.1 (r.2 - r.1) ++ flat l := by simp [flat]
theorem cnt_flat : ∀ (l : List (Nat × Nat)), (∀ r ∈ l, r.1 < r.2) → l.Pairwise (fun a b => a.2 < b.1) → ∀ q, cnt l q = if q ∈ flat l then 1 else 0
  | [], _, _, q => by simp [cnt, flat]
  | r :: l, h1, h2, q => by
    have ih := cnt_flat l (fun x hx => h1 x (List.mem_cons_of_mem _ hx)) (List.pairwise_cons.1 h2).2 q
    have hm : q ∈ flat (r :: l) ↔ (r.1 ≤ q ∧ q < r.2) ∨ q ∈ flat l := by
      have := h1 r (by simp)
      simp only [flat, List.flatMap_cons, List.mem_append, List.mem_range'_1]
      constructor
      · rintro (h | h)
        · exact .inl ⟨h.1, by omega⟩
        · exact .inr h
      · rintro (h | h)
        · exact .inl ⟨h.1, by omega⟩
        · exact .inr h
    rw [cnt_cons, ih]
    by_cases c : r.1 ≤ q ∧ q < r.2
    · have hnot : ¬ q ∈ flat l := by
        intro hq
        obtain ⟨x, hx, hq⟩ := List.mem_flatMap.1 hq
        have := (List.pairwise_cons.1 h2).1 x hx
        rw [List.mem_range'_1] at hq
        omega
      rw [if_pos c, if_neg hnot, if_pos (hm.2 (.inl c))]
    · by_cases d : q ∈ flat l
      · rw [if_neg c, if_pos d, if_pos (hm.2 (.inr d))]
      · rw [if_neg c, if_neg d, if_neg (fun h => (hm.1 h).elim c d)]
theorem Rngs.cnt {l : List (Nat × Nat)} {ps : List Nat} (h : Rngs l ps) (q : Nat) : cnt l q = if q ∈ ps then 1 else 0 := by
  rw [cnt_flat l h.one h.two, h.all]
theorem Rngs.top {l : List (Nat × Nat)} {ps : List Nat} {n : Nat} (h : Rngs l ps) (hp : ∀ p ∈ ps, p < n) : ∀ r ∈ l, r.1 < r.2 ∧ r.2 ≤ n := by
  intro r hr
  have hb := h.one r hr
  refine ⟨hb, ?_⟩
  have : r.2 - 1 ∈ ps := by
    rw [← h.all]
    refine List.mem_flatMap.2 ⟨r, hr, ?_⟩
    rw [List.mem_range'_1]
    omega
  have := hp _ this
  omega
theorem Rngs.norm {l : List (Nat × Nat)} {ps : List Nat} {n : Nat} (h : Rngs l ps) (hp : ∀ p ∈ ps, p < n) (hl : l.length ≤ 32768) : Norm l n :=
  ⟨h.top hp, fun i hi => List.pairwise_iff_getElem.1 h.two i (i + 1) (by omega) hi (Nat.lt_succ_self _), hl⟩
theorem vp_nodup (C : List (Int × Int)) (f : Nat) : ∀ q, (vp C f q).Nodup := by
  intro q
  induction q with
  | zero => simp [vp]
  | succ q ih =>
    rw [vp, List.nodup_append]
    refine ⟨ih, ?_, fun a ha b hb => ?_⟩
    · split <;> simp
    · have := (vp_mem ha).2.1
      split at hb
      · rw [List.mem_singleton.1 hb]; omega
      · cases hb
theorem filter_mid {V : List Nat} (hV : V.Nodup) (lo m : Nat) : V.filter (fun p => decide (p ∉ (V.drop lo).take m)) = V.take lo ++ V.drop (lo + m) := by
  obtain ⟨X, hX⟩ : ∃ X, X = V.take lo := ⟨_, rfl⟩
  obtain ⟨Y, hY⟩ : ∃ Y, Y = (V.drop lo).take m := ⟨_, rfl⟩
  obtain ⟨Z, hZ⟩ : ∃ Z, Z = V.drop (lo + m) := ⟨_, rfl⟩
  have hs : V = X ++ (Y ++ Z) := by
    rw [hX, hY, hZ, ← List.drop_drop, List.take_append_drop, List.take_append_drop]
  rw [← hX, ← hY, ← hZ, hs]
  rw [hs, List.nodup_append] at hV
  obtain ⟨n1, n2, n3⟩ := hV
  rw [List.nodup_append] at n2
  obtain ⟨n4, n5, n6⟩ := n2
  rw [List.filter_append, List.filter_append]
  rw [List.filter_eq_self.2 (fun x hx => by simpa using fun h => n3 x hx x (List.mem_append_left _ h) rfl)]
  rw [List.filter_eq_nil_iff.2 (fun x hx => by simpa using hx)]
  rw [List.filter_eq_self.2 (fun x hx => by simpa using fun h => n6 x h x hx rfl)]
  rfl
section
variable {cs cs' : List (Int × Int)} {ps : List Nat}
theorem get_len (hg : ∀ q : Nat, cs'[q]? = cs[q]?.map (fun c => (c.1, c.2 + (if q ∈ ps then 1 else 0)))) : cs'.length = cs.length := by
  have key : ∀ q : Nat, cs'[q]? = none ↔ cs[q]? = none := by
    intro q
    rw [hg]
    cases cs[q]? <;> simp
  have k1 := key cs'.length
  have k2 := key cs.length
  simp only [List.getElem?_eq_none_iff] at k1 k2
  omega
theorem vp_hide (hg : ∀ q : Nat, cs'[q]? = cs[q]?.map (fun c => (c.1, c.2 + (if q ∈ ps then 1 else 0)))) (h0 : ∀ c ∈ cs, 0 ≤ c.2) : ∀ q, q ≤ cs.length → vp cs' 0 q = (vp cs 0 q).filter (fun p => decide (p ∉ ps)) := by
  intro q
  induction q with
  | zero => intro _; rfl
  | succ q ih =>
    intro hq
    have hql : q < cs.length := by omega
    have e0 := h0 _ (List.getElem_mem hql)
    have e1 : cs.getD q (0, 1) = cs[q] := by rw [List.getD_eq_getElem?_getD, List.getElem?_eq_getElem hql]; rfl
    have e2 : cs'.getD q (0, 1) = (cs[q].1, cs[q].2 + (if q ∈ ps then 1 else 0)) := by rw [List.getD_eq_getElem?_getD, hg, List.getElem?_eq_getElem hql]; rfl
    rw [vp, vp, ih (by omega), List.filter_append, e1, e2]
    congr 1
    dsimp only
    by_cases c : cs[q].2 = 0
    · by_cases d : q ∈ ps
      · have h1 : ¬ (0 ≤ q ∧ cs[q].2 + (if q ∈ ps then (1 : Int) else 0) = 0) := by rw [if_pos d]; omega
        rw [if_neg h1, if_pos ⟨Nat.zero_le _, c⟩, List.filter_cons_of_neg (by simpa using d)]
        rfl
      · have h1 : (0 ≤ q ∧ cs[q].2 + (if q ∈ ps then (1 : Int) else 0) = 0) := by rw [if_neg d]; omega
        rw [if_pos h1, if_pos ⟨Nat.zero_le _, c⟩, List.filter_cons_of_pos (by simpa using d)]
        rfl
    · have h1 : ¬ (0 ≤ q ∧ cs[q].2 + (if q ∈ ps then (1 : Int) else 0) = 0) := by split <;> omega
      rw [if_neg h1, if_neg (fun h => c h.2)]
      rfl
theorem visR_hide (hg : ∀ q : Nat, cs'[q]? = cs[q]?.map (fun c => (c.1, c.2 + (if q ∈ ps then 1 else 0)))) (h0 : ∀ c ∈ cs, 0 ≤ c.2) {lo m : Nat} (hps : ps = ((vp cs 0 cs.length).drop lo).take m) : visR cs' = (visR cs).take lo ++ (visR cs).drop (lo + m) := by
  have hl := get_len hg
  have h1 := vp_runes (C := cs') cs'.length (Nat.le_refl _)
  have h2 := vp_runes (C := cs) cs.length (Nat.le_refl _)
  rw [List.take_length] at h1 h2
  rw [← h1, hl, vp_hide hg h0 _ (Nat.le_refl _), ← h2, ← List.map_take, ← List.map_drop, ← List.map_append, ← filter_mid (vp_nodup cs 0 cs.length) lo m, hps]
  apply List.map_congr_left
  intro p hp
  have hp := (vp_mem (List.mem_filter.1 hp).1).2.1
  have := hg p
  rw [List.getElem?_eq_getElem hp] at this
  simp [rnAt, List.getD_eq_getElem?_getD, this, List.getElem?_eq_getElem hp]
end
theorem hides {cs : List (Int × Int)} (h0 : ∀ c ∈ cs, 0 ≤ c.2 ∧ c.2 ≤ 1000) {lo hi : Nat} (hlo : lo ≤ hi) (hhi : hi ≤ vis cs) {l : List (Nat × Nat)} (hR : Rngs l ((vp cs (nth0 cs lo) cs.length).take (hi - lo))) (hn : l.length ≤ 32768) :
    Norm l cs.length ∧ BumpOk cs l 1 ∧ (bumpC cs l 1).length = cs.length ∧ visR (bumpC cs l 1) = (visR cs).take lo ++ (visR cs).drop hi ∧ BumpOk (bumpC cs l 1) l (-1) ∧ bumpC (bumpC cs l 1) l (-1) = cs ∧ (flat l).length = hi - lo := by
  have hlv := Nat.le_trans hlo hhi
  rw [vp_from hlv] at hR
  obtain ⟨ps, hps⟩ : ∃ ps, ps = ((vp cs 0 cs.length).drop lo).take (hi - lo) := ⟨_, rfl⟩
  rw [← hps] at hR
  have hp : ∀ p ∈ ps, p < cs.length := by
    intro p hp
    rw [hps] at hp
    exact (vp_mem (List.mem_of_mem_drop (List.mem_of_mem_take hp))).2.1
  have hN := hR.norm hp hn
  have hb : ∀ r ∈ l, r.1 ≤ r.2 ∧ r.2 ≤ cs.length := fun r hr => ⟨Nat.le_of_lt (hN.one r hr).1, (hN.one r hr).2⟩
  have hg : ∀ q : Nat, (bumpC cs l 1)[q]? = cs[q]?.map (fun c => (c.1, c.2 + (if q ∈ ps then 1 else 0))) := by
    intro q
    rw [bumpC_get l cs hb, hR.cnt]
    congr 1
    funext c
    by_cases k : q ∈ ps
    · simp [k]
    · simp [k]
  have hl := bumpC_len2 (b := 1) hb
  have hb' : ∀ r ∈ l, r.1 ≤ r.2 ∧ r.2 ≤ (bumpC cs l 1).length := by rw [hl]; exact hb
  refine ⟨hN, fun r hr c hc => ?_, hl, ?_, fun r hr c hc => ?_, ?_, ?_⟩
  · have := h0 c (List.mem_of_mem_take (List.mem_of_mem_drop hc))
    omega
  · have := visR_hide hg (fun c hc => (h0 c hc).1) hps
    rw [this, show lo + (hi - lo) = hi by omega]
  · obtain ⟨i, hi', rfl⟩ := List.getElem_of_mem hc
    have hone := hb' r hr
    have hi2 := hi'
    rw [List.length_drop, List.length_take] at hi2
    have hq : r.1 + i < cs.length := by omega
    have hm : r.1 + i ∈ ps := by
      rw [← hR.all]
      refine List.mem_flatMap.2 ⟨r, hr, ?_⟩
      rw [List.mem_range'_1]
      omega
    have e := hg (r.1 + i)
    rw [List.getElem?_eq_getElem hq, List.getElem?_eq_getElem (by omega), if_pos hm] at e
    have e' := Option.some.inj e
    have e2 : ((bumpC cs l 1).take r.2 |>.drop r.1)[i] = (bumpC cs l 1)[r.1 + i]'(by omega) := by simp
    rw [e2, e']
    have := h0 _ (List.getElem_mem hq)
    dsimp only
    omega
  · apply List.ext_getElem?
    intro q
    rw [bumpC_get l _ hb', hg, hR.cnt]
    cases cs[q]? with
    | none => rfl
    | some c =>
      simp only [Option.map_some]
      refine congrArg some (Prod.ext rfl ?_)
      dsimp only
      by_cases k : q ∈ ps
      · rw [if_pos k, if_pos k]; omega
      · rw [if_neg k, if_neg k]; omega
  · have e := vp_len (C := cs) cs.length (Nat.le_refl _)
    rw [List.take_length] at e
    rw [hR.all, hps, List.length_take, List.length_drop, e]
    omega
theorem inc64 {i : Nat} (h : i ≤ 32768) : wrap64 ((i : Int) + 1) = ((i + 1 : Nat) : Int) := by rw [w64 (by omega) (by omega)]; omega
theorem sub64 {x y : Nat} (h : x ≤ y) (h2 : y ≤ 1048576) : wrap64 ((y : Int) - (x : Int)) = ((y - x : Nat) : Int) := by rw [w64 (by omega) (by omega)]; omega
theorem add64 {x y : Nat} (h : x ≤ 1048576) (h2 : y ≤ 1048576) : wrap64 ((x : Int) + (y : Int)) = ((x + y : Nat) : Int) := by rw [w64 (by omega) (by omega)]; omega
theorem count_l0 {l : List (Nat × Nat)} {n : Nat} (hN : Norm l n) (hn : n ≤ 1048576) : ∀ (d i : Nat) (k : Nat) (a : Nat), d + 1 ≤ k → i + d = l.length → a + (flat (l.drop i)).length ≤ 1048576 → span_Count.l0 k (a : Int) (sRng l) (l.length : Int) (i : Int) = some (((a + (flat (l.drop i)).length : Nat) : Int), 0) := by
  intro d
  induction d with
  | zero =>
    intro i k a hk hi ha
    obtain ⟨k, rfl⟩ : ∃ k', k = k' + 1 := ⟨k - 1, by omega⟩
    rw [span_Count.l0, if_neg (by omega), List.drop_eq_nil_of_le (by omega)]
    rfl
  | succ d ih =>
    intro i k a hk hi ha
    obtain ⟨k, rfl⟩ : ∃ k', k = k' + 1 := ⟨k - 1, by omega⟩
    have hil : i < l.length := by omega
    obtain ⟨h1, h2⟩ := hN.one _ (List.getElem_mem hil)
    have hl := hN.len
    have ed : (flat (l.drop i)).length = (l[i].2 - l[i].1) + (flat (l.drop (i + 1))).length := by
      rw [List.drop_eq_getElem_cons hil, flat_cons, List.length_append, List.length_range']
    have e4 : a + (l[i].2 - l[i].1) + (flat (l.drop (i + 1))).length = a + (flat (l.drop i)).length := by omega
    have hih := ih (i + 1) k (a + (l[i].2 - l[i].1)) (by omega) (by omega) (by rw [e4]; exact ha)
    rw [e4] at hih
    have b1 : i ≤ 32768 := by omega
    have b2 : l[i].2 ≤ 1048576 := by omega
    have b3 : a ≤ 1048576 := by omega
    have c1 : (i : Int) < (l.length : Int) := by omega
    have c3 : (i : Int) < ((sRng l).length : Int) := by rw [sRng_len]; exact c1
    rw [span_Count.l0, if_pos c1, if_pos (Int.natCast_nonneg i), if_pos c3, rd_sRng hil]
    dsimp only
    obtain ⟨x, hx⟩ : ∃ x, x = l[i].1 := ⟨_, rfl⟩
    obtain ⟨y, hy⟩ : ∃ y, y = l[i].2 := ⟨_, rfl⟩
    rw [← hx, ← hy] at hih ⊢
    rw [← hx, ← hy] at h1
    rw [← hy] at b2
    have e1 : wrap64 ((i : Int) + 1) = ((i + 1 : Nat) : Int) := inc64 b1
    have e2 : wrap64 ((y : Int) - (x : Int)) = ((y - x : Nat) : Int) := sub64 (Nat.le_of_lt h1) b2
    have e3 : wrap64 ((a : Int) + ((y - x : Nat) : Int)) = ((a + (y - x) : Nat) : Int) := add64 b3 (Nat.le_trans (Nat.sub_le _ _) b2)
    rw [e1, e2, e3]
    exact hih
theorem count_calls {l : List (Nat × Nat)} {n : Nat} (hN : Norm l n) (hn : n ≤ 1048576) (hf : (flat l).length ≤ 1048576) {w : World} {A : Option Addr} {c : Nat} (hA : Kd.C k133 w A l.length (sRng l)) (hc : l.length ≤ c) : Calls Tryd.prog 38 #[.slice A l.length c] w fun e w' => e = .returned (.tuple #[.int .i64 ((flat l).length : Int), .int .i64 0]) ∧ Below w.heap.size w w' := by
  have hl := sRng_len l
  have hf' : span_Count.f (2 * l.length + 1) (sRng l) = some (((flat l).length : Int), 0) := by
    unfold span_Count.f
    have h1 : span_Check.f (2 * l.length + 1) (sRng l) = some (0, 0) := by
      have := hN.len
      unfold span_Check.f
      rw [sRng_len, if_neg (by omega)]
      exact check_l0 hN hn l.length 0 (by omega)
    rw [h1, Option.bind_some, if_pos rfl, sRng_len]
    have := count_l0 hN hn l.length 0 (2 * l.length + 1) 0 (by omega) (by omega) (by rw [List.drop_zero]; omega)
    rw [List.drop_zero, Nat.zero_add] at this
    exact this
  have := span_Count.calls (2 * l.length + 1) A c (sRng l) _ 0 w (by rw [hl]; exact hA) (by rw [hl]; exact hc) hf'
  rwa [hl] at this
end Go.Proofs.YteeigokkafcaaaaDoorRope
end
section
namespace Go.Proofs.YteeigokkafcaaaaDoorRope
open Go.RowKit Go.Proofs.YteeigokkafcaaaaDoorW.PrintWords Go.Proofs.YteeigokkafcaaaaDoorW.PrintMore Go.Proofs.YteeigokkafcaaaaDoor.Pr
set_option linter.unusedSimpArgs false
set_option linter.unusedVariables false
theorem runs_c {ps : List (Int × Int)} {w : World} {A : Option Addr} {c : Nat} (hA : Kd.C k97 w A ps.length ps) (hc : ps.length ≤ c) (hm : ps.length ≤ 140737488355328) :
    Calls Tryd.prog 15 #[.slice A ps.length c] w fun e w' => ∃ A' c', e = .returned (.slice A' (runsL ps).length c') ∧ Kd.C k58 w' A' (runsL ps).length (sRuns (runsL ps)) ∧ (runsL ps).length ≤ c' ∧ Below w.heap.size w w' := by
  refine (runs_calls hA hc hm).mono ?_
  rintro e w' ⟨A', c', he, hR, hb⟩
  have h1 := (Kd.R_reads' hR).2
  rw [show (sRuns (runsL ps)).length = (runsL ps).length from by simp [sRuns]] at h1
  exact ⟨A', c', he, h1.2, h1.1, hb⟩
theorem row_c {ps : List (Int × Int)} {w : World} {A : Option Addr} {c : Nat} (hA : Kd.C k58 w A (runsL ps).length (sRuns (runsL ps))) :
    Calls Tryd.prog 16 #[.slice A (runsL ps).length c] w fun e w' => ∃ A' c', e = .returned (.slice A' (rcells (runsL ps)).length c') ∧ Row (fun b => w'.heap.size ≤ b) w' A' c' (rcells (runsL ps)) ∧ Below w.heap.size w w' := by
  have hg := runsL_good ps
  have h1 := runsL_cells ps
  have h2 := runsL_len ps
  refine (cells_calls (fun x hx => (hg.one x hx).2.1) (by omega) (by omega) hA).mono ?_
  rintro e w' ⟨A', c', he, hR, hb⟩
  exact ⟨A', c', he, Row.of hR (fun k hk => .inr hk), hb⟩
theorem Row.less {S S' : Nat → Prop} {W : World} {A : Option Addr} {c : Nat} {cs : List (Int × Int)} (h : Row S W A c cs) (hS : ∀ k, S' k → S k) : Row S' W A c cs := by
  obtain ⟨base, h⟩ := h
  exact ⟨base, Kd.R_mono h (fun k hk hs => hk (hS k hs))⟩
theorem from_c {ps : List (Int × Int)} {w : World} {A : Option Addr} {c : Nat} (hw : BarsAt w) (hA : Kd.C k58 w A (runsL ps).length (sRuns (runsL ps))) (hc : (runsL ps).length ≤ c) :
    Calls Tryd.prog 18 #[.slice A (runsL ps).length c] w fun e w' => ∃ b, e = .returned (.tuple #[.pointer (some ⟨b, 0, none⟩), .int .i64 0]) ∧ w.heap.size ≤ b ∧ b ≠ 0 ∧ RopeHas w' b (rcells (runsL ps)) ∧ Below w.heap.size w w' := by
  have h1 := runsL_cells ps
  have h2 := runsL_len ps
  refine (from_yes (runsL_good ps) (by omega) (by omega) hw hA hc).mono ?_
  rintro e w' ⟨b, t, he, hb, hR, hct, hB⟩
  exact ⟨b, he, hb, by have := hw.lt; omega, ⟨_, t, hR, hct⟩, hB⟩
theorem rcells_rn (ps : List (Int × Int)) : ∀ c ∈ rcells (runsL ps), Rn c.1 := by
  intro c hc
  unfold rcells at hc
  obtain ⟨x, hx, hc⟩ := List.mem_flatMap.1 hc
  obtain ⟨r, hr, rfl⟩ := List.mem_map.1 hc
  exact (((runsL_good ps).one x hx).2.1 r hr).rn
structure Stand (w W : World) (b : Nat) (A : Option Addr) (c : Nat) (cs cs' : List (Int × Int)) : Prop where
  bel : Below w.heap.size w W
  bars : BarsAt W
  row : Row (fun k => k = b) W A c cs
  rope : RopeHas W b cs'
  lb : w.heap.size ≤ b
  nz : b ≠ 0
section
variable {w W W' : World} {b : Nat} {A : Option Addr} {c : Nat} {cs cs' cs'' : List (Int × Int)}
theorem below_grown {n : Nat} (h : Below n w W) (hg : W.grownBy W' (some b)) (hb : n ≤ b) (hn : n ≤ W.heap.size) : Below n w W' :=
  ⟨hg.os.trans h.os, hg.tape.trans h.tape, hg.output.trans h.output, Nat.le_trans h.size hg.size, fun k hk => (hg.block k (Nat.lt_of_lt_of_le hk hn) (fun e => by injection e with e; omega)).trans (h.block k hk)⟩
theorem Stand.step (h : Stand w W b A c cs cs') (hb : Below W.heap.size W W') : Stand w W' b A c cs cs' :=
  ⟨h.bel.trans (hb.mono h.bel.size), h.bars.below hb, h.row.below hb, h.rope.below hb, h.lb, h.nz⟩
theorem Stand.put (h : Stand w W b A c cs cs') (hg : W.grownBy W' (some b)) (hr : RopeHas W' b cs'') : Stand w W' b A c cs cs'' :=
  ⟨below_grown h.bel hg h.lb h.bel.size, h.bars.grown hg h.nz, h.row.grown hg rfl, hr, h.lb, h.nz⟩
end
end Go.Proofs.YteeigokkafcaaaaDoorRope
end
section
namespace Go.Proofs.YteeigokkafcaaaaDoorRope
open Go.RowKit Go.Proofs.YteeigokkafcaaaaDoorW.PrintWords Go.Proofs.YteeigokkafcaaaaDoorW.PrintMore Go.Proofs.YteeigokkafcaaaaDoor.Pr
set_option linter.unusedSimpArgs false
set_option linter.unusedVariables false
theorem inc64b {i : Nat} (h : i ≤ 2097152) : wrap64 ((i : Int) + 1) = ((i + 1 : Nat) : Int) := by rw [w64 (by omega) (by omega)]; omega
theorem eqRuns_l0 {l : List S58} (hl : l.length ≤ 1048576) : ∀ (d i : Nat), i + d = l.length → redraftlaw03_EqRuns.l0 (d + 1) l l (i : Int) = some true := by
  intro d
  induction d with
  | zero =>
    intro i hi
    have c1 : ¬ (i : Int) < (l.length : Int) := by omega
    rw [redraftlaw03_EqRuns.l0, if_neg c1]
  | succ d ih =>
    intro i hi
    have hih := ih (i + 1) (by omega)
    have c1 : (i : Int) < (l.length : Int) := by omega
    have b1 : i ≤ 2097152 := by omega
    rw [redraftlaw03_EqRuns.l0, if_pos c1, if_pos (Int.natCast_nonneg i), if_pos c1, if_neg (by simp), inc64b b1]
    exact hih
theorem eqRuns_calls {l : List S58} (hl : l.length ≤ 1048576) {w : World} {A B : Option Addr} {c d : Nat} (hA : Kd.C k58 w A l.length l) (hc : l.length ≤ c) (hB : Kd.C k58 w B l.length l) (hd : l.length ≤ d) : Calls Tryd.prog 35 #[.slice A l.length c, .slice B l.length d] w fun e w' => e = .returned (.bool true) ∧ Below w.heap.size w w' := by
  have h1 : redraftlaw03_EqRuns.f (l.length + 1) l l = some true := by
    unfold redraftlaw03_EqRuns.f
    rw [if_pos rfl]
    exact eqRuns_l0 hl l.length 0 (by omega)
  exact (redraftlaw03_EqRuns.calls _ A c l B d l true w hA hc hB hd h1).mono fun e w' ⟨he, hd⟩ => ⟨he, hd.below⟩
theorem sRuns_len (l : List (List Int × Int)) : (sRuns l).length = l.length := by simp [sRuns]
theorem eqRuns_c {l : List (List Int × Int)} (hl : l.length ≤ 1048576) {w : World} {A B : Option Addr} {c d : Nat} (hA : Kd.C k58 w A l.length (sRuns l)) (hc : l.length ≤ c) (hB : Kd.C k58 w B l.length (sRuns l)) (hd : l.length ≤ d) : Calls Tryd.prog 35 #[.slice A l.length c, .slice B l.length d] w fun e w' => e = .returned (.bool true) ∧ Below w.heap.size w w' := by
  have h := eqRuns_calls (l := sRuns l) (by rw [sRuns_len]; exact hl) (w := w) (A := A) (B := B) (c := c) (d := d) (by rw [sRuns_len]; exact hA) (by rw [sRuns_len]; exact hc) (by rw [sRuns_len]; exact hB) (by rw [sRuns_len]; exact hd)
  rwa [sRuns_len] at h
theorem rope_runs_is {W : World} {b : Nat} {cs : List (Int × Int)} {L : List (List Int × Int)} (h : RopeHas W b cs) (hsz : cs.length ≤ 1048576) (hN : ∀ c ∈ cs, Rn c.1) (hL : Few L) (hc : rcells L = cs) : Calls Tryd.prog 23 #[.pointer (some ⟨b, 0, none⟩)] W fun e w' => ∃ A c, e = .returned (.slice A L.length c) ∧ Kd.C k58 w' A L.length (sRuns L) ∧ L.length ≤ c ∧ Below W.heap.size W w' := by
  refine (rope_runs h hsz hN).mono ?_
  rintro e w' ⟨A, c, L', he, hR, hf, hc', hb⟩
  obtain rfl := few_uniq L' L hf hL (by rw [hc', hc])
  have h1 := (Kd.R_reads' hR).2
  rw [sRuns_len] at h1
  exact ⟨A, c, he, h1.2, h1.1, hb⟩
def RngAt (S : Nat → Prop) (W : World) (A : Option Addr) (c : Nat) (l : List (Nat × Nat)) : Prop := ∃ base, Kd.R k133 133 W base (fun k => ¬ S k) (.slice A l.length c) (sRng l)
section
variable {S : Nat → Prop} {W W' : World} {A : Option Addr} {c : Nat} {l : List (Nat × Nat)}
theorem RngAt.below (h : RngAt S W A c l) (hb : Below W.heap.size W W') : RngAt S W' A c l := by
  obtain ⟨base, h⟩ := h
  exact ⟨base, Kd.R_below h hb⟩
theorem RngAt.grown {b : Nat} (h : RngAt S W A c l) (hg : W.grownBy W' (some b)) (hb : S b) : RngAt S W' A c l := by
  obtain ⟨base, h⟩ := h
  exact ⟨base, Kd.R_step h (fun k hk hl => hg.block k hl (fun e => hk (by injection e with e; rw [e]; exact hb)))⟩
theorem RngAt.rd (h : RngAt S W A c l) : Kd.C k133 W A l.length (sRng l) := by
  obtain ⟨base, h⟩ := h
  have := (Kd.R_reads' h).2.2
  rwa [sRng_len] at this
theorem RngAt.cap (h : RngAt S W A c l) : l.length ≤ c := by
  obtain ⟨base, h⟩ := h
  exact (Kd.R_reads' h).2.1
theorem RngAt.of {n : Nat} {ok : Nat → Prop} (h : Kd.R k133 133 W n ok (.slice A l.length c) (sRng l)) (hS : ∀ k, S k → k < n ∨ W.heap.size ≤ k) : RngAt S W A c l :=
  ⟨n, Kd.R_mono (Kd.R_bound h) (fun k hk hs => by have := hk.2.1; have := hk.2.2.1; rcases hS k hs with h' | h' <;> omega)⟩
end
structure StandR (w W : World) (b : Nat) (A : Option Addr) (c : Nat) (cs cs' : List (Int × Int)) (A' : Option Addr) (c' : Nat) (l : List (Nat × Nat)) : Prop where
  s : Stand w W b A c cs cs'
  r : RngAt (fun k => k = b) W A' c' l
section
variable {w W W' : World} {b : Nat} {A A' : Option Addr} {c c' : Nat} {cs cs' cs'' : List (Int × Int)} {l : List (Nat × Nat)}
theorem StandR.step (h : StandR w W b A c cs cs' A' c' l) (hb : Below W.heap.size W W') : StandR w W' b A c cs cs' A' c' l := ⟨h.s.step hb, h.r.below hb⟩
theorem StandR.put (h : StandR w W b A c cs cs' A' c' l) (hg : W.grownBy W' (some b)) (hr : RopeHas W' b cs'') : StandR w W' b A c cs cs'' A' c' l := ⟨h.s.put hg hr, h.r.grown hg rfl⟩
end
end Go.Proofs.YteeigokkafcaaaaDoorRope
end
section
namespace Go.Proofs.YteeigokkafcaaaaDoorRope
open Go.RowKit Go.Proofs.YteeigokkafcaaaaDoorW.PrintWords Go.Proofs.YteeigokkafcaaaaDoorW.PrintMore Go.Proofs.YteeigokkafcaaaaDoor.Pr
set_option linter.unusedSimpArgs false
set_option linter.unusedVariables false
structure RowOk (H : Int) (cs : List (Int × Int)) : Prop where
  rn : ∀ c ∈ cs, Rn c.1
  h : ∀ c ∈ cs, 0 ≤ c.2 ∧ c.2 ≤ H
theorem RopeHas.lt {W : World} {b : Nat} {cs : List (Int × Int)} (h : RopeHas W b cs) : b < W.heap.size := by
  obtain ⟨K, t, h, _⟩ := h
  obtain ⟨v, hv, _⟩ := h.h
  exact new_lt hv
theorem bump1_mem {cs : List (Int × Int)} {r : Nat × Nat} {b : Int} {c : Int × Int} (h : c ∈ bump1 cs r b) : c ∈ cs ∨ ∃ d ∈ (cs.take r.2).drop r.1, c = (d.1, d.2 + b) := by
  rw [bump1, List.mem_append, List.mem_append] at h
  rcases h with (h | h) | h
  · exact .inl (List.mem_of_mem_take h)
  · obtain ⟨d, hd, rfl⟩ := List.mem_map.1 h
    exact .inr ⟨d, hd, rfl⟩
  · exact .inl (List.mem_of_mem_drop h)
theorem bumpC_mem {cs : List (Int × Int)} {l : List (Nat × Nat)} {b : Int} (hN : Norm l cs.length) : ∀ i, i ≤ l.length → ∀ c ∈ bumpC cs (l.take i) b, c ∈ cs ∨ ∃ r ∈ l, ∃ d ∈ (cs.take r.2).drop r.1, c = (d.1, d.2 + b) := by
  intro i
  induction i with
  | zero => intro _ c hc; exact .inl hc
  | succ i ih =>
    intro hi c hc
    have hil : i < l.length := by omega
    rw [bumpC_take hil] at hc
    rcases bump1_mem hc with h | ⟨d, hd, rfl⟩
    · exact ih (by omega) c h
    · rw [bumpC_mid hN hil] at hd
      exact .inr ⟨l[i], List.getElem_mem hil, d, hd, rfl⟩
end Go.Proofs.YteeigokkafcaaaaDoorRope
end
section
namespace Go.Proofs.YteeigokkafcaaaaDoorRope
open Go.RowKit Go.Proofs.YteeigokkafcaaaaDoorW.PrintWords Go.Proofs.YteeigokkafcaaaaDoorW.PrintMore Go.Proofs.YteeigokkafcaaaaDoor.Pr
set_option linter.unusedSimpArgs false
set_option linter.unusedVariables false
theorem runsG_hid : ∀ (ps : List (Int × Int)) (i : Nat) (prev : Option Int), ∀ x ∈ runsG i prev ps, 0 ≤ x.2 ∧ x.2 ≤ 2
  | [], _, _, x, hx => by cases hx
  | p :: ps, i, prev, x, hx => by
    rcases List.mem_cons.1 hx with rfl | hx
    · have := hidOf_rng prev p.2
      exact ⟨this.1, by have := this.2; show hidOf prev p.2 ≤ _; omega⟩
    · exact runsG_hid ps _ _ x hx
theorem rcells_ok (ps : List (Int × Int)) : RowOk 2 (rcells (runsL ps)) := by
  refine ⟨rcells_rn ps, fun c hc => ?_⟩
  unfold rcells at hc
  obtain ⟨x, hx, hc⟩ := List.mem_flatMap.1 hc
  obtain ⟨r, hr, rfl⟩ := List.mem_map.1 hc
  exact runsG_hid _ _ _ x hx
end Go.Proofs.YteeigokkafcaaaaDoorRope
end
section
namespace Go.Proofs.YteeigokkafcaaaaDoorRope
open Go.RowKit Go.Proofs.YteeigokkafcaaaaDoorW.PrintWords Go.Proofs.YteeigokkafcaaaaDoorW.PrintMore Go.Proofs.YteeigokkafcaaaaDoor.Pr
set_option linter.unusedSimpArgs false
set_option linter.unusedVariables false
theorem hideAll {cs : List (Int × Int)} {l : List (Nat × Nat)} {V N lo hi : Nat} {hd_ tl : ByteArray} (hrn : ∀ c ∈ cs, Rn c.1) (hsz : cs.length ≤ 1152) (hV : V = vis cs) (hhd : hd_ = txt ((visR cs).take lo)) (htl : tl = txt ((visR cs).drop hi)) (hN : N = cs.length) (hhv : hi ≤ vis cs) (hlo : lo ≤ hi)
    (h1 : Norm l cs.length) (h2 : BumpOk cs l 1) (h3 : (bumpC cs l 1).length = cs.length) (h4 : visR (bumpC cs l 1) = (visR cs).take lo ++ (visR cs).drop hi) (h5 : BumpOk (bumpC cs l 1) l (-1)) (h6 : bumpC (bumpC cs l 1) l (-1) = cs) (h7 : (flat l).length = hi - lo) :
    Norm l N ∧ (flat l).length = hi - lo ∧ (∀ W b A c, RopeHas W b cs → Kd.C k133 W A l.length (sRng l) → l.length ≤ c → Calls Tryd.prog 39 #[.pointer (some ⟨b, 0, none⟩), .slice A l.length c, .int .i64 1] W fun e w' => e = .returned (.int .i64 0) ∧ RopeHas w' b (bumpC cs l 1) ∧ W.grownBy w' (some b)) ∧ (∀ W b, RopeHas W b (bumpC cs l 1) → Calls Tryd.prog 30 #[.pointer (some ⟨b, 0, none⟩)] W fun e w' => e = .returned (.string (hd_ ++ tl)) ∧ Below W.heap.size W w') ∧ (∀ W b, RopeHas W b (bumpC cs l 1) → Calls Tryd.prog 20 #[.pointer (some ⟨b, 0, none⟩)] W fun e w' => e = .returned (.int .i64 ((V - (hi - lo) : Nat) : Int)) ∧ Below W.heap.size W w') ∧ (∀ W b, RopeHas W b (bumpC cs l 1) → Calls Tryd.prog 19 #[.pointer (some ⟨b, 0, none⟩)] W fun e w' => e = .returned (.int .i64 (N : Int)) ∧ Below W.heap.size W w') ∧ (∀ W b A c, RopeHas W b (bumpC cs l 1) → Kd.C k133 W A l.length (sRng l) → l.length ≤ c → Calls Tryd.prog 39 #[.pointer (some ⟨b, 0, none⟩), .slice A l.length c, .int .i64 (-1)] W fun e w' => e = .returned (.int .i64 0) ∧ RopeHas w' b cs ∧ W.grownBy w' (some b)) := by
  have hrn1 : ∀ c ∈ bumpC cs l 1, Rn c.1 := by
    have hm := bumpC_mem (b := 1) h1 l.length (Nat.le_refl _)
    rw [List.take_length] at hm
    intro c hc
    rcases hm c hc with h | ⟨r, hr, d, hd, rfl⟩
    · exact hrn _ h
    · exact hrn d (List.mem_of_mem_take (List.mem_of_mem_drop hd))
  have hv1 : vis (bumpC cs l 1) = V - (hi - lo) := by
    rw [← visR_len (bumpC cs l 1), h4, List.length_append, List.length_take, List.length_drop, visR_len, hV]
    omega
  have hN1 : Norm l (bumpC cs l 1).length := by rw [h3]; exact h1
  refine ⟨by rw [hN]; exact h1, h7, fun W b A c h hA hc => rope_bump h (.inl rfl) h1 h2 (by omega) hA hc, fun W b h => ?_, fun W b h => ?_, fun W b h => ?_, fun W b A c h hA hc => ?_⟩
  · have := rope_text h (by omega) hrn1
    rwa [h4, txt_append, ← hhd, ← htl] at this
  · rw [← hv1]; exact rope_shown h
  · have := rope_total h
    rwa [h3, ← hN] at this
  · have := rope_bump h (.inr rfl) hN1 h5 (by omega) hA hc
    rwa [h6] at this
set_option maxRecDepth 100000 in
set_option maxHeartbeats 32000000 in
theorem hides_calls {ps : List (Int × Int)} {w : World} {A : Option Addr} {c : Nat} (a bb : Int) (hA : Kd.C k97 w A ps.length ps) (hc : ps.length ≤ c) (hm : ps.length ≤ 140737488355328) (hw : BarsAt w) :
    Calls Tryd.prog 8 #[.slice A ps.length c, .int .i64 a, .int .i64 bb] w fun e w' => e = .returned (.bool true) ∧ Below w.heap.size w w' := by
  have hok := rcells_ok ps
  have hcl := runsL_cells ps
  have hll := runsL_len ps
  have hfew := (runsL_good ps).few
  have hruns := fun (W : World) (h : Kd.C k97 W A ps.length ps) => runs_c h hc hm
  have hrow := fun (W : World) (A : Option Addr) (c : Nat) (h : Kd.C k58 W A (runsL ps).length (sRuns (runsL ps))) => row_c (c := c) h
  have hfrom := fun (W : World) (A : Option Addr) (c : Nat) (hw : BarsAt W) (h : Kd.C k58 W A (runsL ps).length (sRuns (runsL ps))) (hc : (runsL ps).length ≤ c) => from_c hw h hc
  obtain ⟨cs, hcs⟩ : ∃ cs, cs = rcells (runsL ps) := ⟨_, rfl⟩
  rw [← hcs] at hok hcl hrow hfrom
  obtain ⟨lr, hlr⟩ : ∃ l, l = runsL ps := ⟨_, rfl⟩
  rw [← hlr] at hruns hrow hfrom hcs hll hfew
  have hcr := hcs.symm
  have hrn := hok.rn
  have h01 : ∀ c ∈ cs, 0 ≤ c.2 ∧ c.2 ≤ 1000 := fun c hc => by have := hok.h c hc; omega
  have hsz : cs.length ≤ 1152 := hcl
  obtain ⟨N, hN⟩ : ∃ N, N = cs.length := ⟨_, rfl⟩
  obtain ⟨V, hV⟩ : ∃ V, V = vis cs := ⟨_, rfl⟩
  have hVN : V ≤ N := by rw [hV, hN]; exact vis_le cs
  have bN : (N : Int) ≤ 1152 := by omega
  have bV : (V : Int) ≤ 1152 := by omega
  have m1 := Int.emod_nonneg a (show ((V : Int) + 1) ≠ 0 by omega)
  have m2 := Int.emod_lt_of_pos a (show (0 : Int) < (V : Int) + 1 by omega)
  obtain ⟨lo, hlo_⟩ : ∃ lo : Nat, a % ((V : Int) + 1) = (lo : Int) := ⟨(a % ((V : Int) + 1)).toNat, by omega⟩
  have hlV : lo ≤ V := by omega
  have m3 := Int.emod_nonneg bb (show ((V : Int) - (lo : Int) + 1) ≠ 0 by omega)
  have m4 := Int.emod_lt_of_pos bb (show (0 : Int) < (V : Int) - (lo : Int) + 1 by omega)
  obtain ⟨q, hq_⟩ : ∃ q : Nat, bb % ((V : Int) - (lo : Int) + 1) = (q : Int) := ⟨(bb % ((V : Int) - (lo : Int) + 1)).toNat, by omega⟩
  obtain ⟨hi, hhi⟩ : ∃ hi, hi = lo + q := ⟨_, rfl⟩
  have hlo : lo ≤ hi := by omega
  have hhv : hi ≤ vis cs := by omega
  have hlv : lo ≤ vis cs := by omega
  clear m1 m2 m3 m4
  obtain ⟨hd_, hhd⟩ : ∃ x, x = txt ((visR cs).take lo) := ⟨_, rfl⟩
  obtain ⟨tl, htl⟩ : ∃ x, x = txt ((visR cs).drop hi) := ⟨_, rfl⟩
  obtain ⟨wh, hwh⟩ : ∃ x, x = txt (visR cs) := ⟨_, rfl⟩
  have z1 := txt_size_le ((visR cs).take lo)
  have z2 := txt_size_le ((visR cs).drop hi)
  have zv := vis_le cs
  simp only [List.length_take, List.length_drop, visR_len] at z1 z2
  rw [← hhd] at z1
  rw [← htl] at z2
  have C1 : ∀ W b, RopeHas W b cs → Calls Tryd.prog 31 #[.pointer (some ⟨b, 0, none⟩), .int .i64 0, .int .i64 (lo : Int)] W fun e w' => e = .returned (.tuple #[.string hd_, .int .i64 0]) ∧ Below W.heap.size W w' := fun W b h => by
    have := rope_slice h (by omega) hrn (lo := 0) (Nat.zero_le _) hlv
    rw [List.drop_zero, Nat.sub_zero, ← hhd] at this
    exact this
  have C2 : ∀ W b, RopeHas W b cs → Calls Tryd.prog 31 #[.pointer (some ⟨b, 0, none⟩), .int .i64 (hi : Int), .int .i64 (V : Int)] W fun e w' => e = .returned (.tuple #[.string tl, .int .i64 0]) ∧ Below W.heap.size W w' := fun W b h => by
    have := rope_slice h (by omega) hrn hhv (Nat.le_refl _)
    rw [List.take_of_length_le (by rw [List.length_drop, visR_len]; exact Nat.le_refl _), ← hV, ← htl] at this
    exact this
  have C3 : ∀ W b, RopeHas W b cs → Calls Tryd.prog 36 #[.pointer (some ⟨b, 0, none⟩), .int .i64 (lo : Int), .int .i64 (hi : Int)] W fun e w' => ∃ A c l, e = .returned (.tuple #[.slice A l.length c, .int .i64 0]) ∧ Kd.R k133 133 w' W.heap.size (fun k => W.heap.size ≤ k) (.slice A l.length c) (sRng l) ∧ Rngs l ((vp cs (nth0 cs lo) cs.length).take (hi - lo)) ∧ l.length ≤ hi - lo ∧ Below W.heap.size W w' := fun W b h => rope_visible h (by omega) hlo hhv
  have C4 : ∀ W b, RopeHas W b cs → Calls Tryd.prog 36 #[.pointer (some ⟨b, 0, none⟩), .int .i64 0, .int .i64 (V : Int)] W fun e w' => ∃ A c l, e = .returned (.tuple #[.slice A l.length c, .int .i64 0]) ∧ Kd.R k133 133 w' W.heap.size (fun k => W.heap.size ≤ k) (.slice A l.length c) (sRng l) ∧ Rngs l ((vp cs (nth0 cs 0) cs.length).take (V - 0)) ∧ l.length ≤ V - 0 ∧ Below W.heap.size W w' := fun W b h => rope_visible h (by omega) (Nat.zero_le _) (Nat.le_of_eq hV)
  have C5 : ∀ W b, RopeHas W b cs → Calls Tryd.prog 30 #[.pointer (some ⟨b, 0, none⟩)] W fun e w' => e = .returned (.string wh) ∧ Below W.heap.size W w' := fun W b h => by rw [hwh]; exact rope_text h (by omega) hrn
  have C6 : ∀ W A c, Kd.C k36 W A N (sCells cs) → Calls Tryd.prog 32 #[.slice A N c, .int .i64 0, .int .i64 (N : Int)] W fun e w' => e = .returned (.string wh) ∧ Below W.heap.size W w' := fun W A c h => by rw [hN] at h ⊢; rw [hwh]; exact textS_calls (by omega) hrn h
  have C7 : ∀ W A c, Kd.C k36 W A N (sCells cs) → N ≤ c → Calls Tryd.prog 17 #[.slice A N c, .int .i64 (N : Int)] W fun e w' => e = .returned (.int .i64 (V : Int)) ∧ Below W.heap.size W w' := fun W A c h h2 => by
    rw [hN] at h h2 ⊢
    have := shownS_calls (Nat.le_refl _) (by omega) h h2
    rw [List.take_length, ← hV] at this
    exact this
  have C8 : ∀ W b, RopeHas W b cs → Calls Tryd.prog 23 #[.pointer (some ⟨b, 0, none⟩)] W fun e w' => ∃ A c, e = .returned (.slice A lr.length c) ∧ Kd.C k58 w' A lr.length (sRuns lr) ∧ lr.length ≤ c ∧ Below W.heap.size W w' := fun W b h => rope_runs_is h (by omega) hrn hfew hcr
  have R1 : ∀ W, Calls Tryd.prog 28 #[.int .i64 a, .int .i64 ((V : Int) + 1)] W fun e w' => e = .returned (.int .i64 (lo : Int)) ∧ Below W.heap.size W w' := fun W => by rw [← hlo_]; exact rest_b (by omega) (by omega) W
  have R2 : ∀ W, Calls Tryd.prog 28 #[.int .i64 bb, .int .i64 ((V : Int) - (lo : Int) + 1)] W fun e w' => e = .returned (.int .i64 (q : Int)) ∧ Below W.heap.size W w' := fun W => by rw [← hq_]; exact rest_b (by omega) (by omega) W
  have B1 : ∀ l : List (Nat × Nat), Rngs l ((vp cs (nth0 cs lo) cs.length).take (hi - lo)) → l.length ≤ hi - lo → Norm l N ∧ (flat l).length = hi - lo ∧ (∀ W b A c, RopeHas W b cs → Kd.C k133 W A l.length (sRng l) → l.length ≤ c → Calls Tryd.prog 39 #[.pointer (some ⟨b, 0, none⟩), .slice A l.length c, .int .i64 1] W fun e w' => e = .returned (.int .i64 0) ∧ RopeHas w' b (bumpC cs l 1) ∧ W.grownBy w' (some b)) ∧ (∀ W b, RopeHas W b (bumpC cs l 1) → Calls Tryd.prog 30 #[.pointer (some ⟨b, 0, none⟩)] W fun e w' => e = .returned (.string (hd_ ++ tl)) ∧ Below W.heap.size W w') ∧ (∀ W b, RopeHas W b (bumpC cs l 1) → Calls Tryd.prog 20 #[.pointer (some ⟨b, 0, none⟩)] W fun e w' => e = .returned (.int .i64 ((V - (hi - lo) : Nat) : Int)) ∧ Below W.heap.size W w') ∧ (∀ W b, RopeHas W b (bumpC cs l 1) → Calls Tryd.prog 19 #[.pointer (some ⟨b, 0, none⟩)] W fun e w' => e = .returned (.int .i64 (N : Int)) ∧ Below W.heap.size W w') ∧ (∀ W b A c, RopeHas W b (bumpC cs l 1) → Kd.C k133 W A l.length (sRng l) → l.length ≤ c → Calls Tryd.prog 39 #[.pointer (some ⟨b, 0, none⟩), .slice A l.length c, .int .i64 (-1)] W fun e w' => e = .returned (.int .i64 0) ∧ RopeHas w' b cs ∧ W.grownBy w' (some b)) := fun l hR hll => by
    obtain ⟨h1, h2, h3, h4, h5, h6, h7⟩ := hides h01 hlo hhv hR (by omega)
    exact hideAll hrn hsz hV hhd htl hN hhv hlo h1 h2 h3 h4 h5 h6 h7
  have B2 : ∀ l : List (Nat × Nat), Rngs l ((vp cs (nth0 cs 0) cs.length).take (V - 0)) → l.length ≤ V - 0 → Norm l N ∧ (flat l).length = V - 0 ∧ (∀ W b A c, RopeHas W b cs → Kd.C k133 W A l.length (sRng l) → l.length ≤ c → Calls Tryd.prog 39 #[.pointer (some ⟨b, 0, none⟩), .slice A l.length c, .int .i64 1] W fun e w' => e = .returned (.int .i64 0) ∧ RopeHas w' b (bumpC cs l 1) ∧ W.grownBy w' (some b)) ∧ (∀ W b, RopeHas W b (bumpC cs l 1) → Calls Tryd.prog 30 #[.pointer (some ⟨b, 0, none⟩)] W fun e w' => e = .returned (.string (txt [] ++ txt [])) ∧ Below W.heap.size W w') ∧ (∀ W b, RopeHas W b (bumpC cs l 1) → Calls Tryd.prog 20 #[.pointer (some ⟨b, 0, none⟩)] W fun e w' => e = .returned (.int .i64 ((V - (V - 0) : Nat) : Int)) ∧ Below W.heap.size W w') ∧ (∀ W b, RopeHas W b (bumpC cs l 1) → Calls Tryd.prog 19 #[.pointer (some ⟨b, 0, none⟩)] W fun e w' => e = .returned (.int .i64 (N : Int)) ∧ Below W.heap.size W w') ∧ (∀ W b A c, RopeHas W b (bumpC cs l 1) → Kd.C k133 W A l.length (sRng l) → l.length ≤ c → Calls Tryd.prog 39 #[.pointer (some ⟨b, 0, none⟩), .slice A l.length c, .int .i64 (-1)] W fun e w' => e = .returned (.int .i64 0) ∧ RopeHas w' b cs ∧ W.grownBy w' (some b)) := fun l hR hll => by
    obtain ⟨h1, h2, h3, h4, h5, h6, h7⟩ := hides h01 (Nat.zero_le _) (Nat.le_of_eq hV) hR (by omega)
    exact hideAll hrn hsz hV (by rw [List.take_zero]) (by rw [List.drop_eq_nil_of_le (by rw [visR_len]; omega)]) hN (Nat.le_of_eq hV) (Nat.zero_le _) h1 h2 h3 h4 h5 h6 h7
  have b1 : (hd_.size : Int) + (tl.size : Int) ≤ 9223372036854775807 := by omega
  have eh : (lo : Int) + (q : Int) = (hi : Int) := by omega
  have bl : (lo : Int) ≤ 1152 := by omega
  have bh : (hi : Int) ≤ 1152 := by omega
  have bq : (q : Int) ≤ 1152 := by omega
  have ed : (hi : Int) - (lo : Int) = ((hi - lo : Nat) : Int) := by omega
  have ed2 : (V : Int) - ((hi - lo : Nat) : Int) = ((V - (hi - lo) : Nat) : Int) := by omega
  have bD : ((hi - lo : Nat) : Int) ≤ 1152 := by omega
  have bl2 : (lo : Int) ≤ (V : Int) := by omega
  have bl3 : (lo : Int) ≤ (hi : Int) := by omega
  have bl4 : ((hi - lo : Nat) : Int) ≤ (V : Int) := by omega
  have eX : txt [] ++ txt [] = ⟨#[]⟩ := by rfl
  have eZ : ((V - (V - 0) : Nat) : Int) = 0 := by omega
  rw [eX, eZ] at B2
  replace C1 := Lib.hid C1
  replace C2 := Lib.hid C2
  replace C3 := Lib.hid C3
  replace C4 := Lib.hid C4
  replace C5 := Lib.hid C5
  replace C6 := Lib.hid C6
  replace C7 := Lib.hid C7
  replace C8 := Lib.hid C8
  replace R1 := Lib.hid R1
  replace R2 := Lib.hid R2
  replace B1 := Lib.hid B1
  replace B2 := Lib.hid B2
  have HR := Lib.hid hruns
  have HW := Lib.hid hrow
  have HF := Lib.hid hfrom
  have HN := Lib.hid hN
  have HLL := Lib.hid (show lr.length ≤ 1048576 by omega)
  have HNB := Lib.hid (show N ≤ 1048576 by omega)
  have HHB := Lib.hid (show hi - lo ≤ 1048576 by omega)
  clear hruns hrow hfrom hcs hlr hcr hok hcl hll hfew hrn h01 hsz hV hVN hlo_ hlV hq_ hhi hlo hhv hlv hhd htl hwh z1 z2 zv hc hm hN eX eZ
  go_enter Tryd.func8, Tryd.ntmps8
  go_wp2_with (first
    | (go_at_call 15; refine (HR.out w hA).mono ?_; rintro e w1 ⟨A1, c1, rfl, hC1, hc1, hb1⟩; clear hA HR)
    | (go_at_call 16; refine (HW.out w1 A1 c1 hC1).mono ?_; rw [← HN.out]; rintro e w2 ⟨A2, c2, rfl, hR2, hb2⟩)
    | (go_at_call 17; refine (C7.out w2 A2 c2 (by rw [HN.out]; exact hR2.rd) (by rw [HN.out]; exact hR2.cap)).mono ?_; rintro e w3 ⟨rfl, hb3⟩; have hR3 := hR2.below hb3; have hz23 : w2.heap.size ≤ w3.heap.size := hb3.size; have hB3 : Below w1.heap.size w1 w3 := hb2.trans (hb3.mono hb2.size); clear hb3 C7)
    | (go_at_call 28; refine (R1.out w3).mono ?_; clear R1; rintro e w4 ⟨rfl, hb4⟩; have hR4 := hR3.below hb4; have hz34 : w3.heap.size ≤ w4.heap.size := hb4.size; have hB4 : Below w1.heap.size w1 w4 := hB3.trans (hb4.mono hB3.size); clear hR3 hb4 hB3)
    | (go_at_call 28; refine (R2.out w4).mono ?_; clear R2; rintro e w5 ⟨rfl, hb5⟩; have hR5 := hR4.below hb5; have hB5 : Below w1.heap.size w1 w5 := hB4.trans (hb5.mono hB4.size); have hz25 : w2.heap.size ≤ w5.heap.size := (Nat.le_trans hz23 (Nat.le_trans hz34 hb5.size)); clear hR4 hb5 hB4)
    | (go_at_call 18; refine (HF.out w5 A1 c1 ((hw.below hb1).below hB5) (Kd.C_below hC1 hB5) hc1).mono ?_; rintro e w6 ⟨b, rfl, hlb, hnz, hro, hb6⟩; have S6 : Stand w1 w6 b A2 c2 cs cs := ⟨hB5.trans (hb6.mono hB5.size), ((hw.below hb1).below hB5).below hb6, (hR5.below hb6).less (fun k hk => by rw [hk]; exact Nat.le_trans hz25 hlb), hro, Nat.le_trans hB5.size hlb, hnz⟩; clear hro hb6 hB5 hR5 HF)
    | (go_at_call 31; refine (C1.out w6 b S6.rope).mono ?_; clear C1; rintro e w7 ⟨rfl, hb7⟩; have S7 := S6.step hb7; clear S6 hb7)
    | (go_at_call 31; refine (C2.out w7 b S7.rope).mono ?_; clear C2; rintro e w8 ⟨rfl, hb8⟩; have S8 := S7.step hb8; clear S7 hb8)
    | (go_at_call 36; refine (C3.out w8 b S8.rope).mono ?_; clear C3; rintro e w9 ⟨A9, c9, l, rfl, hR9, hRl, hll9, hb9⟩; have hlt8 := S8.rope.lt; have S9 : StandR w1 w9 b A2 c2 cs cs A9 c9 l := ⟨S8.step hb9, RngAt.of hR9 (fun k hk => .inl (by rw [hk]; exact hlt8))⟩; have hBB := B1.out l hRl hll9; obtain ⟨g1, g2, g3, g4, g5, g6, g7⟩ := hBB; replace g1 := Lib.hid g1; replace g2 := Lib.hid g2; replace g3 := Lib.hid g3; replace g4 := Lib.hid g4; replace g5 := Lib.hid g5; replace g6 := Lib.hid g6; replace g7 := Lib.hid g7; clear S8 hb9 hR9 hRl hll9 hlt8 B1)
    | (go_at_call 37; refine (check_calls g1.out HNB.out S9.r.rd S9.r.cap).mono ?_; rintro e w10 ⟨rfl, hb10⟩; have S10 := S9.step hb10; clear S9 hb10)
    | (go_at_call 38; refine (count_calls g1.out HNB.out (by rw [g2.out]; exact HHB.out) S10.r.rd S10.r.cap).mono ?_; rw [g2.out]; rintro e w11 ⟨rfl, hb11⟩; have S11 := S10.step hb11; clear S10 hb11)
    | (go_at_call 39; refine (g3.out w11 b A9 c9 S11.s.rope S11.r.rd S11.r.cap).mono ?_; clear g3; rintro e w12 ⟨rfl, hro, hg⟩; have S12 := S11.put hg hro; clear S11 hro hg)
    | (go_at_call 30; refine (g4.out w12 b S12.s.rope).mono ?_; clear g4; rintro e w13 ⟨rfl, hb13⟩; have S13 := S12.step hb13; clear S12 hb13)
    | (go_at_call 20; refine (g5.out w13 b S13.s.rope).mono ?_; clear g5; rintro e w14 ⟨rfl, hb14⟩; have S14 := S13.step hb14; clear S13 hb14)
    | (go_at_call 19; refine (g6.out w14 b S14.s.rope).mono ?_; clear g6; rintro e w15 ⟨rfl, hb15⟩; have S15 := S14.step hb15; clear S14 hb15)
    | (go_at_call 39; refine (g7.out w15 b A9 c9 S15.s.rope S15.r.rd S15.r.cap).mono ?_; clear g7; rintro e w16 ⟨rfl, hro, hg⟩; have S16 := S15.put hg hro; clear S15 hro hg)
    | (go_at_call 23; refine (C8.out w16 b S16.s.rope).mono ?_; clear C8; rintro e w17 ⟨A17, c17, rfl, hC17, hc17, hb17⟩; have S17 := S16.step hb17; clear S16 hb17)
    | (go_at_call 35; refine (eqRuns_c HLL.out hC17 hc17 (Kd.C_below hC1 S17.s.bel) hc1).mono ?_; rintro e w18 ⟨rfl, hb18⟩; have S18 := S17.step hb18; clear S17 hb18 hC17)
    | (go_at_call 36; refine (C4.out w18 b S18.s.rope).mono ?_; clear C4; rintro e w19 ⟨A19, c19, l2, rfl, hR19, hRl, hll9, hb19⟩; have hlt8 := S18.s.rope.lt; have S19 : StandR w1 w19 b A2 c2 cs cs A19 c19 l2 := ⟨S18.s.step hb19, RngAt.of hR19 (fun k hk => .inl (by rw [hk]; exact hlt8))⟩; have hBB := B2.out l2 hRl hll9; obtain ⟨k1, k2, k3, k4, k5, k6, k7⟩ := hBB; replace k3 := Lib.hid k3; replace k4 := Lib.hid k4; replace k5 := Lib.hid k5; replace k7 := Lib.hid k7; clear S18 hb19 hR19 hRl hll9 hlt8 B2 k1 k2 k6)
    | (go_at_call 39; refine (k3.out w19 b A19 c19 S19.s.rope S19.r.rd S19.r.cap).mono ?_; clear k3; rintro e w20 ⟨rfl, hro, hg⟩; have S20 := S19.put hg hro; clear S19 hro hg)
    | (go_at_call 30; refine (k4.out w20 b S20.s.rope).mono ?_; clear k4; rintro e w21 ⟨rfl, hb21⟩; have S21 := S20.step hb21; clear S20 hb21)
    | (go_at_call 20; refine (k5.out w21 b S21.s.rope).mono ?_; clear k5; rintro e w22 ⟨rfl, hb22⟩; have S22 := S21.step hb22; clear S21 hb22)
    | (go_at_call 39; refine (k7.out w22 b A19 c19 S22.s.rope S22.r.rd S22.r.cap).mono ?_; clear k7; rintro e w23 ⟨rfl, hro, hg⟩; have S23 := S22.put hg hro; clear S22 hro hg)
    | (go_at_call 30; refine (C5.out w23 b S23.s.rope).mono ?_; clear C5; rintro e w24 ⟨rfl, hb24⟩; have S24 := S23.step hb24; clear S23 hb24)
    | (go_at_call 32; refine (C6.out w24 A2 c2 (by rw [HN.out]; exact S24.s.row.rd)).mono ?_; clear C6; rintro e w25 ⟨rfl, hb25⟩; have S25 := S24.step hb25; clear S24 hb25))
  go_ret
  exact ⟨rfl, hb1.trans (S25.s.bel.mono hb1.size)⟩
end Go.Proofs.YteeigokkafcaaaaDoorRope
end
